/- Parameters: what they are; the laws' sizes, copies, equality and marks on them. -/
import Derived.Test.YtlaniepnglheoaaGreatDoorA1
import Derived.Test.YtlaniepnglheoaaGreatDoorKa
set_option linter.unusedVariables false
set_option linter.unusedSimpArgs false
namespace Go.Proofs.YtlaniepnglheoaaGreatDoor
open Go Go.Proofs Go.Proofs.Tryz Go.IntWalk
structure Pm where
 nm:ByteArray
 ty:Ty
 dy:Bool
def Pm.Is (g:Pm)(d:D):Prop:=∃ t0 t1,d=.ag [.t g.nm,t0,t1,.lit (.bool g.dy)]/\g.nm.size<=4611686018427387904/\g.ty.Is (.ag [t0,t1])
theorem zn (n a b:Int):vU 39 [.j n,.j a,.j b] (inB n a b):=λN Q I=>by
 refine Ji N n a b Q ?_
 repeat' first|with_reducible intro _|simp only[Y1]|with_reducible refine X ?_ ?_|refine⟨_,_,_,rfl,?_⟩|refine⟨_,rfl,?_⟩|refine X0 ?_|fail
 all_goals simpa [inB, *]using I _ (by omega)
def BY {α:Type}(p:α->Bool):List α->Int->Int
 | [],_ => -1
 | x::xs,i=>if p x then i else BY p xs (i+1)
theorem pJ {α:Type}(p:α->Bool):∀(l:List α)(i:Int),0<=i->decide (BY p l i≥0)=l.any p
 | [],i,h=>by simp[BY]
 | x::xs,i,h=>by
   have I:=pJ p xs (i+1) (by omega);rw[mA,nh]at I ⊢;simp only[BY,lO,ny];by_cases J:p x=true
   ·simp only[J,mF,true_or,iff_true];exact h
   ·simpa [J]using I
def zA (l:List ByteArray):List D:=l.map λs=>.t s
theorem xZ:∀ l:List ByteArray,All2 (λs d=>d=.t s) l (zA l)
 | []=>rfl
 | s::l=>⟨_,_,rfl,rfl,xZ l⟩
theorem Lv (l:List ByteArray)(hl:l.length<=4611686018427387904)(a:Option Addr)(c:Nat)(s:ByteArray):AG 222 [.sv a 0 (zA l) c,.str s] (BY (λx=>decide (s=x)) l 0):=λN Q hQ=>by
 have U:=xZ l;have Y:(zA l).length<=4611686018427387904:=by rw[U.len];exact hl
 refine Af N a _ c s Q λ_=>?_;refine up U Y (λi xs=>∀(N':Nat),N<=N'->(∀ O,N'<=O->Q (BY (λx=>decide (s=x)) xs i) O)->yu Q N a (zA l) c s ((zA l).length:Int) i N') ?_ ?_ N (oC _) hQ
 ·intro i ab _ N' aa I;refine vv ?_
  repeat' first|with_reducible intro _|simp only[ab,Y1]|with_reducible refine X ?_ ?_|refine⟨_,_,_,rfl,?_⟩|refine⟨_,rfl,?_⟩|refine X0 ?_|fail
  exact I _ (by omega)
 ·intro i x xs J _ ac N' aa I;have hb:=J.b;have hr:=J.r;simp only[BY]at I;refine vv ?_
  repeat' first|with_reducible intro _|simp only[J.lt,J.w,oG,hr,Y1]|with_reducible refine X ?_ ?_|refine⟨_,_,_,rfl,?_⟩|refine⟨_,rfl,?_⟩|refine X0 ?_|fail
  ·rename_i h _ _;subst h;exact Qi (I _ (by omega)) (by simp)
  ·rename_i h;exact ac _ aa λO h2=>Qi (I _ h2) (by rw[if_neg (by simpa using h)];simp)
theorem y9 (l:List ByteArray)(I:l.length<=4611686018427387904)(a:Option Addr)(c:Nat)(s:ByteArray):vU 174 [.sv a 0 (zA l) c,.str s] (l.any λx=>decide (s=x)):=λN Q J=>by
 refine ru N a _ c s Q λ_=>?_
 repeat' first|with_reducible intro _|simp only[Y1]|with_reducible refine X ?_ ?_|refine⟨_,_,_,rfl,?_⟩|refine⟨_,rfl,?_⟩|refine X0 ?_|refine(Lv l I a c s) _ _ ?_|fail
 exact Qb (J _ (by omega)) (pJ _ l 0 (by omega)).symm
theorem sk (s:ByteArray)(hs:s.size<=4611686018427387904):vU 117 [.str s] (yK s):=λN Q hQ=>by
 refine JX N s Q ?_;have key:=upN hs (λi=>∀ N',N<=N'->(∀ J,N'<=J->Q (uV s i&&Dh s) J)->xI Q N s (s.size:Int) i N') ?_ ?_
 ·exact key N (oC _) hQ
 ·intro O N' U I;have hc:=y9 [bytes [105,102],bytes [108,101,116],bytes [108,105,102,116],bytes [114,101,99],bytes [114,117,110]] (by simp);simp only[zA,List.map]at hc;refine qR ?_
  repeat' first|with_reducible intro _|simp only[O,Y1]|with_reducible refine X ?_ ?_|refine⟨_,_,_,rfl,?_⟩|refine⟨_,rfl,?_⟩|refine X0 ?_|refine(zn _ _ _) _ _ ?_|refine(hc _ _ _) _ _ ?_|fail
  all_goals(refine Qb (I _ (by omega)) ?_;rw[DZ])
  ·simp only[Dh,lO,List.any_nil,Bool.or_false, *];cases decide (s=bytes [105,102])<;>cases decide (s=bytes [108,101,116])<;>cases decide (s=bytes [108,105,102,116])<;>cases decide (s=bytes [114,101,99])<;>cases decide (s=bytes [114,117,110])<;>rfl
  ·simp[Dh, *]
 ·intro i hi O hw Y N' U I;refine qR ?_;rw[Bh hi]at I
  repeat' first|with_reducible intro _|simp only[O,hw,oG,Y1]|with_reducible refine X ?_ ?_|refine⟨_,_,_,rfl,?_⟩|refine⟨_,rfl,?_⟩|refine X0 ?_|fail
  all_goals first
   | (refine Qb (I _ (by omega)) ?_;unfold BS AH;simp only[*];simp;done)
   | (refine Y _ (by omega) λJ h=>Qb (I J (by omega)) ?_;unfold BS AH;simp only[*];simp;done)
theorem Cd:∀(t:Ty)(d:D),t.Is d->t.cnt<=1073741824->AG 126 [.dg 2 d] t.cnt:=by
 refine Ty.ind λk l ih d hd hc N Q hQ=>?_;obtain⟨a,es,c,rfl,J,O⟩:=Ty.is_mk.1 hd;simp only[Ty.cnt]at hc;refine DG N _ Q λ_=>⟨_,_,_,rfl,?_⟩
 refine up O J (λi xs=>∀(m:Nat) (N':Nat),N<=N'->m+zS xs=1+zS l->xS Q N m a es c es.length i N') ?_ ?_ 1 N (oC _) rfl
 ·intro i U _ m N' Y hm;refine uq ?_;simp only[zS]at hm
  repeat' first|with_reducible intro _|simp only[U,Y1]|with_reducible refine X ?_ ?_|refine⟨_,_,_,rfl,?_⟩|refine⟨_,rfl,?_⟩|refine X0 ?_|fail
  exact Qi (hQ _ (by omega)) (by simp only[Ty.cnt];omega)
 ·intro i x xs I _ aa m N' Y hm;have hb:=I.b;have ab:=wR I.m;simp only[zS]at hm;refine uq ?_
  repeat' first|with_reducible intro _|simp only[I.lt,I.w,oG,Y1]|with_reducible refine X ?_ ?_|refine⟨_,_,_,rfl,?_⟩|refine⟨_,rfl,?_⟩|refine X0 ?_|refine(ih x I.m _ I.r (by omega)) _ _ ?_|fail
  rw[i64_in _ (by omega)];exact aa (m+x.cnt) _ (by omega) (by omega)
theorem BE:∀(t:Ty)(d:D),t.Is d->t.cnt<=1073741824->AG 127 [.dg 2 d] t.dep:=by
 refine Ty.ind λk l ih d hd hc N Q hQ=>?_;obtain⟨a,es,c,rfl,J,O⟩:=Ty.is_mk.1 hd;simp only[Ty.cnt]at hc;have ab:=pZ l;refine Bz N _ Q λ_=>⟨_,_,_,rfl,?_⟩
 refine up O J (λi xs=>∀(m:Nat) (N':Nat),N<=N'->max m (tk xs)=tk l->xD Q N m a es c es.length i N') ?_ ?_ 0 N (oC _) (by omega)
 ·intro i U _ m N' Y hm;refine uK ?_;simp only[tk]at hm
  repeat' first|with_reducible intro _|simp only[U,Y1]|with_reducible refine X ?_ ?_|refine⟨_,_,_,rfl,?_⟩|refine⟨_,rfl,?_⟩|refine X0 ?_|fail
  rw[i64_in _ (by omega)];exact Qi (hQ _ (by omega)) (by simp only[Ty.dep];omega)
 ·intro i x xs I _ aa m N' Y hm;have hb:=I.b;have ac:=wR I.m;simp only[tk]at hm;refine uK ?_
  repeat' first|with_reducible intro _|simp only[I.lt,I.w,oG,Y1]|with_reducible refine X ?_ ?_|refine⟨_,_,_,rfl,?_⟩|refine⟨_,rfl,?_⟩|refine X0 ?_|refine(ih x I.m _ I.r (by omega)) _ _ ?_|fail
  have e:(if(x.dep:Int)>(m:Int)then(x.dep:Int)else(m:Int))=((max m x.dep:Nat):Int):=by split<;>omega
  rw[e];exact aa _ _ (by omega) (by omega)
theorem E6 (t:Ty)(d:D)(hd:t.Is d):vU 129 [.dg 2 d] (qL t.k t.as.length):=λN Q J=>by
 cases t with
 | mk k l=>
 obtain⟨a,es,c,rfl,U,O⟩:=Ty.is_mk.1 hd;have Y:=O.len;simp only[Ty.k,Ty.as]at J;refine pv N _ Q λ_=>?_;cases I:inB k 1 4 with
 | false=>
   repeat' first|with_reducible intro _|simp only[I,Y1]|with_reducible refine X ?_ ?_|refine⟨_,_,_,rfl,?_⟩|refine⟨_,rfl,?_⟩|refine X0 ?_|refine(zn _ _ _) _ _ ?_|fail
   refine Qb (J _ (by omega)) ?_;have:¬(1<=k/\k<=4):=λh=>by rw[yI.2 h]at I;cases I
   unfold qL;rw[if_neg (by omega),if_neg (by omega),if_neg (by omega)]
 | true=>
   have hb:=yI.1 I;have w0:IntKind.i64.wrap 0=0:=rfl;have w1:IntKind.i64.wrap 1=1:=rfl;have w2:IntKind.i64.wrap 2=2:=rfl;have w3:IntKind.i64.wrap 3=3:=rfl;have hk:k=1\/k=2\/k=3\/k=4:=by omega
   rcases hk with rfl | rfl | rfl | rfl
   all_goals
    repeat' first|with_reducible intro _|simp only[I,w0,w1,w2,w3,Y1]|with_reducible refine X ?_ ?_|refine⟨_,_,_,rfl,?_⟩|refine⟨_,rfl,?_⟩|refine X0 ?_|refine(zn _ _ _) _ _ ?_|fail
    refine Qb (J _ (by omega)) ?_;simp[qL,Y]
theorem F9:∀ l:List Ty,tC l=!(l.any λx=>!x.form)
 | []=>rfl
 | t::ts=>by simp only[tC,lO,F9 ts];cases t.form<;>simp
theorem E4 {p:Ty->Bool} {l:List Ty} {es:List D} (h:All2 Ty.Is l es) (U:es.length<=4611686018427387904) (ad:Addr) (hp:∀ x∈l,∀ d,x.Is d->vU 193 [.dg 2 d,.pd ad 0 (.fn 129 [])] (p x)) (a:Option Addr) (c:Nat) :
  vU 192 [.sv a 2 es c,.fn 193 [.pd ad 0 (.fn 129 [])]] (l.any p):=λN Q Y=>by
 have hi:AG 234 [.sv a 2 es c,.fn 193 [.pd ad 0 (.fn 129 [])]] (BY p l 0):=λN Q Y=>by
  refine tK N a es c ad Q λ_=>?_;refine up h U (λi xs=>∀(N':Nat),N<=N'->(∀ O,N'<=O->Q (BY p xs i) O)->yE Q N a es c ad es.length i N') ?_ ?_ N (oC _) Y
  ·intro i aa _ N' ab I;refine wA ?_
   repeat' first|with_reducible intro _|simp only[aa,Y1]|with_reducible refine X ?_ ?_|refine⟨_,_,_,rfl,?_⟩|refine⟨_,rfl,?_⟩|refine X0 ?_|fail
   exact I _ (by omega)
  ·intro i x xs J _ ac N' ab I;have hb:=J.b;simp only[BY]at I;refine wA ?_
   repeat' first|with_reducible intro _|simp only[J.lt,J.w,oG,Y1]|with_reducible refine X ?_ ?_|refine⟨_,_,_,rfl,?_⟩|refine⟨_,rfl,?_⟩|refine X0 ?_|refine(hp x J.m _ J.r) _ _ ?_|fail
   ·exact Qi (I _ (by omega)) (by rw[if_pos (by assumption)])
   ·rename_i h;exact ac _ (by omega) λO h2=>Qi (I _ (by omega)) (by rw[h];simp)
 refine uJ N a es c ad Q λ_=>?_
 repeat' first|with_reducible intro _|simp only[Y1]|with_reducible refine X ?_ ?_|refine⟨_,_,_,rfl,?_⟩|refine⟨_,rfl,?_⟩|refine X0 ?_|refine hi _ _ ?_|fail
 exact Qb (Y _ (by omega)) (pJ _ l 0 (by omega)).symm
theorem OT:∀(t:Ty)(d:D),t.Is d->vU 128 [.dg 2 d,.fn 129 []] t.form:=by
 refine Ty.ind λk l Y d hd N Q I=>?_;have O:=hd;obtain⟨a,es,c,rfl,J,U⟩:=Ty.is_mk.1 hd;refine CA N _ Q λ_=>?_;simp only[Ty.form,F9]at I
 repeat' first|with_reducible intro _|simp only[Y1]|with_reducible refine X ?_ ?_|refine⟨_,_,_,rfl,?_⟩|refine⟨_,rfl,?_⟩|refine X0 ?_|refine(E6 _ _ O) _ _ ?_|refine(E4 U J _ (λx hx d hd=>λN Q I=>pz N d _ Q λ_ N1 aa=>Y x hx d hd N1 _ λN2 ab ac N3 ae=>I N3 (by omega)) _ _) _ _ ?_|fail
 ·have h:qL (Ty.mk k l).k (Ty.mk k l).as.length=true:=by assumption
  exact Qb (I _ (by omega)) (by simp only[Ty.k,Ty.as]at h;rw[h,Bool.and_true])
 ·rename_i h _ _;exact Qb (I _ (by omega)) (by simp only[Ty.k,Ty.as]at h;rw[h,lG])
theorem yy (t:Ty)(d:D)(hd:t.Is d)(hc:t.cnt<=1073741824):vU 62 [.dg 2 d] t.valid:=λN Q I=>by
 refine B6 N _ Q λ_=>?_
 repeat' first|with_reducible intro _|simp only[Y1]|with_reducible refine X ?_ ?_|refine⟨_,_,_,rfl,?_⟩|refine⟨_,rfl,?_⟩|refine X0 ?_|refine(Cd t d hd hc) _ _ ?_|refine(BE t d hd hc) _ _ ?_|refine(OT t d hd) _ _ ?_|fail
 ·refine Qb (I _ (by omega)) ?_;have J:t.cnt<=30:=by omega
  have O:t.dep<=8:=by omega
  simp[Ty.valid, *]
 ·refine Qb (I _ (by omega)) ?_;have O:¬t.dep<=8:=by omega
  simp[Ty.valid, *]
 ·refine Qb (I _ (by omega)) ?_;have J:¬t.cnt<=30:=by omega
  simp[Ty.valid, *]
theorem za:∀(t u:Ty)(d e:D),t.Is d->u.Is e->vU 182 [.dg 2 d,.dg 2 e] (sd t u):=by
 refine Ty.ind λk l ih u d e hd he N Q hQ=>?_;cases u with
 | mk k' l'=>
 obtain⟨a,es,c,rfl,aa,ab⟩:=Ty.is_mk.1 hd;obtain⟨a',Y,c',rfl,ae,U⟩:=Ty.is_mk.1 he;have hl:=ab.len;have al:=U.len;simp only[sd]at hQ;have hf:vU 223 [.sv a 2 es c,.sv a' 2 Y c',.fn 182 []] (rH l l'):=λN Q hQ=>by
  have key:l.length=l'.length->∀(N':Nat),N<=N'->(∀ I,N'<=I->Q (rH l (l'.drop 0)) I)->zW Q N a' Y c' a es c es.length (0:Nat) N':=by
   intro ao;refine up ab aa (λi xs=>∀(N':Nat),N<=N'->(∀ I,N'<=I->Q (rH xs (l'.drop i)) I)->zW Q N a' Y c' a es c es.length i N') ?_ ?_
   ·intro i ah hi N' ai J;refine x3 ?_
    repeat' first|with_reducible intro _|simp only[ah,Y1]|with_reducible refine X ?_ ?_|refine⟨_,_,_,rfl,?_⟩|refine⟨_,rfl,?_⟩|refine X0 ?_|fail
    refine Qb (J _ (by assumption)) ?_;rw[mN (by omega)];rfl
   ·intro i x xs O _ aj N' ai J;have hb:=O.b;have ac:i<l'.length:=by omega
    have hg:l'[i]?=some l'[i]:=oI ac;have ak:l'.drop i=l'[i]::l'.drop (i+1):=mf ac;refine x3 ?_;rw[ak]at J
    repeat' first|with_reducible intro _|simp only[O.lt,O.w,oG,Y1]|with_reducible refine X ?_ ?_|refine⟨_,_,_,rfl,?_⟩|refine⟨_,rfl,?_⟩|refine X0 ?_|refine(ih x O.m _ _ _ O.r (U.get hg)) _ _ ?_|fail
    ·exact Qb (J _ (by omega)) (by simp[rH, *])
    ·exact aj _ (by omega) λI h=>Qb (J I (by omega)) (by simp[rH, *])
  refine tI N _ _ _ _ _ _ Q λ_ _=>?_
  repeat' first|with_reducible intro _|simp only[Y1]|with_reducible refine X ?_ ?_|refine⟨_,_,_,rfl,?_⟩|refine⟨_,rfl,?_⟩|refine X0 ?_|fail
  ·exact Qb (hQ _ (by assumption)) (F8 (by omega))
  ·exact key (by omega) N (oC _) hQ
 refine D5 N _ _ Q λ_ _=>?_
 repeat' first|with_reducible intro _|simp only[Y1]|with_reducible refine X ?_ ?_|refine⟨_,_,_,rfl,?_⟩|refine⟨_,rfl,?_⟩|refine X0 ?_|refine hf _ _ ?_|fail
 ·exact Qb (hQ _ (by omega)) (by simp[*])
 ·exact Qb (hQ _ (by omega)) (by simp[*])
theorem BF (t:Ty)(d:D)(hd:t.Is d):vU 228 [.dg 2 d] t.base:=λN Q U=>by
 cases t with
 | mk k l=>
 obtain⟨a,es,c,rfl,O,I⟩:=Ty.is_mk.1 hd;have Y:=I.len;have J:inB k 1 2=(k==1||k==2):=by rw[mA,yI];simp;omega
 refine JW N _ Q λ_=>?_
 repeat' first|with_reducible intro _|simp only[Y1]|with_reducible refine X ?_ ?_|refine⟨_,_,_,rfl,?_⟩|refine⟨_,rfl,?_⟩|refine X0 ?_|refine(zn _ _ _) _ _ ?_|fail
 all_goals(rename_i h _ _;rw[J]at h;exact Qb (U _ (by omega)) (by simp only[Ty.base,Ty.k,Ty.as,h,Y];simp))
theorem AI (s:ByteArray):AG 214 [.str s] (sc s):=λN Q I=>by
 refine G9 N s Q ?_
 repeat' first|with_reducible intro _|simp only[Y1]|with_reducible refine X ?_ ?_|refine⟨_,_,_,rfl,?_⟩|refine⟨_,rfl,?_⟩|refine X0 ?_|fail
 all_goals(refine Qi (I _ (by assumption)) ?_;unfold sc;(repeat' split)<;>first | rfl | contradiction)
def arI (k:Int)(nm:ByteArray):Int:=
 if k=4 then sc nm else if k=5 then 3 else if k=7\/k=8 then 2 else if k=6\/k=9\/k=10\/k=11\/k=12\/k=13 then 1 else 0
theorem DT {k n:Int}{nm ot:ByteArray}{t0 t1 r0 r1 x:D}:AG 165 [.dg 9 (.ag [.j k,.t nm,.t ot,.j n,t0,t1,r0,r1,x])] (arI k nm):=λN Q I=>by
 refine LU N _ Q λ_=>?_
 repeat' first|with_reducible intro _|simp only[Y1]|with_reducible refine X ?_ ?_|refine⟨_,_,_,rfl,?_⟩|refine⟨_,rfl,?_⟩|refine X0 ?_|refine(AI _) _ _ ?_|fail
 all_goals(refine Qi (I _ (by omega)) ?_;simp[arI, *])
theorem uo (n:Int):vU 236 [.j n] (inB n 0 10006):=λN Q I=>by
 refine GO N n Q ?_
 repeat' first|with_reducible intro _|simp only[Y1]|with_reducible refine X ?_ ?_|refine⟨_,_,_,rfl,?_⟩|refine⟨_,rfl,?_⟩|refine X0 ?_|refine(zn _ _ _) _ _ ?_|fail
 exact I _ (by omega)
def Hu (k:Int)(nm ot:ByteArray)(n:Int)(ty re:Ty):Bool:=
 if k=1\/k=8 then yK nm else if k=2 then inB n 0 10006 else if k=3 then inB n 0 1 else if k=4 then decide (sc nm>0)
 else if k=6 then yK nm&&ty.valid else if k=9 then yK nm&&(yK ot&&(!decide (nm=ot)&&(ty.valid&&re.valid)))else inB k 1 13
theorem Gn {k n:Int} {nm ot:ByteArray} {ty re:Ty} {t0 t1 r0 r1 x:D} (h:Tm.Hd nm ot ty re t0 t1 r0 r1) (hc:ty.cnt<=1073741824) (I:re.cnt<=1073741824) :
  vU 196 [.dg 9 (.ag [.j k,.t nm,.t ot,.j n,t0,t1,r0,r1,x])] (Hu k nm ot n ty re):=λN Q J=>by
 refine HD N _ Q λ_=>?_
 repeat' first|with_reducible intro _|simp only[Y1]|with_reducible refine X ?_ ?_|refine⟨_,_,_,rfl,?_⟩|refine⟨_,rfl,?_⟩|refine X0 ?_|refine(AI _) _ _ ?_|refine(sk _ h.nm) _ _ ?_|refine(sk _ h.ot) _ _ ?_|refine(uo _) _ _ ?_|refine(zn _ _ _) _ _ ?_|refine(yy _ _ h.ty hc) _ _ ?_|refine(yy _ _ h.re I) _ _ ?_|fail
 all_goals(refine Qb (J _ (by omega)) ?_;simp[Hu, *])
theorem LP (t:Ty):sd t t=true:=(Bv t t).2 rfl
def Oe (k:Int)(nm ot:ByteArray)(n:Int)(ty re:Ty)(m:Int):Bool:=
 decide (m=arI k nm)&&(Hu k nm ot n ty re&&((decide (k=1\/k=8\/k=4\/k=6\/k=9)||decide (nm=bytes []))&&((decide (k=9)||decide (ot=bytes []))&&((decide (k=2\/k=3)||decide (n=0)) &&
  ((decide (k=6\/k=9)||sd ty tZero)&&(decide (k=9)||sd re tZero))))))
theorem Gm {k n:Int} {nm ot:ByteArray} {ty re:Ty} {t0 t1 r0 r1:D} {a:Option Addr} {es:List D} {c:Nat} (h:Tm.Hd nm ot ty re t0 t1 r0 r1) (hc:ty.cnt<=1073741824) (I:re.cnt<=1073741824) :
  vU 131 [.dg 9 (.ag [.j k,.t nm,.t ot,.j n,t0,t1,r0,r1,.sl a 9 es c])] (Oe k nm ot n ty re es.length):=λN Q J=>by
 refine Jd N _ Q λ_=>?_
 repeat' first|with_reducible intro _|simp only[Y1]|with_reducible refine X ?_ ?_|refine⟨_,_,_,rfl,?_⟩|refine⟨_,rfl,?_⟩|refine X0 ?_|refine DT _ _ ?_|refine(Gn h hc I) _ _ ?_|refine(za ty tZero _ _ h.ty xB) _ _ ?_|refine(za re tZero _ _ h.re xB) _ _ ?_|refine(za ty ty _ _ h.ty h.ty) _ _ ?_|refine(za re re _ _ h.re h.re) _ _ ?_|fail
 all_goals first | (exfalso;omega) | (refine Qb (J _ (by omega)) ?_;simp[Oe,LP, *];done) | (refine Qb (J _ (by omega)) ?_;simp_all[Oe,LP];done)
theorem Vl (t:Ty):sd t tZero=t.zero:=by
 cases t with
 | mk k l => cases l<;>simp[sd,tZero,rH,Ty.zero,Ty.k,Ty.as]
             try omega
theorem PG {t:Ty}(h:t.zero=true):t.valid=false:=by
 cases t with
 | mk k l=>simp only[Ty.zero,Ty.k,Ty.as,oK,mK]at h;simp[Ty.valid,Ty.form,qL,h.1]
theorem YX (n:Int):inB n 0 0=decide (n=0):=by rw[mA,yI,nh];omega
theorem zp (t:Ty)(b:Bool):(!t.valid&&(t.zero&&b))=(t.zero&&b):=by
 cases h:t.zero with
 | false=>simp
 | true=>rw[PG h];simp
theorem SV (k:Int)(nm ot:ByteArray)(n:Int)(ty re:Ty)(m:Int)(hm:0<=m):Oe k nm ot n ty re m=(zI k nm ot n ty re&&m==GX k nm):=by
 by_cases Y:k=1\/k=2\/k=3\/k=4\/k=5\/k=6\/k=7\/k=8\/k=9\/k=10\/k=11\/k=12\/k=13
 ·rw[Xi m];have b5:inB 5 1 13=true:=rfl;have b7:inB 7 1 13=true:=rfl;have I:inB 10 1 13=true:=rfl;have J:inB 11 1 13=true:=rfl;have O:inB 12 1 13=true:=rfl;have U:inB 13 1 13=true:=rfl;rcases Y with rfl | rfl | rfl | rfl | rfl | rfl | rfl | rfl | rfl | rfl | rfl | rfl | rfl
  all_goals
   simp[Oe,arI,Hu,zI,ri,zw,GX,Vl,YX,zp,b5,b7,I,J,O,U]
   try(rw[mA];simp[and_comm,and_left_comm,and_assoc])
 ·have h1:GX k nm = -1:=by unfold GX;rw[if_neg (by omega),if_neg (by omega),if_neg (by omega),if_neg (by omega),if_neg (by omega)]
  have h2:inB k 1 13=false:=by
   cases h:inB k 1 13 with
   | false=>rfl
   | true=>have:=yI.1 h;omega
  have h3:Hu k nm ot n ty re=false:=by unfold Hu;rw[if_neg (by omega),if_neg (by omega),if_neg (by omega),if_neg (by omega),if_neg (by omega),if_neg (by omega),h2]
  have h4:(m==GX k nm)=false:=by rw[h1,Xi];exact mB (by omega)
  rw[h4,Oe,h3];simp
theorem SB {k n:Int} {nm ot:ByteArray} {ty re:Ty} {t0 t1 r0 r1:D} {a:Option Addr} {es:List D} {c:Nat} (h:Tm.Hd nm ot ty re t0 t1 r0 r1) (hc:ty.cnt<=1073741824) (I:re.cnt<=1073741824) :
  vU 131 [.dg 9 (.ag [.j k,.t nm,.t ot,.j n,t0,t1,r0,r1,.sl a 9 es c])] (zI k nm ot n ty re&&(es.length:Int)==GX k nm):=by
 rw[<-SV _ _ _ _ _ _ _ (by omega)];exact Gm h hc I
theorem LI:∀ l:List Tm,sW l=!(l.any λx=>!x.ok)
 | []=>rfl
 | t::ts=>by simp only[sW,lO,LI ts];cases t.ok<;>simp
theorem E3 {p:Tm->Bool} {l:List Tm} {es:List D} (h:All2 Tm.Is l es) (U:es.length<=4611686018427387904) (ad:Addr) (hp:∀ x∈l,∀ d,x.Is d->vU 195 [.dg 9 d,.pd ad 0 (.fn 131 [])] (p x)) (a:Option Addr) (c:Nat) :
  vU 194 [.sv a 9 es c,.fn 195 [.pd ad 0 (.fn 131 [])]] (l.any p):=λN Q Y=>by
 have hi:AG 235 [.sv a 9 es c,.fn 195 [.pd ad 0 (.fn 131 [])]] (BY p l 0):=λN Q Y=>by
  refine tJ N a es c ad Q λ_=>?_;refine up h U (λi xs=>∀(N':Nat),N<=N'->(∀ O,N'<=O->Q (BY p xs i) O)->yD Q N a es c ad es.length i N') ?_ ?_ N (oC _) Y
  ·intro i aa _ N' ab I;refine x9 ?_
   repeat' first|with_reducible intro _|simp only[aa,Y1]|with_reducible refine X ?_ ?_|refine⟨_,_,_,rfl,?_⟩|refine⟨_,rfl,?_⟩|refine X0 ?_|fail
   exact I _ (by omega)
  ·intro i x xs J _ ac N' ab I;have hb:=J.b;simp only[BY]at I;refine x9 ?_
   repeat' first|with_reducible intro _|simp only[J.lt,J.w,oG,Y1]|with_reducible refine X ?_ ?_|refine⟨_,_,_,rfl,?_⟩|refine⟨_,rfl,?_⟩|refine X0 ?_|refine(hp x J.m _ J.r) _ _ ?_|fail
   ·exact Qi (I _ (by omega)) (by rw[if_pos (by assumption)])
   ·rename_i h;exact ac _ (by omega) λO h2=>Qi (I _ (by omega)) (by rw[h];simp)
 refine uI N a es c ad Q λ_=>?_
 repeat' first|with_reducible intro _|simp only[Y1]|with_reducible refine X ?_ ?_|refine⟨_,_,_,rfl,?_⟩|refine⟨_,rfl,?_⟩|refine X0 ?_|refine hi _ _ ?_|fail
 exact Qb (Y _ (by omega)) (pJ _ l 0 (by omega)).symm
theorem OS:∀(t:Tm)(d:D),t.Is d->t.G->vU 130 [.dg 9 d,.fn 131 []] t.ok:=by
 refine Tm.ind λk nm ot n ty re l Y d hd hc N Q I=>?_;obtain⟨t0,t1,r0,r1,a,es,c,rfl,hh,J,O⟩:=Tm.is_mk.1 hd;have hl:=O.len;obtain⟨g1,g2,_,g4⟩:=hc;refine B9 N _ Q λ_=>?_;simp only[Tm.ok,LI,<-hl]at I
 repeat' first|with_reducible intro _|simp only[Y1]|with_reducible refine X ?_ ?_|refine⟨_,_,_,rfl,?_⟩|refine⟨_,rfl,?_⟩|refine X0 ?_|refine(SB hh (by omega) (by omega)) _ _ ?_|refine(E3 O J _ (λx U d hd=>λN Q I=>px N d _ Q λ_ N1 aa=>Y x U d hd (zy g4 U) N1 _ λN2 ab ac N3 ae=>I N3 (by omega)) _ _) _ _ ?_|fail
 ·have h:(zI k nm ot n ty re&&(es.length:Int)==GX k nm)=true:=by assumption
  exact Qb (I _ (by omega)) (by rw[h,Bool.and_true])
 ·have h:(zI k nm ot n ty re&&(es.length:Int)==GX k nm)=false:=by assumption
  exact Qb (I _ (by omega)) (by rw[h,lG])
theorem vk (t:Tm)(d:D)(hd:t.Is d)(hc:t.G):vU 64 [.dg 9 d] t.ok:=λN Q I=>by
 refine JY N _ Q λ_=>?_
 repeat' first|with_reducible intro _|simp only[Y1]|with_reducible refine X ?_ ?_|refine⟨_,_,_,rfl,?_⟩|refine⟨_,rfl,?_⟩|refine X0 ?_|refine(OS t d hd hc) _ _ ?_|fail
 exact I _ (by omega)
theorem BG (t:Tm)(d:D)(hd:t.Is d)(hc:t.cnt<=1073741824):vU 64 [.dg 9 d] t.ok:=vk t d hd (Tm.G_cnt t hc)
theorem L0 {k n m:Int}{c1 c2 c4 c5 I J O:D}(h:0<=m/\m<=2):AG 175 [.dg 9 (.ag [.j k,c1,c2,.j n,c4,c5,I,J,O]),.j m] (zK k m):=λN Q U=>by
 refine rj N _ m Q λ_=>?_;rw[i64_in (m+1) (by omega),i64_in (m - 1) (by omega)]
 repeat' first|with_reducible intro _|simp only[Y1]|with_reducible refine X ?_ ?_|refine⟨_,_,_,rfl,?_⟩|refine⟨_,rfl,?_⟩|refine X0 ?_|fail
 all_goals(refine Qi (U _ (by omega)) ?_;simp[zK, *])
theorem DS (d:D)(m:Int):vU 119 [.dg 9 d,.j m] (inB m 0 2):=λN Q I=>by
 refine DE N _ m Q λ_=>?_
 repeat' first|with_reducible intro _|simp only[Y1]|with_reducible refine X ?_ ?_|refine⟨_,_,_,rfl,?_⟩|refine⟨_,rfl,?_⟩|refine X0 ?_|refine(zn _ _ _) _ _ ?_|fail
 exact I _ (by omega)
theorem SH:∀(t:Tm)(d:D),t.Is d->∀ m:Int,vU 118 [.dg 9 d,.j m,.fn 119 []] (t.lev m):=by
 refine Tm.ind λk nm ot n ty re l ih d hd m N Q hQ=>?_;obtain⟨t0,t1,r0,r1,a,es,c,rfl,hh,Y,aa⟩:=Tm.is_mk.1 hd;have hl:=aa.len;refine EF N _ m Q λ_=>?_;cases J:inB m 0 2 with
 | false=>
   repeat' first|with_reducible intro _|simp only[J,Y1]|with_reducible refine X ?_ ?_|refine⟨_,_,_,rfl,?_⟩|refine⟨_,rfl,?_⟩|refine X0 ?_|refine(DS _ _) _ _ ?_|fail
   exact Qb (hQ _ (by omega)) (by simp[Tm.lev,J])
 | true=>
   have hb:=yI.1 J;have key:=up aa Y (λi xs=>∀(N':Nat),N<=N'->(∀ I,N'<=I->Q (sV xs (zK k m)) I)->wk Q N m a es c es.length i (.ag [.j k,.t nm,.t ot,.j n,t0,t1,r0,r1,.sl a 9 es c]) N') ?_ ?_
   ·repeat' first|with_reducible intro _|simp only[J,Y1]|with_reducible refine X ?_ ?_|refine⟨_,_,_,rfl,?_⟩|refine⟨_,rfl,?_⟩|refine X0 ?_|refine(DS _ _) _ _ ?_|fail
    exact key _ (by omega) λI h=>Qb (hQ I (by omega)) (by simp[Tm.lev,J])
   ·intro i ab _ N' ac U;refine qS ?_
    repeat' first|with_reducible intro _|simp only[ab,Y1]|with_reducible refine X ?_ ?_|refine⟨_,_,_,rfl,?_⟩|refine⟨_,rfl,?_⟩|refine X0 ?_|fail
    exact Qb (U _ (by omega)) (by simp[sV])
   ·intro i x xs O _ ae N' ac U;have ah:=O.b;refine qS ?_
    repeat' first|with_reducible intro _|simp only[O.lt,O.w,oG,Y1]|with_reducible refine X ?_ ?_|refine⟨_,_,_,rfl,?_⟩|refine⟨_,rfl,?_⟩|refine X0 ?_|refine(L0 hb) _ _ ?_|refine(ih x O.m _ O.r _) _ _ ?_|fail
    ·refine Qb (U _ (by omega)) ?_;simp[sV, *]
    ·exact ae _ (by omega) λI h=>Qb (U I (by omega)) (by simp[sV, *])
theorem rQ (t:Tm)(d:D)(hd:t.Is d)(hc:t.G)(m:Int):vU 57 [.dg 9 d,.j m] (uG t m):=λN Q I=>by
 refine GI N _ m Q λ_=>?_
 repeat' first|with_reducible intro _|simp only[Y1]|with_reducible refine X ?_ ?_|refine⟨_,_,_,rfl,?_⟩|refine⟨_,rfl,?_⟩|refine X0 ?_|refine(vk t d hd hc) _ _ ?_|refine(SH t d hd m) _ _ ?_|fail
 all_goals(refine Qb (I _ (by omega)) ?_;simp[uG, *])
theorem um (t:Tm)(d:D)(hd:t.Is d)(hc:t.cnt<=1073741824)(m:Int):vU 57 [.dg 9 d,.j m] (uG t m):=rQ t d hd (Tm.G_cnt t hc) m
theorem Pi (x:Tg)(d:D)(hd:x.Is d)(hc:x.ty.cnt<=1073741824):vU 116 [.dg 4 d] (!x.ok):=λN Q I=>by
 obtain⟨t0,t1,rfl,hs,J⟩:=hd;refine G8 N _ Q λ_=>?_
 repeat' first|with_reducible intro _|simp only[Y1]|with_reducible refine X ?_ ?_|refine⟨_,_,_,rfl,?_⟩|refine⟨_,rfl,?_⟩|refine X0 ?_|refine(sk _ hs) _ _ ?_|refine(yy _ _ J hc) _ _ ?_|refine(zn _ _ _) _ _ ?_|fail
 all_goals(refine Qb (I _ (by omega)) ?_;simp[Tg.ok, *])
theorem LC:∀ l:List Tg,G4 l=!(l.any λx=>!x.ok)
 | []=>rfl
 | t::ts=>by simp only[G4,lO,LC ts];cases t.ok<;>simp
theorem qE {g:List Tg}{es:List D}(h:Ctx g es)(hc:∀ x∈g,x.ty.cnt<=1073741824)(a:Option Addr)(c:Nat):vU 56 [.sv a 4 es c] (Gx g):=fun N Q hQ=>by
 have hl:=h.all.len;have hi:AG 173 [.sv a 4 es c,.fn 116 []] (BY (fun x=>!x.ok) g 0):=fun N Q hQ=>by
  refine uX N a es c Q fun _=>?_;refine up h.all h.len (fun i xs=>∀(N':Nat),N<=N'->(∀ N'',N'<=N''->Q (BY (fun x=>!x.ok) xs i) N'')->zk Q N a es c es.length i N') ?_ ?_ N (oC _) hQ
  ·intro i hlt _ N' hN' hQ';refine xk ?_
   repeat' first|with_reducible intro _|simp only[hlt,Y1]|with_reducible refine X ?_ ?_|refine⟨_,_,_,rfl,?_⟩|refine⟨_,rfl,?_⟩|refine X0 ?_|fail
   exact hQ' _ (by omega)
  ·intro i x xs hat _ ih2 N' hN' hQ';have hb:=hat.b;simp only[BY]at hQ';refine xk ?_
   repeat' first|with_reducible intro _|simp only[hat.lt,hat.w,oG,Y1]|with_reducible refine X ?_ ?_|refine⟨_,_,_,rfl,?_⟩|refine⟨_,rfl,?_⟩|refine X0 ?_|refine(Pi x _ hat.r (hc x hat.m)) _ _ ?_|fail
   all_goals first
    | exact Qi (hQ' _ (by omega)) (by rw[if_pos (by simp[*])])
    | exact ih2 _ (by omega) fun N'' h2=>Qi (hQ' _ (by omega)) (by rw[if_neg (by simp[*])];simp)
 have hcf:vU 115 [.sv a 4 es c,.fn 116 []] (g.any fun x=>!x.ok):=fun N Q hQ=>by
  refine ve N a es c Q fun _=>?_
  repeat' first|with_reducible intro _|simp only[Y1]|with_reducible refine X ?_ ?_|refine⟨_,_,_,rfl,?_⟩|refine⟨_,rfl,?_⟩|refine X0 ?_|refine hi _ _ ?_|fail
  exact Qb (hQ _ (by omega)) (pJ _ g 0 (by omega)).symm
 refine LS N a es c Q fun _=>?_
 repeat' first|with_reducible intro _|simp only[Y1]|with_reducible refine X ?_ ?_|refine⟨_,_,_,rfl,?_⟩|refine⟨_,rfl,?_⟩|refine X0 ?_|refine hcf _ _ ?_|fail
 ·exact Qb (hQ _ (by omega)) (by have:(g.length:Int)<=12:=by omega
                                 simp[Gx,LC,this])
 ·exact Qb (hQ _ (by omega)) (by have:¬(g.length:Int)<=12:=by omega
                                 simp[Gx,this])
theorem Ca {g:List Tg}{es:List D}(h:Ctx g es)(a:Option Addr)(c:Nat)(s:ByteArray):AG 177 [.sv a 4 es c,.str s] (yj g s):=λN Q hQ=>by
 have hl:=h.all.len;have h1:=h.len;refine GM N a es c s Q λ_=>?_;have key:=YD h.all h.len (λm=>∀(N':Nat),N<=N'->(∀ J,N'<=J->Q (AO g s (m+1).toNat) J)->xo Q N a es c s m N') ?_ ?_
 ·rw[i64_in _ (by omega)];exact key N (oC _) λN' O=>Qi (hQ N' O) (by rw[yj,<-hl];congr 1;omega)
 ·intro N' O I;refine sP ?_
  repeat' first|with_reducible intro _|simp only[Y1]|with_reducible refine X ?_ ?_|refine⟨_,_,_,rfl,?_⟩|refine⟨_,rfl,?_⟩|refine X0 ?_|fail
  ·omega
  ·exact I _ (by assumption)
 ·intro i x U Y hw ih N' O I;have hb:=U.b;obtain⟨t0,t1,hd,hs,ht⟩:=U.r;have e1:((i:Int)+1).toNat=i+1:=by omega
  have e2:((i:Int) - 1+1).toNat=i:=by omega
  rw[e1]at I;simp only[AO,I4 U.g]at I;rw[e2]at ih;refine sP ?_
  repeat' first|with_reducible intro _|simp only[Y,hw,oG,hd,Y1]|with_reducible refine X ?_ ?_|refine⟨_,_,_,rfl,?_⟩|refine⟨_,rfl,?_⟩|refine X0 ?_|fail
  ·rename_i hx _ _;exact Qi (I _ (by omega)) (by rw[if_pos hx])
  ·rename_i hx;exact ih _ (by omega) λJ h=>Qi (I J (by omega)) (by rw[if_neg hx])
theorem Ij:∀(t:Ty)(d:D),t.Is d->t.cnt<=1073741824->Dr 178 [.dg 2 d] t:=by
 refine Ty.ind λk l ih d hd hc N Q hQ=>?_;obtain⟨a,es,c,rfl,Y,aa⟩:=Ty.is_mk.1 hd;have hl:=aa.len;simp only[Ty.cnt]at hc;have al:=Ae l;refine GL N _ Q λ_=>⟨_,rfl,_,_,_,rfl,?_⟩
 have key:=up aa Y (λi xs=>∀(N':Nat),N<=N'->(i=0->vT Q N a es c es.length i 0 none [] 0 k none [] 0 N')/\∀(m q:Nat) (r:List D),m=r.length->All2 Ty.Is (l.take i) r->OwnL N N' r ->
  xF Q N a es c es.length i 0 none [] 0 k m q r q N') ?_ ?_
 ·exact(key N (oC _)).1 rfl
 ·intro i ab hi N' ai;refine⟨λh0=>sO ?_,λm q r hm U ho=>uM ?_⟩
  ·repeat' first|with_reducible intro _|simp only[ab,Y1]|with_reducible refine X ?_ ?_|refine⟨_,_,_,rfl,?_⟩|refine⟨_,rfl,?_⟩|refine X0 ?_|fail
   have:l=[]:=oV (by omega);subst this;exact hQ _ _ (by omega) (vQ _) ym
  ·repeat' first|with_reducible intro _|simp only[ab,Y1]|with_reducible refine X ?_ ?_|refine⟨_,_,_,rfl,?_⟩|refine⟨_,rfl,?_⟩|refine X0 ?_|fail
   rename_i a' N3 J hf N4 aj;rw[om (by omega)]at U;exact hQ _ _ (by omega) (Ty.is_mk.2 ⟨_,_,_,rfl,by have:=U.len;omega,U⟩) (AP (zU (zf ((qm ho hf (by omega)).mono (oC _) aj))))
 ·intro i x xs I _ ac N' ai;have hb:=I.b;have ao:=wR I.m;refine⟨λh0=>sO ?_,λm q r hm U ho=>uM ?_⟩
  ·repeat' first|with_reducible intro _|simp only[I.lt,I.w,oG,Y1]|with_reducible refine X ?_ ?_|refine⟨_,_,_,rfl,?_⟩|refine⟨_,rfl,?_⟩|refine X0 ?_|refine(ih x I.m _ I.r (by omega)) _ _ ?_|fail
   rename_i N2 ae d' N3 J hx O ak ah;subst h0;exact⟨by unfold zB;simp,λc2=>(ac _ (by omega)).2 _ _ _ rfl (by rw[vJ I.g];exact⟨_,_,rfl,hx,rfl⟩) (zf (O.mono (by omega) (oC _)))⟩
  ·repeat' first|with_reducible intro _|simp only[I.lt,I.w,oG,Y1]|with_reducible refine X ?_ ?_|refine⟨_,_,_,rfl,?_⟩|refine⟨_,rfl,?_⟩|refine X0 ?_|refine(ih x I.m _ I.r (by omega)) _ _ ?_|fail
   rename_i N2 ae d' N3 J hx O ak ah;have aq:=U.len;have au:(l.take i).length=i:=by rw[nL];omega
   refine⟨by unfold zB;simp only[oH,mD];omega,λc2=>?_⟩;exact(ac _ (by omega)).2 _ _ _ rfl (by rw[vJ I.g];exact U.snoc hx) (zh (ho.mono (oC _) ae) (zf O) (by omega) J)
theorem L3:Dr 179 [] tInt:=λN Q J=>LY N Q λN' I=>J _ _ I (vQ _) ym
theorem EY:Dr 180 [] tBool:=λN Q J=>Jg N Q λN' I=>J _ _ I (vQ _) ym
theorem L2 (t u:Ty)(d e:D)(hd:t.Is d)(he:u.Is e)(I:t.cnt<=1073741824)(J:u.cnt<=1073741824):Dr 184 [.dg 2 d,.dg 2 e] (wa t u):=λN Q hQ=>by
 refine LX N _ _ Q λ_ _=>?_
 repeat' first|with_reducible intro _|simp only[Y1]|with_reducible refine X ?_ ?_|refine⟨_,_,_,rfl,?_⟩|refine⟨_,rfl,?_⟩|refine X0 ?_|refine(Ij t d hd I) _ _ ?_|refine(Ij u e he J) _ _ ?_|fail
 rename_i N1 O d1 N2 ab h1 o1 ac b1 N3 U d2 N4 Y h2 o2 ae b2 a' N5 ah hf N6 aa;exact hQ _ _ (by omega) (Ty.is_mk.2 ⟨_,_,_,rfl,by simp,_,_,rfl,h1,_,_,rfl,h2,rfl⟩)
  (AP (zU (zf ((qm (zh ((zf o1).mono O U) (zf o2) (by omega) Y) hf (by omega)).mono (oC _) aa))))
theorem Ir (t:Ty)(d:D)(hd:t.Is d)(I:t.cnt<=1073741824):Dr 225 [.dg 2 d] (vI t):=λN Q U=>by
 refine Jh N _ Q λ_=>?_
 repeat' first|with_reducible intro _|simp only[Y1]|with_reducible refine X ?_ ?_|refine⟨_,_,_,rfl,?_⟩|refine⟨_,rfl,?_⟩|refine X0 ?_|refine(Ij t d hd I) _ _ ?_|fail
 rename_i N1 J d1 N2 Y h1 o1 aa b1 a' N5 ab hf N6 O;exact U _ _ (by omega) (Ty.is_mk.2 ⟨_,_,_,rfl,by simp,_,_,rfl,h1,rfl⟩)
  (AP (zU (zf ((qm ((zf o1).mono J (oC _)) hf (by omega)).mono (oC _) O))))
def DW (t:Ty):Ty:=if t.k=4 then t.as.getD 0 tZero else tZero
theorem M5 (t:Ty)(d:D)(hd:t.Is d)(hv:t.valid=true\/t=tZero):Dr 226 [.dg 2 d] (DW t):=λN Q I=>by
 cases t with
 | mk k l=>
 obtain⟨a,es,c,rfl,aa,J⟩:=Ty.is_mk.1 hd;refine Jc N _ Q λ_=>?_;by_cases hk:k=4
 ·subst hk;rcases hv with hv | hv
  ·have hf:=Ty.form_len hv;have O:=Ty.valid_cnt hv;have U:(l.length:Int)=1:=by simpa [qL]using hf
   obtain⟨u,rfl⟩:=Da (l:=l) (by omega);obtain⟨x0,_,rfl,Y,rfl⟩:=J;simp only[Ty.cnt,zS]at O;have e:DW (.mk 4 [u])=u:=rfl;rw[e]at I
   repeat' first|with_reducible intro _|simp only[oJ,oN,Y1]|with_reducible refine X ?_ ?_|refine⟨_,_,_,rfl,?_⟩|refine⟨_,rfl,?_⟩|refine X0 ?_|refine(Ij u _ Y (by omega)) _ _ ?_|fail
   all_goals first | (exfalso;omega) | skip
   rename_i N1 ab d1 N2 ac h1 o1 U b1 N3 ae;exact I _ _ (by omega) h1 (o1.mono (by omega) (by omega))
  ·cases hv
 ·have e:DW (.mk k l)=tZero:=by unfold DW;exact if_neg hk
  rw[e]at I
  repeat' first|with_reducible intro _|simp only[Y1]|with_reducible refine X ?_ ?_|refine⟨_,_,_,rfl,?_⟩|refine⟨_,rfl,?_⟩|refine X0 ?_|fail
  all_goals first | (exfalso;omega) | skip
  exact I _ _ (by omega) xB ym
def CU (u:Ty):List Ty->Bool
 | []=>true
 | t::ts=>sd t u&&CU u ts
def AZ (s:ByteArray):Ty:=if s=bytes [61]then tInt else if s=bytes [60]then tInt else if s=bytes [38]then tBool else if s=bytes [124]then tBool else if s=bytes [33]then tBool else tInt
def Db (s:ByteArray):Ty:=if s=bytes [61]then tBool else if s=bytes [60]then tBool else if s=bytes [38]then tBool else if s=bytes [124]then tBool else if s=bytes [33]then tBool else tInt
theorem SI {ts:List Ty} {es:List D} (h:All2 Ty.Is ts es) (O:es.length<=4611686018427387904) (a:Option Addr) (c:Nat) (s:ByteArray) :
  Dr 181 [.str s,.sv a 2 es c] (if CU (AZ s) ts then Db s else tZero):=λN Q U=>by
 have key:∀(u v:Ty) (d e:D) (N0 N1:Nat),u.Is d->v.Is e->Own N N1 e->N<=N1->AZ s=u->Db s=v->zP Q N a es c es.length (0:Nat) 0 none [] 0 d e N1:=by
  intro u v d e N0 N1 hd he ho ae hu hv;subst hu hv;refine up h O (λi xs=>∀(N':Nat),N1<=N'->CU (AZ s) xs=CU (AZ s) ts->zP Q N a es c es.length i 0 none [] 0 d e N') ?_ ?_ N1 (oC _) rfl
  ·intro i aa _ N' ab Y;refine rW ?_;rw[<-Y]at U
   repeat' first|with_reducible intro _|simp only[aa,Y1]|with_reducible refine X ?_ ?_|refine⟨_,_,_,rfl,?_⟩|refine⟨_,rfl,?_⟩|refine X0 ?_|fail
   exact U _ _ (by omega) he (ho.mono (oC _) (by omega))
  ·intro i x xs I _ ac N' ab Y;have hb:=I.b;refine rW ?_
   repeat' first|with_reducible intro _|simp only[I.lt,I.w,oG,Y1]|with_reducible refine X ?_ ?_|refine⟨_,_,_,rfl,?_⟩|refine⟨_,rfl,?_⟩|refine X0 ?_|refine(za x _ _ _ I.r hd) _ _ ?_|fail
   ·rename_i J _ _;rw[<-Y,CU,J]at U;exact U _ _ (by omega) xB ym
   ·rename_i J;exact ac _ (by omega) (by rw[<-Y,CU,J,Bool.true_and])
 refine Je N s a es c Q λ_=>?_
 repeat' first|with_reducible intro _|simp only[Y1]|with_reducible refine X ?_ ?_|refine⟨_,_,_,rfl,?_⟩|refine⟨_,rfl,?_⟩|refine X0 ?_|refine L3 _ _ ?_|refine EY _ _ ?_|fail
 all_goals first
  | exact key tInt tBool _ _ 0 _ (by assumption) (by assumption) (Own.mono (by assumption) (by omega) (by omega)) (by omega) (by unfold AZ;(repeat' split)<;>first | rfl | contradiction) (by unfold Db;(repeat' split)<;>first | rfl | contradiction)
  | exact key tBool tBool _ _ 0 _ (by assumption) (by assumption) (Own.mono (by assumption) (by omega) (by omega)) (by omega) (by unfold AZ;(repeat' split)<;>first | rfl | contradiction) (by unfold Db;(repeat' split)<;>first | rfl | contradiction)
  | exact key tInt tInt _ _ 0 _ (by assumption) (by assumption) (Own.mono (by assumption) (by omega) (by omega)) (by omega) (by unfold AZ;(repeat' split)<;>first | rfl | contradiction) (by unfold Db;(repeat' split)<;>first | rfl | contradiction)
theorem V9 {f:FuncId}{rs:List Sh}{args:List PV}{N z c:Nat}{Q:QT rs}{es:List D}(hc:wL prog f=true)(O:PV.sv none z es c∈args)(I:es≠[]):ACalls prog f rs args N Q:=
 ⟨hc,λav w0 _ _ J=>by have h:=(J _ O).1.1;cases h;exact absurd rfl I⟩
theorem Ue {g:List Tg}{es:List D}(h:Ctx g es)(hg:g.length<=1073741824)(a:Option Addr)(c:Nat)(N:Nat)(Q:QT [.row 94 4])(U:∀ Y N',N<=N'->Q es Y N'):ACalls prog 224 [.row 94 4] [.sv a 4 es c] N Q:=by
 have hl:=h.all.len;have aa:zB [] es 56:=by unfold zB;simp only[oa];omega
 have I:(a=none->es=[])->ACalls prog 224 [.row 94 4] [.sv a 4 es c] N Q:=λhn=>by
  refine q9 N a es c Q λ_=>?_
  repeat' first|with_reducible intro _|simp only[Y1]|with_reducible refine X ?_ ?_|refine⟨_,_,_,rfl,?_⟩|refine⟨_,rfl,?_⟩|refine X0 ?_|fail
  ·rename_i hi N1 O;have:es=[]:=hn (by simpa using hi);subst this;exact U _ _ O
  ·simp only[oa];exact U _ _ (by omega)
 cases a with
 | some ad=>exact I (by simp)
 | none=>
   by_cases J:es=[]
   ·exact I λ_=>J
   ·exact V9 (z:=4) (c:=c) (es:=es) (by kernel_rfl) (by simp) J
theorem vY {a:Option Addr}{z c:Nat}{es:List D}:∀ x∈(D.sl a z es c).foot,x∈zC es\/∃ ad,a=some ad/\x=ad.block:=by
 intro x hx;cases a with
 | none=>simp only[D.foot]at hx;exact .inl hx
 | some ad=>
   simp only[D.foot]at hx;split at hx
   ·simp at hx
   ·rcases oL.1 hx with rfl | hx
    ·exact .inr ⟨ad,rfl,rfl⟩
    ·exact .inl hx
theorem SU {a:Option Addr}{z c:Nat}{es:List D}:∀ x∈zC es,x∈(D.sl a z es c).foot:=by
 intro x I;cases a with
 | none=>simpa only[D.foot]using I
 | some ad=>
   simp only[D.foot];split
   ·rename_i h;cases es with
    | nil=>simp[zC]at I
    | cons=>simp at h
   ·exact nu _ I
theorem Py {g h:List Tg} {es fs:List D} (J:Ctx g es) (U:Ctx h fs) (aa:g.length+h.length<=1073741824) (a b:Option Addr) (c e:Nat) (N:Nat) (Q:QT [.sl 4])
  (hQ:∀ O I Y N',N<=N'->Ctx (g++h) I->(∀ x∈(D.sl O 4 I Y).foot,x∈zC es\/x∈zC fs\/N<=x)->Q O I Y N'):ACalls prog 183 [.sl 4] [.sv a 4 es c,.sv b 4 fs e] N Q:=by
 have hl:=J.all.len;have ab:=U.all.len;have hb:zB es fs 56:=by unfold zB;simp only[oH];omega
 refine Mt N a es c b fs e Q λ_ _=>?_
 repeat' first|with_reducible intro _|simp only[Y1]|with_reducible refine X ?_ ?_|refine⟨_,_,_,rfl,?_⟩|refine⟨_,rfl,?_⟩|refine X0 ?_|refine(Ue J (by omega) _ _) _ _ ?_|fail
 rename_i O N3 ac hf N4 ae;refine hQ _ _ _ _ (by omega) ⟨by simp;omega,J.all.app U.all⟩ λx hx=>?_;rcases vY x hx with h1 | ⟨ad,rfl,rfl⟩
 ·rw[zG]at h1;rcases oM.1 h1 with h1 | h1
  ·exact .inl h1
  ·exact .inr (.inl h1)
 ·have:=hf.lo ad rfl
  exact .inr (.inr (by omega))
theorem Pk {g:List Tg} {es:List D} (h:Ctx g es) (hg:g.length<=1073741824) (hc:∀ x∈g,x.ty.cnt<=1073741824) (a:Option Addr) (c:Nat) (n:Int) :
  ∀(N:Nat) (Q:QT [.sl 4]),(∀ a' J c' N',N<=N'->Ctx (tv g n) J->Q a' J c' N')->ACalls prog 227 [.sl 4] [.sv a 4 es c,.j n] N Q:=λN Q hQ=>by
 have hl:=h.all.len;refine HC N a es c n Q λ_=>?_;have key:=up h.all h.len (λi xs=>∀(r:List D) (m q:Nat) (N':Nat) (done:List Tg),N<=N'->m=r.length->All2 Tg.Is done r->done.length<=i->done++sT g n xs i=tv g n->yN Q N a es c n m q a es c es.length i r q N') ?_ ?_
 ·exact key [] 0 0 N [] (oC _) rfl rfl (oC _) rfl
 ·intro i Y hi r m q N' done aa hm O ab hd;refine rT ?_
  repeat' first|with_reducible intro _|simp only[Y,Y1]|with_reducible refine X ?_ ?_|refine⟨_,_,_,rfl,?_⟩|refine⟨_,rfl,?_⟩|refine X0 ?_|fail
  refine hQ _ _ _ _ (by omega) ⟨by have:=O.len;omega,?_⟩;simp only[sT,o7]at hd;rwa[<-hd]
 ·intro i x xs I _ U r m q N' done aa hm O ab hd;have hb:=I.b;have ae:=O.len;obtain⟨t0,t1,he,hs,ht⟩:=I.r;simp only[sT]at hd;refine rT ?_
  repeat' first|with_reducible intro _|simp only[I.lt,I.w,oG,he,Y1]|with_reducible refine X ?_ ?_|refine⟨_,_,_,rfl,?_⟩|refine⟨_,rfl,?_⟩|refine X0 ?_|refine(BF _ _ ht) _ _ ?_|refine(Ca h a c _) _ _ ?_|refine(Ij _ _ ht (hc x I.m)) _ _ ?_|fail
  ·rename_i N2 ah x' N3 ai hx ho _ _;have ac:Fw g n x i=true:=by simp[Fw, *]
   rw[if_pos ac]at hd;refine⟨by unfold zB;simp only[oH,mD];omega,λc2=>U _ _ _ _ (done++[x]) (by omega) rfl (O.snoc ⟨_,_,rfl,hs,Ty.is_cells hx⟩) (by simp;omega) (by simpa using hd)⟩
  all_goals(refine U _ _ _ _ done (by omega) hm O (by omega) ?_;rw[<-hd,if_neg (by simp[Fw, *])])
theorem s6 {bs:List (Option Addr)}{N N':Nat}{d:D}(J:vN N bs)(O:Own N N' d):Off bs d:=λa U ad I Y=>by
 have:=J a U ad I
 have:=O.lo _ Y
 omega
theorem JB {a x b:Option Addr}{es fs O:List D}{c U N:Nat}(h1:ApA a fs)(h2:Off [a] (.sl x 4 es c))(h3:vN N [a])(h4:∀ y∈(D.sl b 4 O U).foot,y∈zC es\/y∈zC fs\/N<=y):Off [a] (.sl b 4 O U):=λY J ad I hm=>by
 have e:=o5.1 J;subst e;rcases h4 _ hm with h | h | h
 ·exact h2 Y J ad I (SU _ h)
 ·obtain⟨d,hd,hx⟩:=zJ.1 h;exact h1 ad I d hd hx
 ·have:=h3 Y J ad I
  omega
theorem Ty.valid_k {t:Ty}(h:t.valid=true):t.k=1/\t.as=[]\/t.k=2/\t.as=[]\/(t.k=3/\∃ a b,t.as=[a,b])\/(t.k=4/\∃ a,t.as=[a]):=by
 cases t with
 | mk k l=>
   have I:=Ty.form_len h;simp only[Ty.k,Ty.as];unfold qL at I;split at I
   ·rename_i hk;have J:l=[]:=by simpa using I
    rcases hk with hk | hk
    ·exact .inl ⟨hk,J⟩
    ·exact .inr (.inl ⟨hk,J⟩)
   ·split at I
    ·rename_i hk;exact .inr (.inr (.inl ⟨hk,OA (by simp at I;omega)⟩))
    ·split at I
     ·rename_i hk;exact .inr (.inr (.inr ⟨hk,Da (by simp at I;omega)⟩))
     ·cases I
theorem Ty.valid_nz {t:Ty}(h:t.valid=true):t.k≠0:=by rcases Ty.valid_k h with h | h | h | h<;>omega
theorem QE {t:Ty}(h:t.valid=true):sd t tZero=false/\sd tZero t=false:=by
 have I:=Ty.valid_nz h;cases t with
 | mk k l=>have I:k≠0:=I;have J:0≠k:=λh=>I h.symm;constructor<;>simp[sd,tZero,I,J]
theorem QD {t:Ty}(h:t.valid=true):sd t tBool=decide (t.k=2):=by
 have I:=Ty.valid_k h;cases t with
 | mk k l=>
   simp only[Ty.k,Ty.as]at I;rw[mA,Bv,nh];simp only[tBool,Ty.k,Ty.mk.injEq];rcases I with⟨I,J⟩ | ⟨I,J⟩ | ⟨I,_⟩ | ⟨I,_⟩<;>simp[I]
   exact J
theorem WX {t:Ty}(h:t.valid=true):sd t tInt=decide (t.k=1):=by
 have I:=Ty.valid_k h;cases t with
 | mk k l=>
   simp only[Ty.k,Ty.as]at I;rw[mA,Bv,nh];simp only[tInt,Ty.k,Ty.mk.injEq];rcases I with⟨I,J⟩ | ⟨I,J⟩ | ⟨I,_⟩ | ⟨I,_⟩<;>simp[I]
   exact J
def tyZ (e:Tm)(g:List Tg)(n:Int):Ty:=(e.type g n).getD tZero
theorem Mm (e:Tm)(g:List Tg)(n:Int):(tyZ e g n).cnt<=30:=JT e g n
theorem sY (e:Tm)(g:List Tg)(n:Int):(e.type g n=none/\tyZ e g n=tZero)\/(e.type g n=some (tyZ e g n)/\(tyZ e g n).valid=true):=by
 cases h:e.type g n with
 | none=>exact .inl ⟨rfl,by simp[tyZ,h]⟩
 | some t=>exact .inr ⟨by simp[tyZ,h],by simpa [tyZ,h]using Tm.type_valid h⟩
def IHi (l:List Tm):Prop:=∀ x∈l,∀ d,x.Is d->∀ g es a c n,Pre g x n->Ctx g es->Dr 58 [.sv a 4 es c,.dg 9 d,.j n] (tyZ x g n)
theorem FA {k:Int} {nm ot:ByteArray} {m n:Int} {ty re:Ty} {l:List Tm} {t0 t1 r0 r1:D} {I:List D} {a1 a:Option Addr} {c1 c:Nat} {g:List Tg} {es:List D} (hk:zK k n=n) (ih:IHi l) (U:All2 Tm.Is l I) (aa:I.length<=4611686018427387904)
  (pre:Pre g (.mk k nm ot m ty re l) n) (J:Ctx g es) (i:Nat) {x:Tm} (O:l[i]?=some x) (b1 b2 Y:Addr) :
  Dr 176 [.j i,.pd b1 0 (.sl a 4 es c),.pd b2 9 (.ag [.j k,.t nm,.t ot,.j m,t0,t1,r0,r1,.sl a1 9 I c1]),.pd Y 0 (.j n)] (tyZ x g n):=λN Q hQ=>by
 have ab:=(oD.1 O).1;have ac:=U.len;have hm:=oB O;have hp:=pre.sub hm (g':=g) (by omega) pre.ty;rw[hk]at hp;refine p3 N i b1 _ b2 _ Y _ Q ?_;refine⟨_,_,_,rfl,_,_,_,rfl,⟨by omega,by omega⟩,_,rfl,?_⟩
 repeat' first|with_reducible intro _|simp only[oG,Y1]|with_reducible refine X ?_ ?_|refine⟨_,_,_,rfl,?_⟩|refine⟨_,rfl,?_⟩|refine X0 ?_|refine(ih x hm _ (U.get O) g _ _ _ n hp J) _ _ ?_|fail
 exact hQ _ _ (by omega) (by assumption) (Own.mono (by assumption) (by omega) (by omega))
theorem YV {e0 e1 I:Tm} {g:List Tg} {n:Int} {s:ByteArray}:((match yQ [e0,e1,I] g n with | some ts=>xt 5 s ts | none=>none):Option Ty).getD tZero =
  if sd (tyZ e0 g n) tBool&&sd (tyZ e1 g n) (tyZ I g n)then tyZ e1 g n else tZero:=by
 rcases sY e0 g n with⟨J,z0⟩ | ⟨J,v0⟩
 ·simp only[yQ,J,z0];rfl
 ·rcases sY e1 g n with⟨O,Y⟩ | ⟨O,v1⟩
  ·simp only[yQ,J,O,Y];split<;>rfl
  ·rcases sY I g n with⟨U,z2⟩ | ⟨U,v2⟩
   ·simp only[yQ,J,O,U,z2,(QE v1).1,lG];rfl
   ·simp only[yQ,J,O,U];rw[QD v0];show(xt 5 s [tyZ e0 g n,tyZ e1 g n,tyZ I g n]).getD tZero=_;unfold xt;rw[if_neg (by omega),if_pos rfl];simp only[mI,mi];by_cases hc:(tyZ e0 g n).k=2/\sd (tyZ e1 g n) (tyZ I g n)=true
    ·rw[if_pos hc,if_pos (by simp[hc.1,hc.2])];rfl
    ·rw[if_neg hc,if_neg (by simpa using hc)];rfl
theorem Xg {e0 e1:Tm} {g:List Tg} {n:Int} {s:ByteArray}:((match yQ [e0,e1] g n with | some ts=>xt 7 s ts | none=>none):Option Ty).getD tZero =
  if(tyZ e0 g n).k=3/\sd ((tyZ e0 g n).as.getD 0 tZero) (tyZ e1 g n)then(tyZ e0 g n).as.getD 1 tZero else tZero:=by
 rcases sY e0 g n with⟨J,z0⟩ | ⟨J,v0⟩
 ·simp only[yQ,J,z0];rfl
 ·rcases sY e1 g n with⟨O,Y⟩ | ⟨O,v1⟩
  ·simp only[yQ,J,O,Y];rw[if_neg]
   ·rfl
   ·rintro⟨hk,U⟩
    rcases Ty.valid_k v0 with h | h | ⟨_,a,b,I⟩ | h
    ·omega
    ·omega
    ·rw[I,Bv]at U;simp only[mI]at U;subst U;have:(tyZ e0 g n).form=true:=by simp only[Ty.valid,oK]at v0;exact v0.2
     cases hz:tyZ e0 g n with
     | mk k l=>rw[hz]at I this;simp only[Ty.as]at I;subst I;simp[Ty.form,tC,qL,tZero]at this
    ·omega
  ·simp only[yQ,J,O];show(xt 7 s [tyZ e0 g n,tyZ e1 g n]).getD tZero=_;unfold xt;rw[if_neg (by omega),if_neg (by omega)];simp only[mI,mi];split<;>rfl
theorem YW {l:List Tm} {g:List Tg} {n:Int} {s:ByteArray} (hs:0<sc s):((match yQ l g n with | some ts=>xt 4 s ts | none=>none):Option Ty).getD tZero =
  if CU (AZ s) (l.map λe=>tyZ e g n)then Db s else tZero:=by
 have h2:Db s=Fi s/\(AZ s=tInt/\Ku s=1\/AZ s=tBool/\Ku s=2):=by
  unfold sc at hs
  (repeat' split at hs)<;>first | omega | (subst_vars;exact⟨rfl,.inl ⟨rfl,rfl⟩⟩) | (subst_vars;exact⟨rfl,.inr ⟨rfl,rfl⟩⟩) | skip
 obtain⟨h3,I⟩:=h2
 have key:∀ l:List Tm,(∀ ts,yQ l g n=some ts->CU (AZ s) (l.map λe=>tyZ e g n)=R1 (Ku s) ts)/\(yQ l g n=none->CU (AZ s) (l.map λe=>tyZ e g n)=false):=by
  intro l
  induction l with
  | nil=>exact⟨λts h=>by simp[yQ]at h;subst h;rfl,λh=>by simp[yQ]at h⟩
  | cons e l U=>
    rcases sY e g n with⟨O,z0⟩ | ⟨O,v0⟩
    ·have:sd tZero (AZ s)=false:=by rcases I with⟨I,_⟩ | ⟨I,_⟩<;>rw[I]<;>rfl
     refine⟨λts h=>by simp[yQ,O]at h,λ_=>by simp[CU,z0,this]⟩
    ·have hk:sd (tyZ e g n) (AZ s)=decide ((tyZ e g n).k=Ku s):=by
      rcases I with⟨I,Y⟩ | ⟨I,Y⟩<;>rw[I,Y]
      ·exact WX v0
      ·exact QD v0
     cases J:yQ l g n with
     | none=>exact⟨λts h=>by simp[yQ,O,J]at h,λ_=>by simp[CU,U.2 J]⟩
     | some us=>refine⟨λts h=>?_,λh=>by simp[yQ,O,J]at h⟩;simp only[yQ,O,J,oh]at h;subst h;simp only[nH,CU,R1,hk,U.1 us J]
 cases J:yQ l g n with
 | none=>rw[(key l).2 J];rfl
 | some ts=>rw[(key l).1 ts J,h3];show(xt 4 s ts).getD tZero=_;unfold xt VJ;rw[if_pos rfl];split<;>rfl
abbrev G0 (k:Int)(nm ot:ByteArray)(m:Int)(t0 t1 r0 r1:D)(a:Option Addr)(es:List D)(c:Nat):D:=.ag [.j k,.t nm,.t ot,.j m,t0,t1,r0,r1,.sl a 9 es c]
theorem f5 {nm ot:ByteArray} {m n:Int} {ty re:Ty} {l:List Tm} {t0 t1 r0 r1:D} {es1:List D} {a1 a:Option Addr} {c1 c:Nat} {g:List Tg} {es:List D} (ih:IHi l) (hh:Tm.Hd nm ot ty re t0 t1 r0 r1) (h0:All2 Tm.Is l es1) (hl1:es1.length<=4611686018427387904)
  (pre:Pre g (.mk 5 nm ot m ty re l) n) (ctx:Ctx g es) :
  Dr 120 [.sv a 4 es c,.dg 9 (G0 5 nm ot m t0 t1 r0 r1 a1 es1 c1),.j n] ((Tm.raw (.mk 5 nm ot m ty re l) g n).getD tZero):=fun N Q hQ=>by
 have hl : l.length = 3 := by have:(l.length:Int)=3:=(yk pre.ok).ar
                              omega
 obtain⟨e0,e1,e2,rfl⟩:∃ a b c,l=[a,b,c]:=by
  match l,hl with
  | [a,b,c],_=>exact⟨a,b,c,rfl⟩
 have hraw:(Tm.raw (.mk 5 nm ot m ty re [e0,e1,e2]) g n).getD tZero=if sd (tyZ e0 g n) tBool&&sd (tyZ e1 g n) (tyZ e2 g n)then tyZ e1 g n else tZero:=by rw[<-YV (s:=nm)];simp only[Tm.raw];rfl
 rw[hraw]at hQ;have hn:zK 5 n=n:=by simp[zK]
 refine zX N a es c _ n Q fun _ _=>⟨_,rfl,?_⟩
 repeat' first|with_reducible intro _|simp only[Y1]|with_reducible refine X ?_ ?_|refine⟨_,_,_,rfl,?_⟩|refine⟨_,rfl,?_⟩|refine X0 ?_|refine(FA hn ih h0 hl1 pre ctx 1 rfl _ _ _) _ _ ?_|refine(FA hn ih h0 hl1 pre ctx 2 rfl _ _ _) _ _ ?_|refine(FA hn ih h0 hl1 pre ctx 0 rfl _ _ _) _ _ ?_|refine EY _ _ ?_|refine(za (tyZ e0 g n) tBool _ _ (by assumption) (by assumption)) _ _ ?_|refine(za (tyZ e1 g n) (tyZ e2 g n) _ _ (by assumption) (by assumption)) _ _ ?_|(((with_reducible refine And.intro ?_ ?_);· exact s6 (by assumption) (by assumption)))|fail
 all_goals first | (exfalso;omega) | skip
 all_goals first
  | exact hQ _ _ (by omega) (by rw[if_pos (by simp[*])];assumption) (Own.mono (by assumption) (by omega) (by omega))
  | exact hQ _ _ (by omega) (by rw[if_neg (by simp[*])];exact xB) ym
def PQ (z0 I:Ty):Ty:=if z0.k=3/\sd (z0.as.getD 0 tZero) I then z0.as.getD 1 tZero else tZero
theorem f7 {nm ot:ByteArray} {m n:Int} {ty re:Ty} {l:List Tm} {t0 t1 r0 r1:D} {es1:List D} {a1 a:Option Addr} {c1 c:Nat} {g:List Tg} {es:List D} (ih:IHi l) (hh:Tm.Hd nm ot ty re t0 t1 r0 r1) (h0:All2 Tm.Is l es1) (hl1:es1.length<=4611686018427387904)
  (pre:Pre g (.mk 7 nm ot m ty re l) n) (ctx:Ctx g es) :
  Dr 120 [.sv a 4 es c,.dg 9 (G0 7 nm ot m t0 t1 r0 r1 a1 es1 c1),.j n] ((Tm.raw (.mk 7 nm ot m ty re l) g n).getD tZero):=fun N Q hQ=>by
 have hl : l.length = 2 := by have:(l.length:Int)=2:=(yk pre.ok).ar
                              omega
 obtain⟨e0,e1,rfl⟩:=OA hl;have hraw:(Tm.raw (.mk 7 nm ot m ty re [e0,e1]) g n).getD tZero=PQ (tyZ e0 g n) (tyZ e1 g n):=by unfold PQ;rw[<-Xg (s:=nm)];simp only[Tm.raw];rfl
 rw[hraw]at hQ;have hn:zK 7 n=n:=by simp[zK]
 refine zX N a es c _ n Q fun _ _=>⟨_,rfl,?_⟩
 repeat' first|with_reducible intro _|simp only[Y1]|with_reducible refine X ?_ ?_|refine⟨_,_,_,rfl,?_⟩|refine⟨_,rfl,?_⟩|refine X0 ?_|refine(FA hn ih h0 hl1 pre ctx 0 rfl _ _ _) _ _ ?_|refine(FA hn ih h0 hl1 pre ctx 1 rfl _ _ _) _ _ ?_|(((with_reducible refine And.intro ?_ ?_);· exact s6 (by assumption) (by assumption)))|fail
 all_goals first | (exfalso;omega) | skip
 rename_i hd0 ho0 _ _ _ _ _ _ _ _ _ _ _ _ _ _ hd1 ho1 _ _;have hv:=sY e0 g n;generalize tyZ e0 g n=z0 at *;cases z0 with
 | mk k0 l0=>
 obtain⟨a2,es2,c2,rfl,hl2,he2⟩:=Ty.is_mk.1 hd0;by_cases hk:k0=3
 ·subst hk;have hv:(Ty.mk 3 l0).valid=true:=by
   rcases hv with⟨_,hv⟩ | ⟨_,hv⟩
   ·cases hv
   ·exact hv
  have hcn:=Ty.valid_cnt hv;rcases Ty.valid_k hv with⟨hk,_⟩ | ⟨hk,_⟩ | ⟨_,u,v,huv⟩ | ⟨hk,_⟩
  ·cases hk
  ·cases hk
  ·simp only[Ty.as]at huv;subst huv;obtain⟨x0,_,rfl,hx0,x1,_,rfl,hx1,rfl⟩:=he2;simp only[Ty.cnt,zS]at hcn;have q1:sd u (tyZ e1 g n)=true->PQ (.mk 3 [u,v]) (tyZ e1 g n)=v:=fun h=>if_pos ⟨rfl,h⟩;have q2:sd u (tyZ e1 g n)=false->PQ (.mk 3 [u,v]) (tyZ e1 g n)=tZero:=fun h=>if_neg fun hc=>by rw[show(Ty.mk 3 [u,v]).as.getD 0 tZero=u from rfl,h]at hc;cases hc.2
   repeat' first|with_reducible intro _|simp only[oJ,oN,Y1]|with_reducible refine X ?_ ?_|refine⟨_,_,_,rfl,?_⟩|refine⟨_,rfl,?_⟩|refine X0 ?_|refine(za u (tyZ e1 g n) _ _ hx0 hd1) _ _ ?_|refine(Ij v _ hx1 (by omega)) _ _ ?_|fail
   all_goals first | (exfalso;omega) | skip
   all_goals first
    | exact hQ _ _ (by omega) (by rw[q1 (by assumption)];assumption) (Own.mono (by assumption) (by omega) (by omega))
    | exact hQ _ _ (by omega) (by rw[q2 (by assumption)];exact xB) ym
  ·cases hk
 ·repeat' first|with_reducible intro _|simp only[Y1]|with_reducible refine X ?_ ?_|refine⟨_,_,_,rfl,?_⟩|refine⟨_,rfl,?_⟩|refine X0 ?_|fail
  all_goals first | (exfalso;omega) | skip
  exact hQ _ _ (by omega) (by rw[show PQ (.mk k0 l0) (tyZ e1 g n)=tZero from if_neg fun h=>hk h.1];exact xB) ym
def Sg (t z:Ty):Ty:=if z.k=0 then tZero else wa t z
theorem f6 {nm ot:ByteArray} {m n:Int} {ty re:Ty} {l:List Tm} {t0 t1 r0 r1:D} {es1:List D} {a1 a:Option Addr} {c1 c:Nat} {g:List Tg} {es:List D} (ih:IHi l) (hh:Tm.Hd nm ot ty re t0 t1 r0 r1) (h0:All2 Tm.Is l es1) (hl1:es1.length<=4611686018427387904)
  (pre:Pre g (.mk 6 nm ot m ty re l) n) (ctx:Ctx g es) :
  Dr 120 [.sv a 4 es c,.dg 9 (G0 6 nm ot m t0 t1 r0 r1 a1 es1 c1),.j n] ((Tm.raw (.mk 6 nm ot m ty re l) g n).getD tZero):=fun N Q hQ=>by
 have hl : l.length = 1 := by have:(l.length:Int)=1:=(yk pre.ok).ar
                              omega
 obtain⟨e0,rfl⟩:=Da hl;obtain⟨d0,_,rfl,h0,rfl⟩:=h0;have hlen:=pre.len1;have hpc:1<=(Tm.mk 6 nm ot m ty re [e0]).cnt:=by simp only[Tm.cnt];omega
 have hv:=Ty.valid_cnt ((yk pre.ok).vt (.inl rfl));have hp:=pre.sub (x:=e0) (by simp) (g':=g++[⟨nm,ty,n⟩]) (by simp) (qx pre.ty (show ty.cnt<=64 by omega));rw[show zK 6 n=n by simp[zK]]at hp;have hc:=Mm e0 (g++[⟨nm,ty,n⟩]) n;have hz:=sY e0 (g++[⟨nm,ty,n⟩]) n;have hraw:(Tm.raw (.mk 6 nm ot m ty re [e0]) g n).getD tZero=Sg ty (tyZ e0 (g++[⟨nm,ty,n⟩]) n):=by
  have:Tm.raw (.mk 6 nm ot m ty re [e0]) g n=(match e0.type (g++[⟨nm,ty,n⟩]) n with | some b=>some (wa ty b) | none=>none):=by simp only[Tm.raw,uj];rfl
  rw[this];unfold Sg;rcases hz with⟨h1,h2⟩ | ⟨h1,h2⟩
  ·rw[h1,h2];rfl
  ·rw[h1,if_neg (Ty.valid_nz h2)];rfl
 rw[hraw]at hQ;have hctx:Ctx [⟨nm,ty,n⟩] [.ag [.t nm,t0,t1,.j n]]:=⟨by simp,_,_,rfl,⟨_,_,rfl,hh.nm,hh.ty⟩,rfl⟩
 refine zX N a es c _ n Q fun _ _=>⟨_,rfl,?_⟩
 repeat' first|with_reducible intro _|simp only[oJ,oN,Y1]|with_reducible refine X ?_ ?_|refine⟨_,_,_,rfl,?_⟩|refine⟨_,rfl,?_⟩|refine X0 ?_|refine(Py ctx hctx (by simp;omega) _ _ _ _) _ _ ?_|refine(ih e0 nT d0 h0 (g++[⟨nm,ty,n⟩]) _ _ _ n hp (by assumption)) _ _ ?_|(((with_reducible refine And.intro ?_ ?_);· exact JB (by assumption) (by assumption) (by assumption) (by assumption)))|fail
 all_goals first | (exfalso;omega) | skip
 rename_i hd0 ho0 _ _;generalize tyZ e0 (g++[⟨nm,ty,n⟩]) n=z0 at *;cases z0 with
 | mk k0 l0=>
 have hd1:=hd0;obtain⟨a2,es2,c2,rfl,hl2,he2⟩:=Ty.is_mk.1 hd0
 repeat' first|with_reducible intro _|simp only[Y1]|with_reducible refine X ?_ ?_|refine⟨_,_,_,rfl,?_⟩|refine⟨_,rfl,?_⟩|refine X0 ?_|refine(L2 ty (.mk k0 l0) _ _ hh.ty hd1 (by omega) (by omega)) _ _ ?_|fail
 all_goals first
  | exact hQ _ _ (by omega) (by rw[show Sg ty (.mk k0 l0)=tZero from if_pos (by assumption)];exact xB) ym
  | exact hQ _ _ (by omega) (by rw[show Sg ty (.mk k0 l0)=wa ty (.mk k0 l0)from if_neg (by assumption)];assumption) (Own.mono (by assumption) (by omega) (by omega))
def Si (e1:Tm)(g:List Tg)(nm:ByteArray)(n:Int)(z:Ty):Ty:=if z.k=0 then tZero else tyZ e1 (g++[⟨nm,z,n⟩]) n
theorem f8 {nm ot:ByteArray} {m n:Int} {ty re:Ty} {l:List Tm} {t0 t1 r0 r1:D} {es1:List D} {a1 a:Option Addr} {c1 c:Nat} {g:List Tg} {es:List D} (ih:IHi l) (hh:Tm.Hd nm ot ty re t0 t1 r0 r1) (h0:All2 Tm.Is l es1) (hl1:es1.length<=4611686018427387904)
  (pre:Pre g (.mk 8 nm ot m ty re l) n) (ctx:Ctx g es) :
  Dr 120 [.sv a 4 es c,.dg 9 (G0 8 nm ot m t0 t1 r0 r1 a1 es1 c1),.j n] ((Tm.raw (.mk 8 nm ot m ty re l) g n).getD tZero):=fun N Q hQ=>by
 have hl : l.length = 2 := by have:(l.length:Int)=2:=(yk pre.ok).ar
                              omega
 obtain⟨e0,e1,rfl⟩:=OA hl;have hes1:=h0;obtain⟨d0,_,rfl,h0,d1,_,rfl,h1,rfl⟩:=h0;have hlen:=pre.len1;have hpc:1<=(Tm.mk 8 nm ot m ty re [e0,e1]).cnt:=by simp only[Tm.cnt];omega
 have hz:=sY e0 g n;have hc:=Mm e0 g n;have hraw:(Tm.raw (.mk 8 nm ot m ty re [e0,e1]) g n).getD tZero=Si e1 g nm n (tyZ e0 g n):=by
  have:Tm.raw (.mk 8 nm ot m ty re [e0,e1]) g n=(match e0.type g n with | some b=>e1.type (g++[⟨nm,b,n⟩]) n | none=>none):=by simp only[Tm.raw,uj];rfl
  rw[this];unfold Si;rcases hz with⟨h1,h2⟩ | ⟨h1,h2⟩
  ·rw[h1,h2];rfl
  ·rw[h1,if_neg (Ty.valid_nz h2)];rfl
 rw[hraw]at hQ;have hn:zK 8 n=n:=by simp[zK]
 refine zX N a es c _ n Q fun _ _=>⟨_,rfl,?_⟩
 repeat' first|with_reducible intro _|simp only[oJ,oN,Y1]|with_reducible refine X ?_ ?_|refine⟨_,_,_,rfl,?_⟩|refine⟨_,rfl,?_⟩|refine X0 ?_|refine(FA hn ih hes1 hl1 pre ctx 0 rfl _ _ _) _ _ ?_|(((with_reducible refine And.intro ?_ ?_);· exact s6 (by assumption) (by assumption)))|fail
 all_goals first | (exfalso;omega) | skip
 rename_i hd0 ho0 _ _;generalize tyZ e0 g n=z0 at *;cases z0 with
 | mk k0 l0=>
 have hd1:=hd0;obtain⟨a2,es2,c2,rfl,hl2,he2⟩:=Ty.is_mk.1 hd0;by_cases hk:k0=0
 ·have q:Si e1 g nm n (.mk k0 l0)=tZero:=if_pos hk;rw[q]at hQ
  repeat' first|with_reducible intro _|simp only[Y1]|with_reducible refine X ?_ ?_|refine⟨_,_,_,rfl,?_⟩|refine⟨_,rfl,?_⟩|refine X0 ?_|fail
  all_goals first | (exfalso;omega) | exact hQ _ _ (by omega) xB ym
 ·have q:Si e1 g nm n (.mk k0 l0)=tyZ e1 (g++[⟨nm,.mk k0 l0,n⟩]) n:=if_neg hk;rw[q]at hQ;have hp:=pre.sub (x:=e1) (by simp) (g':=g++[⟨nm,.mk k0 l0,n⟩]) (by simp) (qx pre.ty (oR hc (by omega)));rw[hn]at hp;have hctx:Ctx [⟨nm,.mk k0 l0,n⟩] [.ag [.t nm,.j k0,.sl a2 2 es2 c2,.j n]]:=⟨by simp,_,_,rfl,⟨_,_,rfl,hh.nm,hd1⟩,rfl⟩
  repeat' first|with_reducible intro _|simp only[oJ,oN,Y1]|with_reducible refine X ?_ ?_|refine⟨_,_,_,rfl,?_⟩|refine⟨_,rfl,?_⟩|refine X0 ?_|refine(Py ctx hctx (by simp;omega) _ _ _ _) _ _ ?_|refine(ih e1 (by simp) d1 h1 (g++[⟨nm,.mk k0 l0,n⟩]) _ _ _ n hp (by assumption)) _ _ ?_|(((with_reducible refine And.intro ?_ ?_);· exact JB (by assumption) (by assumption) (by assumption) (by assumption)))|fail
  all_goals first | (exfalso;omega) | skip
  exact hQ _ _ (by omega) (by assumption) (Own.mono (by assumption) (by omega) (by omega))
theorem YU {nm ot:ByteArray} {ty re:Ty} {t0 t1 r0 r1 x:D} (I:Tm.Hd nm ot ty re t0 t1 r0 r1) (J:(wa ty re).Is x) (n:Int) :
  Ctx [⟨nm,wa ty re,n⟩,⟨ot,ty,n⟩] [.ag [.t nm,D.cell x 0,D.cell x 1,.j n],.ag [.t ot,t0,t1,.j n]]:=
 ⟨by simp,_,_,rfl,⟨_,_,rfl,I.nm,Ty.is_cells J⟩,_,_,rfl,⟨_,_,rfl,I.ot,I.ty⟩,rfl⟩
theorem f9 {nm ot:ByteArray} {m n:Int} {ty re:Ty} {l:List Tm} {t0 t1 r0 r1:D} {es1:List D} {a1 a:Option Addr} {c1 c:Nat} {g:List Tg} {es:List D} (ih:IHi l) (hh:Tm.Hd nm ot ty re t0 t1 r0 r1) (h0:All2 Tm.Is l es1) (hl1:es1.length<=4611686018427387904)
  (pre:Pre g (.mk 9 nm ot m ty re l) n) (ctx:Ctx g es) :
  Dr 120 [.sv a 4 es c,.dg 9 (G0 9 nm ot m t0 t1 r0 r1 a1 es1 c1),.j n] ((Tm.raw (.mk 9 nm ot m ty re l) g n).getD tZero):=fun N Q hQ=>by
 have hl : l.length = 1 := by have:(l.length:Int)=1:=(yk pre.ok).ar
                              omega
 obtain⟨e0,rfl⟩:=Da hl;obtain⟨d0,_,rfl,h0,rfl⟩:=h0;have hlen:=pre.len1;have hpc:1<=(Tm.mk 9 nm ot m ty re [e0]).cnt:=by simp only[Tm.cnt];omega
 have hv:=Ty.valid_cnt ((yk pre.ok).vt (.inr rfl));have hrv:=(yk pre.ok).vr rfl;have hr:=Ty.valid_cnt hrv;have hg1:=qx (x:=⟨nm,wa ty re,n⟩) pre.ty (show(wa ty re).cnt<=64 by simp only[wa,Ty.cnt,zS];omega);have hp:=pre.sub (x:=e0) (by simp) (g':=(g++[⟨nm,wa ty re,n⟩])++[⟨ot,ty,n⟩]) (by simp) (qx hg1 (show ty.cnt<=64 by omega));rw[show zK 9 n=n by simp[zK],oP,lM]at hp;have hz:=sY e0 (g++[⟨nm,wa ty re,n⟩,⟨ot,ty,n⟩]) n;have hraw:(Tm.raw (.mk 9 nm ot m ty re [e0]) g n).getD tZero=if sd (tyZ e0 (g++[⟨nm,wa ty re,n⟩,⟨ot,ty,n⟩]) n) re then wa ty re else tZero:=by
  have:Tm.raw (.mk 9 nm ot m ty re [e0]) g n=(match e0.type ((g++[⟨nm,wa ty re,n⟩])++[⟨ot,ty,n⟩]) n with | some b=>if sd b re then some (wa ty re)else none | none=>none):=by simp only[Tm.raw,uj];rfl
  rw[this,oP,lM];rcases hz with⟨h1,h2⟩ | ⟨h1,h2⟩
  ·rw[h1,h2,(QE hrv).2];rfl
  ·rw[h1];dsimp only;split<;>rfl
 rw[hraw]at hQ;refine zX N a es c _ n Q fun _ _=>⟨_,rfl,?_⟩
 repeat' first|with_reducible intro _|simp only[oJ,oN,Y1]|with_reducible refine X ?_ ?_|refine⟨_,_,_,rfl,?_⟩|refine⟨_,rfl,?_⟩|refine X0 ?_|refine(L2 ty re _ _ hh.ty hh.re (by omega) (by omega)) _ _ ?_|refine(Py ctx (h:=[⟨nm,wa ty re,n⟩,⟨ot,ty,n⟩]) (YU hh (by assumption) n) (by simp;omega) _ _ _ _) _ _ ?_|refine(ih e0 nT d0 h0 (g++[⟨nm,wa ty re,n⟩,⟨ot,ty,n⟩]) _ _ _ n hp (by assumption)) _ _ ?_|refine(za (tyZ e0 (g++[⟨nm,wa ty re,n⟩,⟨ot,ty,n⟩]) n) re _ _ (by assumption) hh.re) _ _ ?_|(((with_reducible refine And.intro ?_ ?_);· exact JB (by assumption) (by assumption) (by assumption) (by assumption)))|fail
 all_goals first | (exfalso;omega) | skip
 all_goals first
  | exact hQ _ _ (by omega) (by rw[if_pos (by assumption)];assumption) (Own.mono (by assumption) (by omega) (by omega))
  | exact hQ _ _ (by omega) (by rw[if_neg (by simp[*])];exact xB) ym
def stZ (k:Int)(z:Ty):Ty:=if k=10 then(if z.k=0 then tZero else vI z)else if k=13 then(if z.base then vI z else tZero)else DW z
theorem XA {k:Int}{e0:Tm}{g:List Tg}{n:Int}:((match e0.type g n with | some t=>xP k t | none=>none):Option Ty).getD tZero=stZ k (tyZ e0 g n):=by
 rcases sY e0 g n with⟨I,J⟩ | ⟨I,J⟩
 ·rw[I,J];have:stZ k tZero=tZero:=by
   unfold stZ;split
   ·rfl
   ·split<;>rfl
  exact this.symm
 ·rw[I];dsimp only
  have:=Ty.valid_nz J
  unfold stZ xP DW;rw[if_neg this]
  (repeat' split)<;>rfl
theorem fS {k:Int} {nm ot:ByteArray} {m n:Int} {ty re:Ty} {l:List Tm} {t0 t1 r0 r1:D} {aa:List D} {a1 a:Option Addr} {c1 c:Nat} {g:List Tg} {es:List D} (hk:k=10\/k=11\/k=12\/k=13) (ih:IHi l) (hh:Tm.Hd nm ot ty re t0 t1 r0 r1) (h0:All2 Tm.Is l aa) (ao:aa.length<=4611686018427387904)
  (pre:Pre g (.mk k nm ot m ty re l) n) (Y:Ctx g es) :
  Dr 185 [.sv a 4 es c,.dg 9 (G0 k nm ot m t0 t1 r0 r1 a1 aa c1),.j n] ((Tm.raw (.mk k nm ot m ty re l) g n).getD tZero):=λN Q O=>by
 have hl:l.length=1:=by
  have ai:=(yk pre.ok).ar;have:(l.length:Int)=1:=by rw[ai];rcases hk with rfl | rfl | rfl | rfl<;>rfl
  omega
 obtain⟨e0,rfl⟩:=Da hl;obtain⟨d0,_,rfl,h0,rfl⟩:=h0;have al:=pre.len1;have aq:=pre.lv;have ab:=C4 g n g 0;have aj:∀ x∈g,x.ty.cnt<=1073741824:=λx hx=>oR (pre.ty x hx) (by omega);have ac:(Tm.raw (.mk k nm ot m ty re [e0]) g n).getD tZero=stZ k (tyZ e0 (if k=12 then tv g n else g) (zK k n)):=by rw[<-XA];simp only[Tm.raw,uj];rw[if_neg (by omega),if_neg (by omega),if_neg (by omega),if_neg (by omega),if_neg (by omega),if_neg (by omega),if_pos hk];rfl
 rw[ac]at O;have hp:=pre.sub (x:=e0) (by simp) (g':=if k=12 then tv g n else g) (by split<;>simp[tv];omega) (by split;exact λy hy=>pre.ty y (ab.1 y hy);exact pre.ty);have U:∀ es a c,Ctx (if k=12 then tv g n else g) es->Dr 58 [.sv a 4 es c,.dg 9 d0,.j (zK k n)] (tyZ e0 (if k=12 then tv g n else g) (zK k n)):=λes a c hc=>ih e0 nT d0 h0 _ es a c _ hp hc;have hz:=sY e0 (if k=12 then tv g n else g) (zK k n);have au:=Mm e0 (if k=12 then tv g n else g) (zK k n);generalize tyZ e0 (if k=12 then tv g n else g) (zK k n)=z0 at *;have ae:z0.valid=true\/z0=tZero:=hz.elim (λh=>.inr h.2) λh=>.inl h.2;refine EH N a es c _ n Q λ_ _=>⟨_,rfl,?_⟩
 rw[i64_in (n+1) (by omega),i64_in (n - 1) (by omega)];cases z0 with
 | mk J l0=>
 rcases hk with rfl | rfl | rfl | rfl
 ·have I:=U es a c Y;rw[show zK 10 n=n+1 by simp[zK]]at I
  repeat' first|with_reducible intro _|simp only[oJ,oN,Y1]|with_reducible refine X ?_ ?_|refine⟨_,_,_,rfl,?_⟩|refine⟨_,rfl,?_⟩|refine X0 ?_|refine I _ _ ?_|fail
  all_goals first | (exfalso;omega) | skip
  rename_i ah aw _ _;have ak:=ah;obtain⟨a2,ax,c2,rfl,ay,az⟩:=Ty.is_mk.1 ah;have q:stZ 10 (.mk J l0)=if J=0 then tZero else vI (.mk J l0):=rfl
  rw[q]at O
  repeat' first|with_reducible intro _|simp only[Y1]|with_reducible refine X ?_ ?_|refine⟨_,_,_,rfl,?_⟩|refine⟨_,rfl,?_⟩|refine X0 ?_|refine(Ir (.mk J l0) _ ak (by omega)) _ _ ?_|fail
  all_goals first
   | exact O _ _ (by omega) (by rw[if_neg (by assumption)];assumption) (Own.mono (by assumption) (by omega) (by omega))
   | exact O _ _ (by omega) (by rw[if_pos (by assumption)];exact xB) ym
 ·have I:=U es a c Y;rw[show zK 11 n=n - 1 by simp[zK]]at I;have q:stZ 11 (.mk J l0)=DW (.mk J l0):=rfl;rw[q]at O
  repeat' first|with_reducible intro _|simp only[oJ,oN,Y1]|with_reducible refine X ?_ ?_|refine⟨_,_,_,rfl,?_⟩|refine⟨_,rfl,?_⟩|refine X0 ?_|refine I _ _ ?_|refine(M5 (.mk J l0) _ (by assumption) ae) _ _ ?_|fail
  all_goals first | (exfalso;omega) | skip
  exact O _ _ (by omega) (by assumption) (Own.mono (by assumption) (by omega) (by omega))
 ·rw[if_pos rfl,show zK 12 n=n by simp[zK]]at U;have q:stZ 12 (.mk J l0)=DW (.mk J l0):=rfl;rw[q]at O
  repeat' first|with_reducible intro _|simp only[oJ,oN,Y1]|with_reducible refine X ?_ ?_|refine⟨_,_,_,rfl,?_⟩|refine⟨_,rfl,?_⟩|refine X0 ?_|refine(Pk Y (by omega) aj _ _ n) _ _ ?_|refine(U _ _ _ (by assumption)) _ _ ?_|refine(M5 (.mk J l0) _ (by assumption) ae) _ _ ?_|fail
  all_goals first | (exfalso;omega) | skip
  exact O _ _ (by omega) (by assumption) (Own.mono (by assumption) (by omega) (by omega))
 ·have I:=U es a c Y;rw[show zK 13 n=n by simp[zK]]at I;have q:stZ 13 (.mk J l0)=if(Ty.mk J l0).base then vI (.mk J l0)else tZero:=rfl
  rw[q]at O
  repeat' first|with_reducible intro _|simp only[oJ,oN,Y1]|with_reducible refine X ?_ ?_|refine⟨_,_,_,rfl,?_⟩|refine⟨_,rfl,?_⟩|refine X0 ?_|refine I _ _ ?_|refine(BF (.mk J l0) _ (by assumption)) _ _ ?_|refine(Ir (.mk J l0) _ (by assumption) (by omega)) _ _ ?_|fail
  all_goals first | (exfalso;omega) | skip
  all_goals first
   | exact O _ _ (by omega) (by rw[if_pos (by assumption)];assumption) (Own.mono (by assumption) (by omega) (by omega))
   | exact O _ _ (by omega) (by rw[if_neg (by simp[*])];exact xB) ym
theorem f4 {nm ot:ByteArray} {m n:Int} {ty re:Ty} {l:List Tm} {t0 t1 r0 r1:D} {I:List D} {a1 a:Option Addr} {c1 c:Nat} {g:List Tg} {es:List D} (ih:IHi l) (hh:Tm.Hd nm ot ty re t0 t1 r0 r1) (h0:All2 Tm.Is l I) (U:I.length<=4611686018427387904)
  (pre:Pre g (.mk 4 nm ot m ty re l) n) (ac:Ctx g es) :
  Dr 120 [.sv a 4 es c,.dg 9 (G0 4 nm ot m t0 t1 r0 r1 a1 I c1),.j n] ((Tm.raw (.mk 4 nm ot m ty re l) g n).getD tZero):=λN Q hQ=>by
 have al:=pre.len1;have aq:=h0.len;have au:=(yk pre.ok).ar;have ao:=Lq 4 nm;have ae:0<sc nm:=by
  have:=(yk pre.ok).f
  simp only[zI,zw,oK]at this
  have:=this.2.2.2.2.2
  simp at this;exact this.1
 have Y:(Tm.raw (.mk 4 nm ot m ty re l) g n).getD tZero=if CU (AZ nm) (l.map λe=>tyZ e g n)then Db nm else tZero:=by rw[<-YW ae];simp only[Tm.raw];rfl
 rw[Y]at hQ;have hn:zK 4 n=n:=by simp[zK]
 have key:yr Q N 0 0 I.length (0:Nat) (G0 4 nm ot m t0 t1 r0 r1 a1 I c1) 0 none [] 0 a es c n [] 0 N:=by
  refine up h0 U (λi xs=>∀(r:List D) (q p:Nat) (N':Nat) (ts:List Ty),N<=N'->p=r.length->All2 Ty.Is ts r->ts.length=i->(∀ b∈zC r,N<=b)->ts++(xs.map λe=>tyZ e g n)=(l.map λe=>tyZ e g n) ->
   yr Q N p q I.length i (G0 4 nm ot m t0 t1 r0 r1 a1 I c1) 0 none [] 0 a es c n r q N') ?_ ?_ [] 0 0 N [] (oC _) rfl rfl rfl (by simp[zC]) rfl
  ·intro i ah hi r q p N' ts ai hp hr aa ab J;have aj:=hr.len;simp only[my,o7]at J;rw[<-J]at hQ;refine tX ?_
   repeat' first|with_reducible intro _|simp only[ah,Y1]|with_reducible refine X ?_ ?_|refine⟨_,_,_,rfl,?_⟩|refine⟨_,rfl,?_⟩|refine X0 ?_|refine(SI hr (by omega) _ _ nm) _ _ ?_|(((with_reducible refine And.intro ?_ ?_);· exact s6 (by assumption) (by assumption)))|fail
   exact hQ _ _ (by omega) (by assumption) (Own.mono (by assumption) (by omega) (by omega))
  ·intro i x xs O _ ak r q p N' ts ai hp hr aa ab J;have hb:=O.b;have aj:=hr.len;refine tX ?_
   repeat' first|with_reducible intro _|simp only[O.lt,O.w,oG,Y1]|with_reducible refine X ?_ ?_|refine⟨_,_,_,rfl,?_⟩|refine⟨_,rfl,?_⟩|refine X0 ?_|refine(FA hn ih h0 U pre ac i O.g _ _ _) _ _ ?_|(((with_reducible refine And.intro ?_ ?_);· exact s6 (by assumption) (by assumption)))|fail
   all_goals first | (exfalso;omega) | skip
   rename_i hd ho _ _;refine⟨by unfold zB;simp only[oH,mD];omega,λc2=>ak _ _ _ _ (ts++[tyZ x g n]) (by omega) rfl (hr.snoc hd) (by simp[aa]) (λb hb=>?_) (by simpa using J)⟩;rw[zG]at hb;rcases oM.1 hb with hb | hb
   ·exact ab b hb
   ·simp only[zC,o7]at hb
    have:=ho.lo b hb
    omega
 refine zX N a es c _ n Q λ_ _=>⟨_,rfl,?_⟩
 repeat' first|with_reducible intro _|simp only[Y1]|with_reducible refine X ?_ ?_|refine⟨_,_,_,rfl,?_⟩|refine⟨_,rfl,?_⟩|refine X0 ?_|fail
 all_goals first | (exfalso;omega) | exact key
theorem f1 {nm ot:ByteArray} {m n:Int} {ty re:Ty} {l:List Tm} {t0 t1 r0 r1:D} {U:List D} {a1 a:Option Addr} {c1 c:Nat} {g:List Tg} {es:List D}
  (pre:Pre g (.mk 1 nm ot m ty re l) n) (I:Ctx g es) :
  Dr 120 [.sv a 4 es c,.dg 9 (G0 1 nm ot m t0 t1 r0 r1 a1 U c1),.j n] ((Tm.raw (.mk 1 nm ot m ty re l) g n).getD tZero):=λN Q J=>by
 have aa:=I.all.len;have O:Tm.raw (.mk 1 nm ot m ty re l) g n=DB g nm n:=by simp[Tm.raw]
 rw[O]at J;refine zX N a es c _ n Q λ_ _=>⟨_,rfl,?_⟩
 rcases Fa g nm g.length with hlx | hlx
 ·have hlx:yj g nm = -1:=hlx;have:DB g nm n=none:=by simp[DB,hlx]
  rw[this]at J
  repeat' first|with_reducible intro _|simp only[hlx,Y1]|with_reducible refine X ?_ ?_|refine⟨_,_,_,rfl,?_⟩|refine⟨_,rfl,?_⟩|refine X0 ?_|refine(Ca I a c nm) _ _ ?_|fail
  all_goals first | (exfalso;omega) | skip
  exact J _ _ (by omega) xB ym
 ·have hlx:0<=yj g nm/\yj g nm<g.length:=hlx;have hg:g[(yj g nm).toNat]?=some g[(yj g nm).toNat]:=oI (by omega);have hx:=I.all.get hg;have Y:g.getD (yj g nm).toNat tg0=g[(yj g nm).toNat]:=I4 hg;obtain⟨u0,u1,hd,hs,ht⟩:=hx;have hm:g[(yj g nm).toNat]∈g:=mj _;have ab:=pre.ty _ hm;have:DB g nm n=if g[(yj g nm).toNat].lv=n then some g[(yj g nm).toNat].ty else none:=by rw[DB,if_neg (by omega),Y]
  rw[this]at J;generalize g[(yj g nm).toNat]=x at *
  repeat' first|with_reducible intro _|simp only[hd,Y1]|with_reducible refine X ?_ ?_|refine⟨_,_,_,rfl,?_⟩|refine⟨_,rfl,?_⟩|refine X0 ?_|refine(Ca I a c nm) _ _ ?_|refine(Ij _ _ ht (by omega)) _ _ ?_|fail
  all_goals first | (exfalso;omega) | skip
  ·rw[if_pos (by assumption)]at J;exact J _ _ (by omega) (by assumption) (Own.mono (by assumption) (by omega) (by omega))
  ·rw[if_neg (by assumption)]at J;exact J _ _ (by omega) xB ym
theorem OU {e:Tm} {d:D} (he:e.Is d) (Y:match e with | .mk _ _ _ _ _ _ l=>IHi l) {g:List Tg} {es:List D} (a:Option Addr) (c:Nat) {n:Int} (pre:Pre g e n) (O:Ctx g es) :
  Dr 120 [.sv a 4 es c,.dg 9 d,.j n] ((e.raw g n).getD tZero):=by
 cases e with
 | mk k nm ot m ty re l=>
 dsimp only at Y;obtain⟨t0,t1,r0,r1,a1,ab,c1,rfl,hh,I,J⟩:=Tm.is_mk.1 he;have nd:=yk pre.ok;have ac:=nd.ar;have aa:=Ey (k:=k) (nm:=nm) (by omega);rcases aa with rfl | rfl | rfl | rfl | rfl | rfl | rfl | rfl | rfl | h | h | h | h
 ·exact f1 pre O
 ·intro N Q hQ;have U:Tm.raw (.mk 2 nm ot m ty re l) g n=some tInt:=by simp[Tm.raw]
  rw[U]at hQ;refine zX N a es c _ n Q λ_ _=>⟨_,rfl,?_⟩
  repeat' first|with_reducible intro _|simp only[Y1]|with_reducible refine X ?_ ?_|refine⟨_,_,_,rfl,?_⟩|refine⟨_,rfl,?_⟩|refine X0 ?_|refine L3 _ _ ?_|fail
  all_goals first | (exfalso;omega) | skip
  exact hQ _ _ (by omega) (by assumption) (Own.mono (by assumption) (by omega) (by omega))
 ·intro N Q hQ;have U:Tm.raw (.mk 3 nm ot m ty re l) g n=some tBool:=by simp[Tm.raw]
  rw[U]at hQ;refine zX N a es c _ n Q λ_ _=>⟨_,rfl,?_⟩
  repeat' first|with_reducible intro _|simp only[Y1]|with_reducible refine X ?_ ?_|refine⟨_,_,_,rfl,?_⟩|refine⟨_,rfl,?_⟩|refine X0 ?_|refine EY _ _ ?_|fail
  all_goals first | (exfalso;omega) | skip
  exact hQ _ _ (by omega) (by assumption) (Own.mono (by assumption) (by omega) (by omega))
 ·exact f4 Y hh J I pre O
 ·exact f5 Y hh J I pre O
 ·exact f6 Y hh J I pre O
 ·exact f7 Y hh J I pre O
 ·exact f8 Y hh J I pre O
 ·exact f9 Y hh J I pre O
 all_goals
  intro N Q hQ;have hk:k=10\/k=11\/k=12\/k=13:=by omega
  refine zX N a es c _ n Q λ_ _=>⟨_,rfl,?_⟩
  repeat' first|with_reducible intro _|simp only[Y1]|with_reducible refine X ?_ ?_|refine⟨_,_,_,rfl,?_⟩|refine⟨_,rfl,?_⟩|refine X0 ?_|refine(fS hk Y hh J I pre O) _ _ ?_|fail
  all_goals first | (exfalso;omega) | skip
  exact hQ _ _ (by omega) (by assumption) (Own.mono (by assumption) (by omega) (by omega))
theorem Vg (e:Tm)(g:List Tg)(n:Int):tyZ e g n=if((e.raw g n).getD tZero).valid then(e.raw g n).getD tZero else tZero:=by
 rw[tyZ,Tm.type_eq];cases e.raw g n with
 | none=>rfl
 | some t=>simp only[vld,nB];split<;>rfl
theorem Uh:∀(e:Tm),∀ d,e.Is d->∀ g es a c n,Pre g e n->Ctx g es->Dr 58 [.sv a 4 es c,.dg 9 d,.j n] (tyZ e g n):=by
 refine Tm.ind λk nm ot m ty re l O d hd g es a c n pre I N Q J=>?_;have hs:=OU hd O a c pre I;rw[Vg]at J;have hc:((Tm.raw (.mk k nm ot m ty re l) g n).getD tZero).cnt<=64:=by
  cases h:Tm.raw (.mk k nm ot m ty re l) g n with
  | none=>simp[tZero,Ty.cnt,zS]
  | some t=>simpa using Q3 pre h
 generalize (Tm.raw (.mk k nm ot m ty re l) g n).getD tZero=z at *;refine LZ N a es c _ n Q λ_ _=>?_
 repeat' first|with_reducible intro _|simp only[Y1]|with_reducible refine X ?_ ?_|refine⟨_,_,_,rfl,?_⟩|refine⟨_,rfl,?_⟩|refine X0 ?_|refine hs _ _ ?_|refine(yy z _ (by assumption) (by omega)) _ _ ?_|fail
 all_goals first
  | exact J _ _ (by omega) (by rw[if_pos (by assumption)];assumption) (Own.mono (by assumption) (by omega) (by omega))
  | exact J _ _ (by omega) (by rw[if_neg (by simp[*])];exact xB) ym
def YQ (f:FuncId)(args:List PV)(o:Option Ty):Prop:=∀(N:Nat) (Q:QT [.ag 2,.bool]),(∀ d N',N<=N'->(o.getD tZero).Is d->Own N N' d->Q d o.isSome N')->ACalls prog f [.ag 2,.bool] args N Q
theorem BH {g:List Tg} {es:List D} (I:Ctx g es) (hg:∀ x∈g,x.ty.cnt<=1073741824) {e:Tm} {d:D} (he:e.Is d) (hc:e.cnt<=1048576000 / 2) (a:Option Addr) (c:Nat) (n:Int) :
  YQ 24 [.sv a 4 es c,.dg 9 d,.j n] (tB g e n):=λN Q J=>by
 refine Jb N a es c d n Q λ_ _=>?_;cases U:Gx g with
 | false=>
   rw[tB,if_neg (by simp[U])]at J
   repeat' first|with_reducible intro _|simp only[U,Y1]|with_reducible refine X ?_ ?_|refine⟨_,_,_,rfl,?_⟩|refine⟨_,rfl,?_⟩|refine X0 ?_|refine(qE I hg a c) _ _ ?_|fail
   exact J _ _ (by omega) xB ym
 | true=>
   cases Y:uG e n with
   | false=>
     rw[tB,if_neg (by simp[Y])]at J
     repeat' first|with_reducible intro _|simp only[U,Y,Y1]|with_reducible refine X ?_ ?_|refine⟨_,_,_,rfl,?_⟩|refine⟨_,rfl,?_⟩|refine X0 ?_|refine(qE I hg a c) _ _ ?_|refine(um e d he (by omega) n) _ _ ?_|fail
     exact J _ _ (by omega) xB ym
   | true=>
     rw[tB,if_pos ⟨U,Y⟩]at J;have hz:=sY e g n
     repeat' first|with_reducible intro _|simp only[U,Y,Y1]|with_reducible refine X ?_ ?_|refine⟨_,_,_,rfl,?_⟩|refine⟨_,rfl,?_⟩|refine X0 ?_|refine(qE I hg a c) _ _ ?_|refine(um e d he (by omega) n) _ _ ?_|refine(Uh e d he g es a c n (Wu U Y hc) I) _ _ ?_|fail
     rename_i hd ho _ _;rcases hz with⟨h3,h4⟩ | ⟨h3,h4⟩
     ·rw[h3]at J;rw[h4]at hd;obtain⟨a2,aa,c2,rfl,ab,ac⟩:=Ty.is_mk.1 hd
      repeat' first|with_reducible intro _|simp only[Y1]|with_reducible refine X ?_ ?_|refine⟨_,_,_,rfl,?_⟩|refine⟨_,rfl,?_⟩|refine X0 ?_|fail
      exact J _ _ (by omega) hd (Own.mono (by assumption) (by omega) (by omega))
     ·rw[h3]at J;have O:=Ty.valid_nz h4;generalize tyZ e g n=z at *;cases z with
      | mk k0 l0=>
      have ae:=hd;obtain⟨a2,aa,c2,rfl,ab,ac⟩:=Ty.is_mk.1 hd
      repeat' first|with_reducible intro _|simp only[Y1]|with_reducible refine X ?_ ?_|refine⟨_,_,_,rfl,?_⟩|refine⟨_,rfl,?_⟩|refine X0 ?_|fail
      have O:(bne k0 0)=true:=by simpa [Ty.k]using O
      rw[O];exact J _ _ (by omega) ae (Own.mono (by assumption) (by omega) (by omega))
mutual
def Tm.sz:Tm->Nat
 | .mk _ _ _ _ _ _ l=>1+zO l
def zO:List Tm->Nat
 | []=>0
 | t::ts=>t.sz+zO ts
end
mutual
theorem Tm.sz_cnt:∀ t:Tm,t.sz<=t.cnt
 | .mk _ _ _ _ ty re l=>by simp only[Tm.sz,Tm.cnt];have:=F2 l;omega
theorem F2:∀ l:List Tm,zO l<=xQ l
 | []=>oC _
 | t::ts=>by simp only[zO,xQ];have:=t.sz_cnt;have:=F2 ts;omega
end
def XX (k:Int):Bool:=inB k 1 5||k==8
mutual
def Tm.isB:Tm->Bool
 | .mk k _ _ _ _ _ l=>YO l&&XX k
def YO:List Tm->Bool
 | []=>true
 | t::ts=>t.isB&&YO ts
end
def Tm.vd (t:Tm):Bool:=decide (t.sz<=80)&&decide (t.dp<=20)&&t.ok
theorem BO:∀(t:Tm)(d:D),t.Is d->∀ n:Int,0<=n->n<=1000->AG 85 [.dg 9 d,.j n] (if(t.sz:Int)<=n then n - t.sz else -1):=by
 refine Tm.ind λk nm ot n0 ty re l ih d hd n ah ai N Q hQ=>?_;obtain⟨t0,t1,r0,r1,a,es,c,rfl,hh,Y,aa⟩:=Tm.is_mk.1 hd;refine Jx N _ n Q λ_=>?_;have key:=up aa Y (λi xs=>∀(m:Int) (N':Nat),N<=N' -> -1<=m->m<=1000->(∀ J,N'<=J->Q (if m<0 then -1 else if(zO xs:Int)<=m then m - zO xs else -1) J) ->
  wt Q N m i (.ag [.j k,.t nm,.t ot,.j n0,t0,t1,r0,r1,.sl a 9 es c]) N') ?_ ?_
 ·rw[i64_in _ (by omega)];refine key (n - 1) N (oC _) (by omega) (by omega) λN' U=>Qi (hQ N' U) ?_;simp only[Tm.sz]
  (repeat' split)<;>omega
 ·intro i ab _ m N' U h1 h2 O;refine qd ?_
  repeat' first|with_reducible intro _|simp only[ab,Y1]|with_reducible refine X ?_ ?_|refine⟨_,_,_,rfl,?_⟩|refine⟨_,rfl,?_⟩|refine X0 ?_|fail
  refine Qi (O _ (by assumption)) ?_;simp only[zO]
  (repeat' split)<;>omega
 ·intro i x xs I _ ac m N' U h1 h2 O;have hb:=I.b;refine qd ?_
  repeat' first|with_reducible intro _|simp only[I.lt,I.w,oG,Y1]|with_reducible refine X ?_ ?_|refine⟨_,_,_,rfl,?_⟩|refine⟨_,rfl,?_⟩|refine X0 ?_|refine(ih x I.m _ I.r m (by omega) (by omega)) _ _ ?_|fail
  ·refine ac _ _ (by omega) (by split<;>omega) (by split<;>omega) λJ ae=>Qi (O J (by omega)) ?_;simp only[zO]
   (repeat' split)<;>omega
  ·refine Qi (O _ (by assumption)) ?_;rw[if_pos (by omega)];omega
theorem Gq:∀(t:Tm)(d:D),t.Is d->t.cnt<=1073741824->AG 86 [.dg 9 d] t.dp:=by
 refine Tm.ind λk nm ot n0 ty re l ih d hd hc N Q hQ=>?_;obtain⟨t0,t1,r0,r1,a,es,c,rfl,hh,J,U⟩:=Tm.is_mk.1 hd;refine HH N _ Q λ_=>?_;simp only[Tm.cnt]at hc;have ab:=Bt l;have key:=up U J (λi xs=>∀(m:Nat) (N':Nat),N<=N'->max m (v7 xs)=v7 l->wJ Q N (m:Int) i (.ag [.j k,.t nm,.t ot,.j n0,t0,t1,r0,r1,.sl a 9 es c]) N') ?_ ?_
 ·exact key 0 N (oC _) (by omega)
 ·intro i Y _ m N' O hm;simp only[v7]at hm;refine ra ?_
  repeat' first|with_reducible intro _|simp only[Y,Y1]|with_reducible refine X ?_ ?_|refine⟨_,_,_,rfl,?_⟩|refine⟨_,rfl,?_⟩|refine X0 ?_|fail
  rw[i64_in _ (by omega)];refine Qi (hQ _ (oR O (by assumption))) ?_;simp only[Tm.dp];omega
 ·intro i x xs I _ aa m N' O hm;have hb:=I.b;have ac:=u9 I.m;simp only[v7]at hm;refine ra ?_
  repeat' first|with_reducible intro _|simp only[I.lt,I.w,oG,Y1]|with_reducible refine X ?_ ?_|refine⟨_,_,_,rfl,?_⟩|refine⟨_,rfl,?_⟩|refine X0 ?_|refine(ih x I.m _ I.r (by omega)) _ _ ?_|refine(DV _ _) _ _ ?_|fail
  have e:max (m:Int) (x.dp:Int)=((max m x.dp:Nat):Int):=by omega
  rw[e];exact aa _ _ (by omega) (by omega)
theorem tU (t:Tm)(d:D)(hd:t.Is d)(hc:t.cnt<=1073741824):vU 40 [.dg 9 d] t.vd:=λN Q I=>by
 refine CE N _ Q λ_=>?_;by_cases O:t.sz<=80
 ·have J:((t.sz:Int)<=80):=by omega
  repeat' first|with_reducible intro _|simp only[if_pos J,Y1]|with_reducible refine X ?_ ?_|refine⟨_,_,_,rfl,?_⟩|refine⟨_,rfl,?_⟩|refine X0 ?_|refine(BO t d hd _ (by omega) (by omega)) _ _ ?_|refine(Gq t d hd hc) _ _ ?_|refine(BK t d hd hc) _ _ ?_|fail
  all_goals first | omega | skip
  ·have U:t.dp<=20:=by omega
   refine Qb (I _ (by omega)) ?_;simp[Tm.vd, *]
  ·have U:¬t.dp<=20:=by omega
   refine Qb (I _ (by omega)) ?_;simp[Tm.vd, *]
 ·have J:¬((t.sz:Int)<=80):=by omega
  repeat' first|with_reducible intro _|simp only[if_neg J,Y1]|with_reducible refine X ?_ ?_|refine⟨_,_,_,rfl,?_⟩|refine⟨_,rfl,?_⟩|refine X0 ?_|refine(BO t d hd _ (by omega) (by omega)) _ _ ?_|fail
  all_goals first | omega | skip
  refine Qb (I _ (by omega)) ?_;simp[Tm.vd, *]
theorem xb (l:List ByteArray)(hl:l.length<=4611686018427387904)(a:Option Addr)(c:Nat)(s:ByteArray):AG 210 [.sv a 0 (zA l) c,.str s] (BY (λx=>decide (x=s)) l 0):=λN Q hQ=>by
 have U:=xZ l;have Y:(zA l).length<=4611686018427387904:=by rw[U.len];exact hl
 refine HI N a _ c s Q λ_=>?_;refine up U Y (λi xs=>∀(N':Nat),N<=N'->(∀ O,N'<=O->Q (BY (λx=>decide (x=s)) xs i) O)->wK Q N a (zA l) c s i N') ?_ ?_ N (oC _) hQ
 ·intro i ab _ N' aa I;refine rc ?_
  repeat' first|with_reducible intro _|simp only[ab,Y1]|with_reducible refine X ?_ ?_|refine⟨_,_,_,rfl,?_⟩|refine⟨_,rfl,?_⟩|refine X0 ?_|fail
  exact I _ (by omega)
 ·intro i x xs J _ ac N' aa I;have hb:=J.b;have hr:=J.r;simp only[BY]at I;refine rc ?_
  repeat' first|with_reducible intro _|simp only[J.lt,J.w,oG,hr,Y1]|with_reducible refine X ?_ ?_|refine⟨_,_,_,rfl,?_⟩|refine⟨_,rfl,?_⟩|refine X0 ?_|fail
  ·rename_i h _ _;subst h;exact Qi (I _ (by omega)) (by simp)
  ·rename_i h;exact ac _ aa λO h2=>Qi (I _ h2) (by rw[if_neg (by simpa using h)];simp)
theorem vf (l:List ByteArray)(s:ByteArray):zA l++[.t s]=zA (l++[s]):=by simp[zA]
theorem zH (l:List ByteArray):(zA l).length=l.length:=by simp[zA]
theorem Ih:∀(t:Tm)(d:D),t.Is d->t.cnt<=1073741824->AG 121 [.dg 9 d] t.sz:=by
 refine Tm.ind λk nm ot n0 ty re l ih d hd hc N Q hQ=>?_;obtain⟨t0,t1,r0,r1,a,es,c,rfl,hh,J,O⟩:=Tm.is_mk.1 hd;simp only[Tm.cnt]at hc;have ab:=F2 l;refine B8 N _ Q λ_=>⟨_,_,_,rfl,?_⟩
 refine up O J (λi xs=>∀(m:Nat) (N':Nat),N<=N'->m+zO xs=1+zO l->xf Q N m a es c es.length i N') ?_ ?_ 1 N (oC _) rfl
 ·intro i U _ m N' Y hm;refine w6 ?_;simp only[zO]at hm
  repeat' first|with_reducible intro _|simp only[U,Y1]|with_reducible refine X ?_ ?_|refine⟨_,_,_,rfl,?_⟩|refine⟨_,rfl,?_⟩|refine X0 ?_|fail
  exact Qi (hQ _ (by omega)) (by simp only[Tm.sz];omega)
 ·intro i x xs I _ aa m N' Y hm;have hb:=I.b;have ac:=u9 I.m;simp only[zO]at hm;refine w6 ?_
  repeat' first|with_reducible intro _|simp only[I.lt,I.w,oG,Y1]|with_reducible refine X ?_ ?_|refine⟨_,_,_,rfl,?_⟩|refine⟨_,rfl,?_⟩|refine X0 ?_|refine(ih x I.m _ I.r (by omega)) _ _ ?_|fail
  rw[i64_in _ (by omega)];exact aa (m+x.sz) _ (by omega) (by omega)
theorem Gj:∀(t:Tm)(d:D),t.Is d->t.cnt<=1073741824->AG 122 [.dg 9 d] t.dp:=by
 refine Tm.ind λk nm ot n0 ty re l ih d hd hc N Q hQ=>?_;obtain⟨t0,t1,r0,r1,a,es,c,rfl,hh,J,O⟩:=Tm.is_mk.1 hd;simp only[Tm.cnt]at hc;have ab:=Bt l;refine G7 N _ Q λ_=>⟨_,_,_,rfl,?_⟩
 refine up O J (λi xs=>∀(m:Nat) (N':Nat),N<=N'->max m (v7 xs)=v7 l->wG Q N m a es c es.length i N') ?_ ?_ 0 N (oC _) (by omega)
 ·intro i U _ m N' Y hm;refine rR ?_;simp only[v7]at hm
  repeat' first|with_reducible intro _|simp only[U,Y1]|with_reducible refine X ?_ ?_|refine⟨_,_,_,rfl,?_⟩|refine⟨_,rfl,?_⟩|refine X0 ?_|fail
  rw[i64_in _ (by omega)];exact Qi (hQ _ (by omega)) (by simp only[Tm.dp];omega)
 ·intro i x xs I _ aa m N' Y hm;have hb:=I.b;have ac:=u9 I.m;simp only[v7]at hm;refine rR ?_
  repeat' first|with_reducible intro _|simp only[I.lt,I.w,oG,Y1]|with_reducible refine X ?_ ?_|refine⟨_,_,_,rfl,?_⟩|refine⟨_,rfl,?_⟩|refine X0 ?_|refine(ih x I.m _ I.r (by omega)) _ _ ?_|fail
  have e:(if(x.dp:Int)>(m:Int)then(x.dp:Int)else(m:Int))=((max m x.dp:Nat):Int):=by split<;>omega
  rw[e];exact aa (max m x.dp) _ (by omega) (by omega)
theorem tR (t:Tm)(d:D)(hd:t.Is d)(hc:t.cnt<=1073741824):vU 59 [.dg 9 d] t.vd:=λN Q I=>by
 refine B5 N _ Q λ_=>?_
 repeat' first|with_reducible intro _|simp only[Y1]|with_reducible refine X ?_ ?_|refine⟨_,_,_,rfl,?_⟩|refine⟨_,rfl,?_⟩|refine X0 ?_|refine(BG t d hd hc) _ _ ?_|refine(Ih t d hd hc) _ _ ?_|refine(Gj t d hd hc) _ _ ?_|fail
 ·have J:t.sz<=80:=by omega
  refine Qb (I _ (by omega)) ?_;have:decide ((t.dp:Int)<=20)=decide (t.dp<=20):=by rw[mA,nh,nh];omega
  simp[Tm.vd, *]
 ·have J:¬t.sz<=80:=by omega
  refine Qb (I _ (by omega)) ?_;simp[Tm.vd, *]
 ·refine Qb (I _ (by omega)) ?_;simp[Tm.vd, *]
inductive Wf:Ty->Prop
 | int:Wf tInt
 | bool:Wf tBool
 | fn {a b:Ty}:Wf a->Wf b->Wf (wa a b)
 | code {a:Ty}:Wf a->Wf (vI a)
theorem Dc {N N1 N2:Nat}{es fs:List D}(I:OwnL N1 N2 es)(J:OwnL N N1 fs)(hN:N<=N1)(O:N1<=N2):OwnL N N2 (es++fs):=by
 refine⟨?_,yz I.fl J.fl,λb hb=>?_,λb hb=>?_⟩
 ·rw[zG,nS];refine⟨I.nd,J.nd,λa U b hb Y=>?_⟩
  have:=I.lo a U;have:=J.hi b hb;omega
 ·rw[zG]at hb;rcases oM.1 hb with hb | hb
  ·have:=I.lo b hb;omega
  ·exact J.lo b hb
 ·rw[zG]at hb;rcases oM.1 hb with hb | hb
  ·exact I.hi b hb
  ·have:=J.hi b hb;omega
theorem NV {a:Option Addr}{z c:Nat}{es:List D}(h:(zC es).Nodup)(I:∀ ad,a=some ad->ad.block∉zC es):(D.sl a z es c).foot.Nodup:=by
 cases a with
 | none=>simpa only[D.foot]using h
 | some ad=>
   simp only[D.foot];split
   ·exact mO
   ·exact nw.2 ⟨I ad rfl,h⟩
theorem Nc {N0 N1 N2 N3:Nat} {hd r xs es:List D} {l0 l1 l2 l3:Value} {a:Option Addr} {c:Nat} {ds:List D} (h1:OwnL N0 N1 (hd++r)) (J:OwnL N1 N2 (xs++es)) (hf:Fresh N0 N3 a ds) (g1:N0<=N1) (g2:N1<=N2) (g3:N2<=N3)
  (d1:∀ ad,a=some ad->ad.block∉zC (hd++r)) (d2:∀ ad,a=some ad->ad.block∉zC (xs++es)):OwnL N0 N3 (hd++(r++[.ag (.lit l0::.lit l1::.lit l2::.lit l3::(xs++[.sl a 9 es c]))])):=by
 have ah:=h1.nd;have I:=J.nd;rw[zG]at ah I;have e:zC (hd++(r++[.ag (.lit l0::.lit l1::.lit l2::.lit l3::(xs++[.sl a 9 es c]))]))=zC (hd++r)++(zC xs++(D.sl a 9 es c).foot):=by simp only[zG,zC,D.foot,oa,o7,oP]
 have aa:=h1.fl;have ab:=J.fl;have O:∀ b,b∈(D.sl a 9 es c).foot->b∈zC (xs++es)\/∃ ad,a=some ad/\b=ad.block:=λb U=>by
  rcases vY b U with h | h
  ·left;rw[zG];exact nO _ h
  ·exact .inr h
 refine⟨?_,?_,λb U=>?_,λb U=>?_⟩
 ·rw[e,nS];refine⟨h1.nd,?_,λx hx y hy Y=>?_⟩
  ·rw[nS]at I ⊢;refine⟨I.1,NV I.2.1 λad h hc=>d2 ad h (by rw[zG];exact nO _ hc),λx hx y hy Y=>?_⟩;subst Y;rcases vY x hy with h | ⟨ad,h9,h'⟩
   ·exact I.2.2 x hx x h rfl
   ·subst h';exact d2 ad h9 (by rw[zG];exact oq _ hx)
  ·subst Y;have aj:=h1.hi x hx;rcases oM.1 hy with h | h
   ·have:=J.lo x (by rw[zG];exact oq _ h);omega
   ·rcases O x h with h | ⟨ad,h9,h'⟩
    ·have:=J.lo x h;omega
    ·subst h';exact d1 ad h9 hx
 ·have ac:xr xs/\xr es:=by
   have:∀(u v:List D),xr (u++v)->xr u/\xr v:=by
    intro u
    induction u with
    | nil=>intro v h;exact⟨trivial,h⟩
    | cons y u ih=>intro v h;obtain⟨g1,g2⟩:=ih v h.2;exact⟨⟨h.1,g1⟩,g2⟩
   exact this _ _ ab
  have ae:xr hd/\xr r:=by
   have:∀(u v:List D),xr (u++v)->xr u/\xr v:=by
    intro u
    induction u with
    | nil=>intro v h;exact⟨trivial,h⟩
    | cons y u ih=>intro v h;obtain⟨g1,g2⟩:=ih v h.2;exact⟨⟨h.1,g1⟩,g2⟩
   exact this _ _ aa
  refine yz ae.1 (yz ae.2 ⟨?_,trivial⟩);have ai:D.Flat0 (.sl a 9 es c):=⟨λad h=>hf.off ad h,ac.2⟩
  exact⟨trivial,trivial,trivial,trivial,yz ac.1 ⟨ai,trivial⟩⟩
 ·rw[e]at U;rcases oM.1 U with h | h
  ·exact h1.lo b h
  ·rcases oM.1 h with h | h
   ·have:=J.lo b (by rw[zG];exact oq _ h);omega
   ·rcases O b h with h | ⟨ad,h9,h'⟩
    ·have:=J.lo b h;omega
    ·subst h';exact hf.lo ad h9
 ·rw[e]at U;rcases oM.1 U with h | h
  ·have:=h1.hi b h;omega
  ·rcases oM.1 h with h | h
   ·have:=J.hi b (by rw[zG];exact oq _ h);omega
   ·rcases O b h with h | ⟨ad,h9,h'⟩
    ·have:=J.hi b h;omega
    ·subst h';exact hf.hi ad h9
theorem SD:∀(t:Tm) (d:D),t.Is d->t.cnt<=1073741824->∀(N:Nat) (Q:QT [.pk,.i,.str,.str,.i,.dc,.dc,.dc,.dc,.row 35 9]),
  (match t with | .mk k nm ot n ty re l=>∀ x4 x5 x6 x7 Y c' N',N<=N'->Tm.Hd nm ot ty re x4 x5 x6 x7->All2 Tm.Is l Y->OwnL N N' ([x4,x5,x6,x7]++Y)->Q k nm ot n x4 x5 x6 x7 Y c' N') ->
  ACalls prog 45 [.pk,.i,.str,.str,.i,.dc,.dc,.dc,.dc,.row 35 9] [.dg 9 d] N Q:=by
 refine Tm.ind λk nm ot n0 ty re l ih d hd hc N Q hQ=>?_;obtain⟨t0,t1,r0,r1,a,es,c,rfl,hh,ab,ac⟩:=Tm.is_mk.1 hd;have hl:=ac.len;simp only[Tm.cnt]at hc;have a7:=u7 l;simp only at hQ;refine CI N _ Q λ_=>?_
 repeat' first|with_reducible intro _|simp only[Y1]|with_reducible refine X ?_ ?_|refine⟨_,_,_,rfl,?_⟩|refine⟨_,rfl,?_⟩|refine X0 ?_|refine(ze _ _ hh.ty (by omega)) _ _ ?_|refine(ze _ _ hh.re (by omega)) _ _ ?_|fail
 rename_i N1 ah O N2 a8 hx ai _ _ N3 aj y N4 ba hy ak _ _;have al:Tm.Hd nm ot ty re (O.cell 0) (O.cell 1) (y.cell 0) (y.cell 1):=⟨hh.nm,hh.ot,Ty.is_cells hx,Ty.is_cells hy⟩
 have ao:OwnL N N4 ([O.cell 0,O.cell 1,y.cell 0,y.cell 1]++[]):=by have h:=zh ((sS hx ai).mono ah (oC _)) ((sS hy ak).mono aj (oC _)) (by omega) (by omega);exact h
 refine up ac ab (λi xs=>∀(done:List D) (q N':Nat),N4<=N'->All2 Tm.Is (l.take i) done->done.length=i->OwnL N N' ([O.cell 0,O.cell 1,y.cell 0,y.cell 1]++done) ->
  xg Q N i (.ag [.j k,.t nm,.t ot,.j n0,t0,t1,r0,r1,.sl a 9 es c]) 0 (bytes []) (bytes []) 0 0 none [] 0 0 none [] 0 none [] 0 k nm ot n0 (O.cell 0) (O.cell 1) (y.cell 0) (y.cell 1) done.length q done q N') ?_ ?_ [] 0 N4 (oC _) rfl rfl ao
 ·intro i aq hi done q N' au hd ae ho;refine w9 ⟨_,_,_,rfl,?_⟩;rw[om (by omega)]at hd;rw[aq];exact⟨⟨rfl,rfl⟩,λN5 aa=>hQ _ _ _ _ _ _ _ (by omega) al hd (ho.mono (oC _) aa)⟩
 ·intro i x xs I _ aw done q N' au hd ae ho;have hb:=I.b;have ax:=u9 I.m;refine w9 ⟨_,_,_,rfl,?_⟩;rw[I.lt];refine⟨_,_,_,rfl,⟨by omega,by omega⟩,λN5 aa=>?_⟩;rw[oG,I.w];refine ih x I.m _ I.r (by omega) _ _ ?_;cases x with
  | mk k2 bb bc n2 bd bg l2=>
    intro x4 x5 x6 x7 bh c2 N6 bi ay U az _ _;have bj:=U.len;have a6:=u7 l2;simp only[Tm.cnt]at ax;refine⟨⟨rfl,rfl⟩,λa2 N7 bm hf=>⟨⟨rfl,rfl⟩,by unfold zB;rw[oH];simp only[oJ,oN];omega,λc3=>?_⟩⟩;refine aw _ _ _ (by omega) (by rw[vJ I.g];exact hd.snoc (Tm.is_mk.2 ⟨_,_,_,_,_,_,_,rfl,ay,by omega,U⟩)) (by simp[ae]) ?_;refine Nc (hd:=[O.cell 0,O.cell 1,y.cell 0,y.cell 1]) (xs:=[x4,x5,x6,x7]) (ho.mono (oC _) aa) az hf (by omega) (by omega) (by omega) ?_ ?_
    ·intro ad h hc;have J:=hf.ap ad h;simp only[oL,mY,D.foot,mn,false_imp_iff,implies_true,and_true]at J;simp only[o3,oa,zC,oM]at hc;obtain⟨_,_,_,_,_,g1,g2,g3,g4,g5⟩:=J;rcases hc with hc | hc | hc | hc | hc
     ·exact g1 hc
     ·exact g2 hc
     ·exact g3 hc
     ·exact g4 hc
     ·exact g5 hc
    ·intro ad h hc;have J:=hf.ap ad h;simp only[oL,mY,D.foot,mn,false_imp_iff,implies_true,and_true]at J;simp only[o3,oa,zC,oM]at hc;obtain⟨g5,g1,g2,g3,g4,_⟩:=J;rcases hc with hc | hc | hc | hc | hc
     ·exact g1 hc
     ·exact g2 hc
     ·exact g3 hc
     ·exact g4 hc
     ·exact g5 hc
theorem Qr {N N':Nat}{es:List D}(h:OwnL N N' es):OwnL N N' (.sl none 2 [] 0::es):=
 ⟨by simpa only[zC,D.foot,oa]using h.nd,⟨⟨by simp,trivial⟩,h.fl⟩,by simpa only[zC,D.foot,oa]using h.lo,by simpa only[zC,D.foot,oa]using h.hi⟩
theorem SF (k:Int) {l:List Tm} {es:List D} (Y:All2 Tm.Is l es) (ao:es.length<=1073741824) (hc:∀ x∈l,x.cnt<=1073741824) (a:Option Addr) (c:Nat) (N:Nat) (Q:QT [.ag 9])
  (hQ:∀ d' N',N<=N'->(Tm.mk k (bytes []) (bytes []) 0 (.mk 0 []) (.mk 0 []) l).Is d'->Own N N' d'->Q d' N') :
  ACalls prog 141 [.ag 9] [.j k,.sv a 9 es c] N Q:=by
 have hl:=Y.len;refine Jy N _ a es c Q λ_=>?_;refine up Y (by omega) (λi xs=>∀(done:List D) (q N':Nat),N<=N'->All2 Tm.Is (l.take i) done->done.length=i->OwnL N N' done ->
  wu Q N a es c i 0 (bytes []) (bytes []) 0 0 none [] 0 0 none [] 0 none [] 0 k (bytes []) (bytes []) 0 0 none [] 0 0 none [] 0 done.length q done q N') ?_ ?_ [] 0 N (oC _) rfl rfl Ee
 ·intro i ab hi done q N' ac hd aa ho;refine qe ?_;rw[om (by omega)]at hd;rw[ab];refine⟨⟨rfl,rfl⟩,⟨rfl,rfl⟩,⟨rfl,rfl⟩,λa1 N4 ae hf N5 U=>hQ _ _ (by omega) (Tm.is_mk.2 ⟨_,_,_,_,_,_,_,rfl,⟨by decide,by decide,vQ _,vQ _⟩,by omega,hd⟩) ?_⟩;exact AP (zU (zU (zU (zU (zU (Qr (zU (Qr (zf ((qm ho hf ae).mono (oC _) U))))))))))
 ·intro i x xs J _ ah done q N' ac hd aa ho;have hb:=J.b;have ai:=hc x J.m;refine qe ?_;rw[J.lt];refine⟨⟨by omega,by omega⟩,λN5 U=>?_⟩;rw[oG,J.w];refine SD x _ J.r (by omega) _ _ ?_;cases x with
  | mk k2 au aw n2 ax ay l2=>
    intro x4 x5 x6 x7 aj c2 N6 az ak O al _ _;have a6:=O.len;have aq:=u7 l2;simp only[Tm.cnt]at ai;refine⟨⟨rfl,rfl⟩,λa2 N7 a7 hf=>⟨⟨rfl,rfl⟩,by unfold zB;rw[oH];simp only[oJ,oN];omega,λc3=>?_⟩⟩;refine ah _ _ _ (by omega) (by rw[vJ J.g];exact hd.snoc (Tm.is_mk.2 ⟨_,_,_,_,_,_,_,rfl,ak,by omega,O⟩)) (by simp[aa]) ?_;refine Nc (hd:=[]) (xs:=[x4,x5,x6,x7]) (ho.mono (oC _) U) al hf (by omega) (by omega) (by omega) ?_ ?_
    ·intro ad h hc;have I:=hf.ap ad h (.ag done) (by simp);exact I (by simpa only[D.foot,oa]using hc)
    ·intro ad h hc;have I:=hf.ap ad h;simp only[o3,oa,zC,oM]at hc;rcases hc with hc | hc | hc | hc | hc
     ·exact I x4 (by simp) hc
     ·exact I x5 (by simp) hc
     ·exact I x6 (by simp) hc
     ·exact I x7 (by simp) hc
     ·exact I (.ag aj) (by simp) (by simpa only[D.foot]using hc)
def Tm.nod (k:Int)(l:List Tm):Tm:=.mk k (bytes []) (bytes []) 0 (.mk 0 []) (.mk 0 []) l
theorem My {t:Tm}{d:D}(h:t.Is d):All2 Tm.Is [t] [d]:=⟨d,[],rfl,h,rfl⟩
end Go.Proofs.YtlaniepnglheoaaGreatDoor
