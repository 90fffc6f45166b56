/- Parameters: what they are; the laws' sizes, copies, equality and marks on them. -/
import Derived.Test.YtldbmnklnpfpfaaGreatDoorA1
import Derived.Test.YtldbmnklnpfpfaaGreatDoorKa
import Derived.Lib.ItoaNum
import Derived.Shelf.Strconv.Itoa3
set_option linter.unusedVariables false
set_option linter.unusedSimpArgs false
namespace Go.Proofs.YtldbmnklnpfpfaaGreatDoor
open Go Go.Proofs Go.Proofs.Tryz Go.IntWalk
structure Pm where
 nm:ByteArray
 ty:Ty
 dy:Bool
def Pm.Is (g:Pm)(d:D):Prop:=∃ t0 t1,d=.ag [.t g.nm,t0,t1,.lit (.bool g.dy)]/\g.nm.size<=4611686018427387904/\g.ty.Is (.ag [t0,t1])
theorem yZ (n a b:Int):tF 25 [.j n,.j a,.j b] (inB n a b):=λN Q I=>by
 refine C2 N n a b Q ?_
 repeat' first|with_reducible intro _|simp only[Y1,Y2,Y3,Y4]|with_reducible refine X ?_ ?_|refine⟨_,_,_,rfl,?_⟩|refine⟨_,rfl,?_⟩|refine X0 ?_|fail
 all_goals simpa [inB, *]using I _ (by omega)
def GU {α:Type}(p:α->Bool):List α->Int->Int
 | [],_ => -1
 | x::xs,i=>if p x then i else GU p xs (i+1)
theorem pG {α:Type}(p:α->Bool):∀(l:List α)(i:Int),0<=i->decide (GU p l i≥0)=l.any p
 | [],i,h=>by simp[GU]
 | x::xs,i,h=>by
   have I:=pG p xs (i+1) (by omega);rw[ml,mm]at I ⊢;simp only[GU,List.any_cons,mC];by_cases J:p x=true
   ·simp only[J,nu,true_or,iff_true];exact h
   ·simpa [J]using I
def zR (l:List ByteArray):List D:=l.map λs=>.t s
theorem A1:∀ l:List ByteArray,All2 (λs d=>d=.t s) l (zR l)
 | []=>rfl
 | s::l=>⟨_,_,rfl,rfl,A1 l⟩
theorem EY (l:List ByteArray)(hl:l.length<=4611686018427387904)(a:Option Addr)(c:Nat)(s:ByteArray):A5 177 [.sv a 0 (zR l) c,.str s] (GU (λx=>decide (s=x)) l 0):=λN Q hQ=>by
 have U:=A1 l;have V:(zR l).length<=4611686018427387904:=by rw[U.len];exact hl
 refine tm N a _ c s Q λ_=>?_;refine up U V (λi xs=>∀(N':Nat),N<=N'->(∀ O,N'<=O->Q (GU (λx=>decide (s=x)) xs i) O)->zr Q N a (zR l) c s ((zR l).length:Int) i N') ?_ ?_ N (oG _) hQ
 ·intro i Z _ N' Y I;refine xo ?_
  repeat' first|with_reducible intro _|simp only[Z,Y1,Y2,Y3,Y4]|with_reducible refine X ?_ ?_|refine⟨_,_,_,rfl,?_⟩|refine⟨_,rfl,?_⟩|refine X0 ?_|fail
  exact I _ (by omega)
 ·intro i x xs J _ aa N' Y I;have hb:=J.b;have hr:=J.r;simp only[GU]at I;refine xo ?_
  repeat' first|with_reducible intro _|simp only[J.lt,J.w,oX,hr,Y1,Y2,Y3,Y4]|with_reducible refine X ?_ ?_|refine⟨_,_,_,rfl,?_⟩|refine⟨_,rfl,?_⟩|refine X0 ?_|fail
  ·rename_i h _ _;subst h;exact Qi (I _ (by omega)) (by simp)
  ·rename_i h;exact aa _ Y λO h2=>Qi (I _ h2) (by rw[if_neg (by simpa using h)];simp)
theorem A6 (l:List ByteArray)(I:l.length<=4611686018427387904)(a:Option Addr)(c:Nat)(s:ByteArray):tF 171 [.sv a 0 (zR l) c,.str s] (l.any λx=>decide (s=x)):=λN Q J=>by
 refine v8 N a _ c s Q λ_=>?_
 repeat' first|with_reducible intro _|simp only[Y1,Y2,Y3,Y4]|with_reducible refine X ?_ ?_|refine⟨_,_,_,rfl,?_⟩|refine⟨_,rfl,?_⟩|refine X0 ?_|refine(EY l I a c s) _ _ ?_|fail
 exact Qb (J _ (by omega)) (pG _ l 0 (by omega)).symm
theorem sJ (s:ByteArray)(hs:s.size<=4611686018427387904):tF 158 [.str s] (xc s):=λN Q Y=>by
 refine Cw N s Q ?_;have key:=upN hs (λi=>∀ N',N<=N'->(∀ J,N'<=J->Q (wC s i&&qX s) J)->yD Q N s (s.size:Int) i N') ?_ ?_
 ·exact key N (oG _) Y
 ·intro O N' U I;have hc:=A6 [bytes [105,102],bytes [108,101,116],bytes [108,105,102,116],bytes [114,101,99],bytes [114,117,110]] (by simp);simp only[zR,List.map]at hc;refine uL ?_
  repeat' first|with_reducible intro _|simp only[O,Y1,Y2,Y3,Y4]|with_reducible refine X ?_ ?_|refine⟨_,_,_,rfl,?_⟩|refine⟨_,rfl,?_⟩|refine X0 ?_|refine(yZ _ _ _) _ _ ?_|refine(hc _ _ _) _ _ ?_|fail
  all_goals(refine Qb (I _ (by omega)) ?_;rw[qT])
  ·simp only[qX,List.any_cons,List.any_nil,Bool.or_false, *];cases decide (s=bytes [105,102])<;>cases decide (s=bytes [108,101,116])<;>cases decide (s=bytes [108,105,102,116])<;>cases decide (s=bytes [114,101,99])<;>cases decide (s=bytes [114,117,110])<;>rfl
  ·simp[qX, *]
 ·intro i hi O Z V N' U I;refine uL ?_;rw[si hi]at I
  repeat' first|with_reducible intro _|simp only[O,Z,oX,Y1,Y2,Y3,Y4]|with_reducible refine X ?_ ?_|refine⟨_,_,_,rfl,?_⟩|refine⟨_,rfl,?_⟩|refine X0 ?_|fail
  all_goals first
   | (refine Qb (I _ (by omega)) ?_;unfold sS tS;simp only[*];simp;done)
   | (refine V _ (by omega) λJ h=>Qb (I J (by omega)) ?_;unfold sS tS;simp only[*];simp;done)
theorem ra:∀(t:Ty)(d:D),t.Is d->t.cnt<=1073741824->A5 136 [.dg 2 d] t.cnt:=by
 refine Ty.ind λk l ih d hd hc N Q hQ=>?_;obtain⟨a,es,c,rfl,J,O⟩:=Ty.is_mk.1 hd;simp only[Ty.cnt]at hc;refine qM N _ Q λ_=>⟨_,_,_,rfl,?_⟩
 refine up O J (λi xs=>∀(m:Nat) (N':Nat),N<=N'->m+zG xs=1+zG l->yI Q N m a es c es.length i N') ?_ ?_ 1 N (oG _) rfl
 ·intro i U _ m N' V Y;refine wN ?_;simp only[zG]at Y
  repeat' first|with_reducible intro _|simp only[U,Y1,Y2,Y3,Y4]|with_reducible refine X ?_ ?_|refine⟨_,_,_,rfl,?_⟩|refine⟨_,rfl,?_⟩|refine X0 ?_|fail
  exact Qi (hQ _ (by omega)) (by simp only[Ty.cnt];omega)
 ·intro i x xs I _ Z m N' V Y;have hb:=I.b;have aa:=wS I.m;simp only[zG]at Y;refine wN ?_
  repeat' first|with_reducible intro _|simp only[I.lt,I.w,oX,Y1,Y2,Y3,Y4]|with_reducible refine X ?_ ?_|refine⟨_,_,_,rfl,?_⟩|refine⟨_,rfl,?_⟩|refine X0 ?_|refine(ih x I.m _ I.r (by omega)) _ _ ?_|fail
  rw[i64_in _ (by omega)];exact Z (m+x.cnt) _ (by omega) (by omega)
theorem sI:∀(t:Ty)(d:D),t.Is d->t.cnt<=1073741824->A5 137 [.dg 2 d] t.dep:=by
 refine Ty.ind λk l ih d hd hc N Q hQ=>?_;obtain⟨a,es,c,rfl,J,O⟩:=Ty.is_mk.1 hd;simp only[Ty.cnt]at hc;have aa:=tB l;refine s9 N _ Q λ_=>⟨_,_,_,rfl,?_⟩
 refine up O J (λi xs=>∀(m:Nat) (N':Nat),N<=N'->max m (wq xs)=wq l->z8 Q N m a es c es.length i N') ?_ ?_ 0 N (oG _) (by omega)
 ·intro i U _ m N' V Y;refine x5 ?_;simp only[wq]at Y
  repeat' first|with_reducible intro _|simp only[U,Y1,Y2,Y3,Y4]|with_reducible refine X ?_ ?_|refine⟨_,_,_,rfl,?_⟩|refine⟨_,rfl,?_⟩|refine X0 ?_|fail
  rw[i64_in _ (by omega)];exact Qi (hQ _ (by omega)) (by simp only[Ty.dep];omega)
 ·intro i x xs I _ Z m N' V Y;have hb:=I.b;have ab:=wS I.m;simp only[wq]at Y;refine x5 ?_
  repeat' first|with_reducible intro _|simp only[I.lt,I.w,oX,Y1,Y2,Y3,Y4]|with_reducible refine X ?_ ?_|refine⟨_,_,_,rfl,?_⟩|refine⟨_,rfl,?_⟩|refine X0 ?_|refine(ih x I.m _ I.r (by omega)) _ _ ?_|fail
  have e:(if(x.dep:Int)>(m:Int)then(x.dep:Int)else(m:Int))=((max m x.dep:Nat):Int):=by split<;>omega
  rw[e];exact Z _ _ (by omega) (by omega)
theorem pi (t:Ty)(d:D)(hd:t.Is d):tF 139 [.dg 2 d] (BG t.k t.as.length):=λN Q J=>by
 cases t with
 | mk k l=>
 obtain⟨a,es,c,rfl,U,O⟩:=Ty.is_mk.1 hd;have V:=O.len;simp only[Ty.k,Ty.as]at J;refine tJ N _ Q λ_=>?_;cases I:inB k 1 4 with
 | false=>
   repeat' first|with_reducible intro _|simp only[I,Y1,Y2,Y3,Y4]|with_reducible refine X ?_ ?_|refine⟨_,_,_,rfl,?_⟩|refine⟨_,rfl,?_⟩|refine X0 ?_|refine(yZ _ _ _) _ _ ?_|fail
   refine Qb (J _ (by omega)) ?_;have:¬(1<=k/\k<=4):=λh=>by rw[xv.2 h]at I;cases I
   unfold BG;rw[if_neg (by omega),if_neg (by omega),if_neg (by omega)]
 | true=>
   have hb:=xv.1 I;have w0:IntKind.i64.wrap 0=0:=rfl;have Y:IntKind.i64.wrap 1=1:=rfl;have w2:IntKind.i64.wrap 2=2:=rfl;have w3:IntKind.i64.wrap 3=3:=rfl;have Z:k=1\/k=2\/k=3\/k=4:=by omega
   rcases Z with rfl | rfl | rfl | rfl
   all_goals
    repeat' first|with_reducible intro _|simp only[I,w0,Y,w2,w3,Y1,Y2,Y3,Y4]|with_reducible refine X ?_ ?_|refine⟨_,_,_,rfl,?_⟩|refine⟨_,rfl,?_⟩|refine X0 ?_|refine(yZ _ _ _) _ _ ?_|fail
    refine Qb (J _ (by omega)) ?_;simp[BG,V]
theorem Al:∀ l:List Ty,wy l=!(l.any λx=>!x.form)
 | []=>rfl
 | t::ts=>by simp only[wy,List.any_cons,Al ts];cases t.form<;>simp
theorem ph {p:Ty->Bool} {l:List Ty} {es:List D} (h:All2 Ty.Is l es) (U:es.length<=4611686018427387904) (ad:Addr) (hp:∀ x∈l,∀ d,x.Is d->tF 162 [.dg 2 d,.pd ad 0 (.fn 139 [])] (p x)) (a:Option Addr) (c:Nat) :
  tF 161 [.sv a 2 es c,.fn 162 [.pd ad 0 (.fn 139 [])]] (l.any p):=λN Q V=>by
 have hi:A5 172 [.sv a 2 es c,.fn 162 [.pd ad 0 (.fn 139 [])]] (GU p l 0):=λN Q V=>by
  refine wY N a es c ad Q λ_=>?_;refine up h U (λi xs=>∀(N':Nat),N<=N'->(∀ O,N'<=O->Q (GU p xs i) O)->zf Q N a es c ad es.length i N') ?_ ?_ N (oG _) V
  ·intro i Y _ N' Z I;refine yf ?_
   repeat' first|with_reducible intro _|simp only[Y,Y1,Y2,Y3,Y4]|with_reducible refine X ?_ ?_|refine⟨_,_,_,rfl,?_⟩|refine⟨_,rfl,?_⟩|refine X0 ?_|fail
   exact I _ (by omega)
  ·intro i x xs J _ aa N' Z I;have hb:=J.b;simp only[GU]at I;refine yf ?_
   repeat' first|with_reducible intro _|simp only[J.lt,J.w,oX,Y1,Y2,Y3,Y4]|with_reducible refine X ?_ ?_|refine⟨_,_,_,rfl,?_⟩|refine⟨_,rfl,?_⟩|refine X0 ?_|refine(hp x J.m _ J.r) _ _ ?_|fail
   ·exact Qi (I _ (by omega)) (by rw[if_pos (by assumption)])
   ·rename_i h;exact aa _ (by omega) λO h2=>Qi (I _ (by omega)) (by rw[h];simp)
 refine xz N a es c ad Q λ_=>?_
 repeat' first|with_reducible intro _|simp only[Y1,Y2,Y3,Y4]|with_reducible refine X ?_ ?_|refine⟨_,_,_,rfl,?_⟩|refine⟨_,rfl,?_⟩|refine X0 ?_|refine hi _ _ ?_|fail
 exact Qb (V _ (by omega)) (pG _ l 0 (by omega)).symm
theorem GG:∀(t:Ty)(d:D),t.Is d->tF 138 [.dg 2 d,.fn 139 []] t.form:=by
 refine Ty.ind λk l V d hd N Q I=>?_;have O:=hd;obtain⟨a,es,c,rfl,J,U⟩:=Ty.is_mk.1 hd;refine rG N _ Q λ_=>?_;simp only[Ty.form,Al]at I
 repeat' first|with_reducible intro _|simp only[Y1,Y2,Y3,Y4]|with_reducible refine X ?_ ?_|refine⟨_,_,_,rfl,?_⟩|refine⟨_,rfl,?_⟩|refine X0 ?_|refine(pi _ _ O) _ _ ?_|refine(ph U J _ (λx Y d hd=>λN Q I=>tL N d _ Q λ_ N1 Z=>V x Y d hd N1 _ λN2 aa ab N3 ac=>I N3 (by omega)) _ _) _ _ ?_|fail
 ·have h:BG (Ty.mk k l).k (Ty.mk k l).as.length=true:=by assumption
  exact Qb (I _ (by omega)) (by simp only[Ty.k,Ty.as]at h;rw[h,Bool.and_true])
 ·rename_i h _ _;exact Qb (I _ (by omega)) (by simp only[Ty.k,Ty.as]at h;rw[h,Bool.and_false])
theorem xO (t:Ty)(d:D)(hd:t.Is d)(hc:t.cnt<=1073741824):tF 109 [.dg 2 d] t.valid:=λN Q I=>by
 refine rD N _ Q λ_=>?_
 repeat' first|with_reducible intro _|simp only[Y1,Y2,Y3,Y4]|with_reducible refine X ?_ ?_|refine⟨_,_,_,rfl,?_⟩|refine⟨_,rfl,?_⟩|refine X0 ?_|refine(ra t d hd hc) _ _ ?_|refine(sI t d hd hc) _ _ ?_|refine(GG t d hd) _ _ ?_|fail
 ·refine Qb (I _ (by omega)) ?_;have J:t.cnt<=30:=by omega
  have O:t.dep<=8:=by omega
  simp[Ty.valid, *]
 ·refine Qb (I _ (by omega)) ?_;have O:¬t.dep<=8:=by omega
  simp[Ty.valid, *]
 ·refine Qb (I _ (by omega)) ?_;have J:¬t.cnt<=30:=by omega
  simp[Ty.valid, *]
theorem yr:∀(t u:Ty)(d e:D),t.Is d->u.Is e->tF 135 [.dg 2 d,.dg 2 e] (F4 t u):=by
 refine Ty.ind λk l ih u d e hd he N Q V=>?_;cases u with
 | mk k' l'=>
 obtain⟨a,es,c,rfl,Y,Z⟩:=Ty.is_mk.1 hd;obtain⟨a',es',c',rfl,ab,U⟩:=Ty.is_mk.1 he;have hl:=Z.len;have aj:=U.len;simp only[F4]at V;have hf:tF 160 [.sv a 2 es c,.sv a' 2 es' c',.fn 135 []] (wx l l'):=λN Q V=>by
  have key:l.length=l'.length->∀(N':Nat),N<=N'->(∀ I,N'<=I->Q (wx l (l'.drop 0)) I)->zN Q N a' es' c' a es c es.length (0:Nat) N':=by
   intro ak;refine up Z Y (λi xs=>∀(N':Nat),N<=N'->(∀ I,N'<=I->Q (wx xs (l'.drop i)) I)->zN Q N a' es' c' a es c es.length i N') ?_ ?_
   ·intro i ac hi N' ae J;refine yd ?_
    repeat' first|with_reducible intro _|simp only[ac,Y1,Y2,Y3,Y4]|with_reducible refine X ?_ ?_|refine⟨_,_,_,rfl,?_⟩|refine⟨_,rfl,?_⟩|refine X0 ?_|fail
    refine Qb (J _ (by assumption)) ?_;rw[mo (by omega)];rfl
   ·intro i x xs O _ ah N' ae J;have hb:=O.b;have aa:i<l'.length:=by omega
    have hg:l'[i]?=some l'[i]:=oF aa;have ai:l'.drop i=l'[i]::l'.drop (i+1):=List.drop_eq_getElem_cons aa;refine yd ?_;rw[ai]at J
    repeat' first|with_reducible intro _|simp only[O.lt,O.w,oX,Y1,Y2,Y3,Y4]|with_reducible refine X ?_ ?_|refine⟨_,_,_,rfl,?_⟩|refine⟨_,rfl,?_⟩|refine X0 ?_|refine(ih x O.m _ _ _ O.r (U.get hg)) _ _ ?_|fail
    ·exact Qb (J _ (by omega)) (by simp[wx, *])
    ·exact ah _ (by omega) λI h=>Qb (J I (by omega)) (by simp[wx, *])
  refine wW N _ _ _ _ _ _ Q λ_ _=>?_
  repeat' first|with_reducible intro _|simp only[Y1,Y2,Y3,Y4]|with_reducible refine X ?_ ?_|refine⟨_,_,_,rfl,?_⟩|refine⟨_,rfl,?_⟩|refine X0 ?_|fail
  ·exact Qb (V _ (by assumption)) (Ak (by omega))
  ·exact key (by omega) N (oG _) V
 refine qp N _ _ Q λ_ _=>?_
 repeat' first|with_reducible intro _|simp only[Y1,Y2,Y3,Y4]|with_reducible refine X ?_ ?_|refine⟨_,_,_,rfl,?_⟩|refine⟨_,rfl,?_⟩|refine X0 ?_|refine hf _ _ ?_|fail
 ·exact Qb (V _ (by omega)) (by simp[*])
 ·exact Qb (V _ (by omega)) (by simp[*])
theorem tU (s:ByteArray):A5 103 [.str s] (qC s):=λN Q I=>by
 refine BM N s Q ?_
 repeat' first|with_reducible intro _|simp only[Y1,Y2,Y3,Y4]|with_reducible refine X ?_ ?_|refine⟨_,_,_,rfl,?_⟩|refine⟨_,rfl,?_⟩|refine X0 ?_|fail
 all_goals(refine Qi (I _ (by assumption)) ?_;unfold qC;(repeat' split)<;>first | rfl | contradiction)
def arI (k:Int)(nm:ByteArray):Int:=
 if k=4 then qC nm else if k=5 then 3 else if k=7\/k=8 then 2 else if k=6\/k=9\/k=10\/k=11\/k=12\/k=13 then 1 else 0
theorem qO {k n:Int}{nm ot:ByteArray}{t0 t1 r0 r1 x:D}:A5 74 [.dg 9 (.ag [.j k,.t nm,.t ot,.j n,t0,t1,r0,r1,x])] (arI k nm):=λN Q I=>by
 refine EH N _ Q λ_=>?_
 repeat' first|with_reducible intro _|simp only[Y1,Y2,Y3,Y4]|with_reducible refine X ?_ ?_|refine⟨_,_,_,rfl,?_⟩|refine⟨_,rfl,?_⟩|refine X0 ?_|refine(tU _) _ _ ?_|fail
 all_goals(refine Qi (I _ (by omega)) ?_;simp[arI, *])
theorem pm (n:Int):tF 159 [.j n] (inB n 0 10006):=λN Q I=>by
 refine Av N n Q ?_
 repeat' first|with_reducible intro _|simp only[Y1,Y2,Y3,Y4]|with_reducible refine X ?_ ?_|refine⟨_,_,_,rfl,?_⟩|refine⟨_,rfl,?_⟩|refine X0 ?_|refine(yZ _ _ _) _ _ ?_|fail
 exact I _ (by omega)
def Bq (k:Int)(nm ot:ByteArray)(n:Int)(ty re:Ty):Bool:=
 if k=1\/k=8 then xc nm else if k=2 then inB n 0 10006 else if k=3 then inB n 0 1 else if k=4 then decide (qC nm>0)
 else if k=6 then xc nm&&ty.valid else if k=9 then xc nm&&(xc ot&&(!decide (nm=ot)&&(ty.valid&&re.valid)))else inB k 1 13
theorem BA {k n:Int} {nm ot:ByteArray} {ty re:Ty} {t0 t1 r0 r1 x:D} (h:Tm.Hd nm ot ty re t0 t1 r0 r1) (hc:ty.cnt<=1073741824) (I:re.cnt<=1073741824) :
  tF 134 [.dg 9 (.ag [.j k,.t nm,.t ot,.j n,t0,t1,r0,r1,x])] (Bq k nm ot n ty re):=λN Q J=>by
 refine BN N _ Q λ_=>?_
 repeat' first|with_reducible intro _|simp only[Y1,Y2,Y3,Y4]|with_reducible refine X ?_ ?_|refine⟨_,_,_,rfl,?_⟩|refine⟨_,rfl,?_⟩|refine X0 ?_|refine(tU _) _ _ ?_|refine(sJ _ h.nm) _ _ ?_|refine(sJ _ h.ot) _ _ ?_|refine(pm _) _ _ ?_|refine(yZ _ _ _) _ _ ?_|refine(xO _ _ h.ty hc) _ _ ?_|refine(xO _ _ h.re I) _ _ ?_|fail
 all_goals(refine Qb (J _ (by omega)) ?_;simp[Bq, *])
theorem EF (t:Ty):F4 t t=true:=(Ct t t).2 rfl
def GO (k:Int)(nm ot:ByteArray)(n:Int)(ty re:Ty)(m:Int):Bool:=
 decide (m=arI k nm)&&(Bq k nm ot n ty re&&((decide (k=1\/k=8\/k=4\/k=6\/k=9)||decide (nm=bytes []))&&((decide (k=9)||decide (ot=bytes []))&&((decide (k=2\/k=3)||decide (n=0)) &&
  ((decide (k=6\/k=9)||F4 ty tZero)&&(decide (k=9)||F4 re tZero))))))
theorem A9 {k n:Int} {nm ot:ByteArray} {ty re:Ty} {t0 t1 r0 r1:D} {a:Option Addr} {es:List D} {c:Nat} (h:Tm.Hd nm ot ty re t0 t1 r0 r1) (hc:ty.cnt<=1073741824) (I:re.cnt<=1073741824) :
  tF 107 [.dg 9 (.ag [.j k,.t nm,.t ot,.j n,t0,t1,r0,r1,.sl a 9 es c])] (GO k nm ot n ty re es.length):=λN Q J=>by
 refine Cz N _ Q λ_=>?_
 repeat' first|with_reducible intro _|simp only[Y1,Y2,Y3,Y4]|with_reducible refine X ?_ ?_|refine⟨_,_,_,rfl,?_⟩|refine⟨_,rfl,?_⟩|refine X0 ?_|refine qO _ _ ?_|refine(BA h hc I) _ _ ?_|refine(yr ty tZero _ _ h.ty Ie) _ _ ?_|refine(yr re tZero _ _ h.re Ie) _ _ ?_|refine(yr ty ty _ _ h.ty h.ty) _ _ ?_|refine(yr re re _ _ h.re h.re) _ _ ?_|fail
 all_goals first | (exfalso;omega) | (refine Qb (J _ (by omega)) ?_;simp[GO,EF, *];done) | (refine Qb (J _ (by omega)) ?_;simp_all[GO,EF];done)
theorem Lk (t:Ty):F4 t tZero=t.zero:=by
 cases t with
 | mk k l => cases l<;>simp[F4,tZero,wx,Ty.zero,Ty.k,Ty.as]
             try omega
theorem Gx {t:Ty}(h:t.zero=true):t.valid=false:=by
 cases t with
 | mk k l=>simp only[Ty.zero,Ty.k,Ty.as,oM,mW]at h;simp[Ty.valid,Ty.form,BG,h.1]
theorem ON (n:Int):inB n 0 0=decide (n=0):=by rw[ml,xv,mm];omega
theorem zp (t:Ty)(b:Bool):(!t.valid&&(t.zero&&b))=(t.zero&&b):=by
 cases h:t.zero with
 | false=>simp
 | true=>rw[Gx h];simp
theorem JH (k:Int)(nm ot:ByteArray)(n:Int)(ty re:Ty)(m:Int)(hm:0<=m):GO k nm ot n ty re m=(yC k nm ot n ty re&&m==EQ k nm):=by
 by_cases V:k=1\/k=2\/k=3\/k=4\/k=5\/k=6\/k=7\/k=8\/k=9\/k=10\/k=11\/k=12\/k=13
 ·rw[NO m];have b5:inB 5 1 13=true:=rfl;have Y:inB 7 1 13=true:=rfl;have I:inB 10 1 13=true:=rfl;have J:inB 11 1 13=true:=rfl;have O:inB 12 1 13=true:=rfl;have U:inB 13 1 13=true:=rfl;rcases V with rfl | rfl | rfl | rfl | rfl | rfl | rfl | rfl | rfl | rfl | rfl | rfl | rfl
  all_goals
   simp[GO,arI,Bq,yC,qV,yb,EQ,Lk,ON,zp,b5,Y,I,J,O,U]
   try(rw[ml];simp[and_comm,and_left_comm,and_assoc])
 ·have Z:EQ k nm = -1:=by unfold EQ;rw[if_neg (by omega),if_neg (by omega),if_neg (by omega),if_neg (by omega),if_neg (by omega)]
  have h2:inB k 1 13=false:=by
   cases h:inB k 1 13 with
   | false=>rfl
   | true=>have:=xv.1 h;omega
  have h3:Bq k nm ot n ty re=false:=by unfold Bq;rw[if_neg (by omega),if_neg (by omega),if_neg (by omega),if_neg (by omega),if_neg (by omega),if_neg (by omega),h2]
  have h4:(m==EQ k nm)=false:=by rw[Z,NO];exact nq (by omega)
  rw[h4,GO,h3];simp
theorem Iz {k n:Int} {nm ot:ByteArray} {ty re:Ty} {t0 t1 r0 r1:D} {a:Option Addr} {es:List D} {c:Nat} (h:Tm.Hd nm ot ty re t0 t1 r0 r1) (hc:ty.cnt<=1073741824) (I:re.cnt<=1073741824) :
  tF 107 [.dg 9 (.ag [.j k,.t nm,.t ot,.j n,t0,t1,r0,r1,.sl a 9 es c])] (yC k nm ot n ty re&&(es.length:Int)==EQ k nm):=by
 rw[<-JH _ _ _ _ _ _ _ (by omega)];exact A9 h hc I
theorem EA:∀ l:List Tm,BJ l=!(l.any λx=>!x.ok)
 | []=>rfl
 | t::ts=>by simp only[BJ,List.any_cons,EA ts];cases t.ok<;>simp
theorem pc {p:Tm->Bool} {l:List Tm} {es:List D} (h:All2 Tm.Is l es) (U:es.length<=4611686018427387904) (ad:Addr) (hp:∀ x∈l,∀ d,x.Is d->tF 133 [.dg 9 d,.pd ad 0 (.fn 107 [])] (p x)) (a:Option Addr) (c:Nat) :
  tF 132 [.sv a 9 es c,.fn 133 [.pd ad 0 (.fn 107 [])]] (l.any p):=λN Q V=>by
 have hi:A5 157 [.sv a 9 es c,.fn 133 [.pd ad 0 (.fn 107 [])]] (GU p l 0):=λN Q V=>by
  refine wX N a es c ad Q λ_=>?_;refine up h U (λi xs=>∀(N':Nat),N<=N'->(∀ O,N'<=O->Q (GU p xs i) O)->ze Q N a es c ad es.length i N') ?_ ?_ N (oG _) V
  ·intro i Y _ N' Z I;refine ye ?_
   repeat' first|with_reducible intro _|simp only[Y,Y1,Y2,Y3,Y4]|with_reducible refine X ?_ ?_|refine⟨_,_,_,rfl,?_⟩|refine⟨_,rfl,?_⟩|refine X0 ?_|fail
   exact I _ (by omega)
  ·intro i x xs J _ aa N' Z I;have hb:=J.b;simp only[GU]at I;refine ye ?_
   repeat' first|with_reducible intro _|simp only[J.lt,J.w,oX,Y1,Y2,Y3,Y4]|with_reducible refine X ?_ ?_|refine⟨_,_,_,rfl,?_⟩|refine⟨_,rfl,?_⟩|refine X0 ?_|refine(hp x J.m _ J.r) _ _ ?_|fail
   ·exact Qi (I _ (by omega)) (by rw[if_pos (by assumption)])
   ·rename_i h;exact aa _ (by omega) λO h2=>Qi (I _ (by omega)) (by rw[h];simp)
 refine xy N a es c ad Q λ_=>?_
 repeat' first|with_reducible intro _|simp only[Y1,Y2,Y3,Y4]|with_reducible refine X ?_ ?_|refine⟨_,_,_,rfl,?_⟩|refine⟨_,rfl,?_⟩|refine X0 ?_|refine hi _ _ ?_|fail
 exact Qb (V _ (by omega)) (pG _ l 0 (by omega)).symm
theorem GF:∀(t:Tm)(d:D),t.Is d->t.G->tF 106 [.dg 9 d,.fn 107 []] t.ok:=by
 refine Tm.ind λk nm ot n ty re l V d hd hc N Q I=>?_;obtain⟨t0,t1,r0,r1,a,es,c,rfl,Y,J,O⟩:=Tm.is_mk.1 hd;have Z:=O.len;obtain⟨g1,g2,_,g4⟩:=hc;refine rF N _ Q λ_=>?_;simp only[Tm.ok,EA,<-Z]at I
 repeat' first|with_reducible intro _|simp only[Y1,Y2,Y3,Y4]|with_reducible refine X ?_ ?_|refine⟨_,_,_,rfl,?_⟩|refine⟨_,rfl,?_⟩|refine X0 ?_|refine(Iz Y (by omega) (by omega)) _ _ ?_|refine(pc O J _ (λx U d hd=>λN Q I=>tK N d _ Q λ_ N1 aa=>V x U d hd (Cq g4 U) N1 _ λN2 ab ac N3 ae=>I N3 (by omega)) _ _) _ _ ?_|fail
 ·have h:(yC k nm ot n ty re&&(es.length:Int)==EQ k nm)=true:=by assumption
  exact Qb (I _ (by omega)) (by rw[h,Bool.and_true])
 ·have h:(yC k nm ot n ty re&&(es.length:Int)==EQ k nm)=false:=by assumption
  exact Qb (I _ (by omega)) (by rw[h,Bool.and_false])
theorem A8 (t:Tm)(d:D)(hd:t.Is d)(hc:t.G):tF 78 [.dg 9 d] t.ok:=λN Q I=>by
 refine Cx N _ Q λ_=>?_
 repeat' first|with_reducible intro _|simp only[Y1,Y2,Y3,Y4]|with_reducible refine X ?_ ?_|refine⟨_,_,_,rfl,?_⟩|refine⟨_,rfl,?_⟩|refine X0 ?_|refine(GF t d hd hc) _ _ ?_|fail
 exact I _ (by omega)
theorem CP (t:Tm)(d:D)(hd:t.Is d)(hc:t.cnt<=1073741824):tF 78 [.dg 9 d] t.ok:=A8 t d hd (Tm.G_cnt t hc)
theorem Kq:∀(t:Ty)(d:D),t.Is d->t.cnt<=1073741824->Kj 151 [.dg 2 d] t:=by
 refine Ty.ind λk l ih d hd hc N Q hQ=>?_;obtain⟨a,es,c,rfl,V,Y⟩:=Ty.is_mk.1 hd;have hl:=Y.len;simp only[Ty.cnt]at hc;have aj:=Am l;refine Au N _ Q λ_=>⟨_,rfl,_,_,_,rfl,?_⟩
 have key:=up Y V (λi xs=>∀(N':Nat),N<=N'->(i=0->xd Q N a es c es.length i 0 none [] 0 k none [] 0 N')/\∀(m q:Nat) (r:List D),m=r.length->All2 Ty.Is (l.take i) r->OwnL N N' r ->
  yA Q N a es c es.length i 0 none [] 0 k m q r q N') ?_ ?_
 ·exact(key N (oG _)).1 rfl
 ·intro i Z hi N' ae;refine⟨λh0=>vD ?_,λm q r hm U ho=>x7 ?_⟩
  ·repeat' first|with_reducible intro _|simp only[Z,Y1,Y2,Y3,Y4]|with_reducible refine X ?_ ?_|refine⟨_,_,_,rfl,?_⟩|refine⟨_,rfl,?_⟩|refine X0 ?_|fail
   have:l=[]:=oV (by omega);subst this;exact hQ _ _ (by omega) (uI _) qD
  ·repeat' first|with_reducible intro _|simp only[Z,Y1,Y2,Y3,Y4]|with_reducible refine X ?_ ?_|refine⟨_,_,_,rfl,?_⟩|refine⟨_,rfl,?_⟩|refine X0 ?_|fail
   rename_i a' N3 J hf N4 ah;rw[nk (by omega)]at U;exact hQ _ _ (by omega) (Ty.is_mk.2 ⟨_,_,_,rfl,by have:=U.len;omega,U⟩) (Dw (ya (yL ((Bw ho hf (by omega)).mono (oG _) ah))))
 ·intro i x xs I _ aa N' ae;have hb:=I.b;have ak:=wS I.m;refine⟨λh0=>vD ?_,λm q r hm U ho=>x7 ?_⟩
  ·repeat' first|with_reducible intro _|simp only[I.lt,I.w,oX,Y1,Y2,Y3,Y4]|with_reducible refine X ?_ ?_|refine⟨_,_,_,rfl,?_⟩|refine⟨_,rfl,?_⟩|refine X0 ?_|refine(ih x I.m _ I.r (by omega)) _ _ ?_|fail
   rename_i N2 ab d' N3 J hx O ai ac;subst h0;exact⟨by unfold zK;simp,λc2=>(aa _ (by omega)).2 _ _ _ rfl (by rw[IW I.g];exact⟨_,_,rfl,hx,rfl⟩) (yL (O.mono (by omega) (oG _)))⟩
  ·repeat' first|with_reducible intro _|simp only[I.lt,I.w,oX,Y1,Y2,Y3,Y4]|with_reducible refine X ?_ ?_|refine⟨_,_,_,rfl,?_⟩|refine⟨_,rfl,?_⟩|refine X0 ?_|refine(ih x I.m _ I.r (by omega)) _ _ ?_|fail
   rename_i N2 ab d' N3 J hx O ai ac;have al:=U.len;have ao:(l.take i).length=i:=by rw[nl];omega
   refine⟨by unfold zK;simp only[oK,List.length_singleton];omega,λc2=>?_⟩;exact(aa _ (by omega)).2 _ _ _ rfl (by rw[IW I.g];exact U.snoc hx) (yK (ho.mono (oG _) ab) (yL O) (by omega) J)
theorem Ks:Kj 126 [] tInt:=λN Q J=>EL N Q λN' I=>J _ _ I (uI _) qD
theorem I2:Kj 127 [] tBool:=λN Q J=>C0 N Q λN' I=>J _ _ I (uI _) qD
theorem Kr (t u:Ty)(d e:D)(hd:t.Is d)(Z:u.Is e)(I:t.cnt<=1073741824)(J:u.cnt<=1073741824):Kj 128 [.dg 2 d,.dg 2 e] (DJ t u):=λN Q hQ=>by
 refine EK N _ _ Q λ_ _=>?_
 repeat' first|with_reducible intro _|simp only[Y1,Y2,Y3,Y4]|with_reducible refine X ?_ ?_|refine⟨_,_,_,rfl,?_⟩|refine⟨_,rfl,?_⟩|refine X0 ?_|refine(Kq t d hd I) _ _ ?_|refine(Kq u e Z J) _ _ ?_|fail
 rename_i N1 O d1 N2 aa h1 o1 ab b1 N3 U d2 N4 V h2 o2 ac b2 a' N5 ae hf N6 Y;exact hQ _ _ (by omega) (Ty.is_mk.2 ⟨_,_,_,rfl,by simp,_,_,rfl,h1,_,_,rfl,h2,rfl⟩)
  (Dw (ya (yL ((Bw (yK ((yL o1).mono O U) (yL o2) (by omega) V) hf (by omega)).mono (oG _) Y))))
theorem I3 (t:Ty)(d:D)(hd:t.Is d)(I:t.cnt<=1073741824):Kj 129 [.dg 2 d] (v7 t):=λN Q U=>by
 refine C1 N _ Q λ_=>?_
 repeat' first|with_reducible intro _|simp only[Y1,Y2,Y3,Y4]|with_reducible refine X ?_ ?_|refine⟨_,_,_,rfl,?_⟩|refine⟨_,rfl,?_⟩|refine X0 ?_|refine(Kq t d hd I) _ _ ?_|fail
 rename_i N1 J d1 N2 V Y Z aa b1 a' N5 ab hf N6 O;exact U _ _ (by omega) (Ty.is_mk.2 ⟨_,_,_,rfl,by simp,_,_,rfl,Y,rfl⟩)
  (Dw (ya (yL ((Bw ((yL Z).mono J (oG _)) hf (by omega)).mono (oG _) O))))
mutual
def Tm.sz:Tm->Nat
 | .mk _ _ _ _ _ _ l=>1+wD l
def wD:List Tm->Nat
 | []=>0
 | t::ts=>t.sz+wD ts
end
mutual
theorem Tm.sz_cnt:∀ t:Tm,t.sz<=t.cnt
 | .mk _ _ _ _ ty re l=>by simp only[Tm.sz,Tm.cnt];have:=Ae l;omega
theorem Ae:∀ l:List Tm,wD l<=zx l
 | []=>oG _
 | t::ts=>by simp only[wD,zx];have:=t.sz_cnt;have:=Ae ts;omega
end
def NE (k:Int):Bool:=inB k 1 5||k==8
mutual
def Tm.isB:Tm->Bool
 | .mk k _ _ _ _ _ l=>OG l&&NE k
def OG:List Tm->Bool
 | []=>true
 | t::ts=>t.isB&&OG ts
end
def Tm.vd (t:Tm):Bool:=decide (t.sz<=80)&&decide (t.dp<=20)&&t.ok
theorem sP:∀(t:Tm)(d:D),t.Is d->∀ n:Int,0<=n->n<=1000->A5 68 [.dg 9 d,.j n] (if(t.sz:Int)<=n then n - t.sz else -1):=by
 refine Tm.ind λk nm ot n0 ty re l ih d hd n ac ae N Q hQ=>?_;obtain⟨t0,t1,r0,r1,a,es,c,rfl,hh,V,Y⟩:=Tm.is_mk.1 hd;refine DB N _ n Q λ_=>?_;have key:=up Y V (λi xs=>∀(m:Int) (N':Nat),N<=N' -> -1<=m->m<=1000->(∀ J,N'<=J->Q (if m<0 then -1 else if(wD xs:Int)<=m then m - wD xs else -1) J) ->
  xJ Q N m i (.ag [.j k,.t nm,.t ot,.j n0,t0,t1,r0,r1,.sl a 9 es c]) N') ?_ ?_
 ·rw[i64_in _ (by omega)];refine key (n - 1) N (oG _) (by omega) (by omega) λN' U=>Qi (hQ N' U) ?_;simp only[Tm.sz]
  (repeat' split)<;>omega
 ·intro i Z _ m N' U h1 h2 O;refine uU ?_
  repeat' first|with_reducible intro _|simp only[Z,Y1,Y2,Y3,Y4]|with_reducible refine X ?_ ?_|refine⟨_,_,_,rfl,?_⟩|refine⟨_,rfl,?_⟩|refine X0 ?_|fail
  refine Qi (O _ (by assumption)) ?_;simp only[wD]
  (repeat' split)<;>omega
 ·intro i x xs I _ aa m N' U h1 h2 O;have hb:=I.b;refine uU ?_
  repeat' first|with_reducible intro _|simp only[I.lt,I.w,oX,Y1,Y2,Y3,Y4]|with_reducible refine X ?_ ?_|refine⟨_,_,_,rfl,?_⟩|refine⟨_,rfl,?_⟩|refine X0 ?_|refine(ih x I.m _ I.r m (by omega) (by omega)) _ _ ?_|fail
  ·refine aa _ _ (by omega) (by split<;>omega) (by split<;>omega) λJ ab=>Qi (O J (by omega)) ?_;simp only[wD]
   (repeat' split)<;>omega
  ·refine Qi (O _ (by assumption)) ?_;rw[if_pos (by omega)];omega
theorem BB:∀(t:Tm)(d:D),t.Is d->t.cnt<=1073741824->A5 69 [.dg 9 d] t.dp:=by
 refine Tm.ind λk nm ot n0 ty re l ih d hd hc N Q hQ=>?_;obtain⟨t0,t1,r0,r1,a,es,c,rfl,hh,J,U⟩:=Tm.is_mk.1 hd;refine BQ N _ Q λ_=>?_;simp only[Tm.cnt]at hc;have aa:=s5 l;have key:=up U J (λi xs=>∀(m:Nat) (N':Nat),N<=N'->max m (sy xs)=sy l->yq Q N (m:Int) i (.ag [.j k,.t nm,.t ot,.j n0,t0,t1,r0,r1,.sl a 9 es c]) N') ?_ ?_
 ·exact key 0 N (oG _) (by omega)
 ·intro i V _ m N' O Y;simp only[sy]at Y;refine vm ?_
  repeat' first|with_reducible intro _|simp only[V,Y1,Y2,Y3,Y4]|with_reducible refine X ?_ ?_|refine⟨_,_,_,rfl,?_⟩|refine⟨_,rfl,?_⟩|refine X0 ?_|fail
  rw[i64_in _ (by omega)];refine Qi (hQ _ (o8 O (by assumption))) ?_;simp only[Tm.dp];omega
 ·intro i x xs I _ Z m N' O Y;have hb:=I.b;have ab:=va I.m;simp only[sy]at Y;refine vm ?_
  repeat' first|with_reducible intro _|simp only[I.lt,I.w,oX,Y1,Y2,Y3,Y4]|with_reducible refine X ?_ ?_|refine⟨_,_,_,rfl,?_⟩|refine⟨_,rfl,?_⟩|refine X0 ?_|refine(ih x I.m _ I.r (by omega)) _ _ ?_|refine(qQ _ _) _ _ ?_|fail
  have e:max (m:Int) (x.dp:Int)=((max m x.dp:Nat):Int):=by omega
  rw[e];exact Z _ _ (by omega) (by omega)
theorem sM (t:Tm)(d:D)(hd:t.Is d)(hc:t.cnt<=1073741824):tF 35 [.dg 9 d] t.vd:=λN Q I=>by
 refine rI N _ Q λ_=>?_;by_cases O:t.sz<=80
 ·have J:((t.sz:Int)<=80):=by omega
  repeat' first|with_reducible intro _|simp only[if_pos J,Y1,Y2,Y3,Y4]|with_reducible refine X ?_ ?_|refine⟨_,_,_,rfl,?_⟩|refine⟨_,rfl,?_⟩|refine X0 ?_|refine(sP t d hd _ (by omega) (by omega)) _ _ ?_|refine(BB t d hd hc) _ _ ?_|refine(CS t d hd hc) _ _ ?_|fail
  all_goals first | omega | skip
  ·have U:t.dp<=20:=by omega
   refine Qb (I _ (by omega)) ?_;simp[Tm.vd, *]
  ·have U:¬t.dp<=20:=by omega
   refine Qb (I _ (by omega)) ?_;simp[Tm.vd, *]
 ·have J:¬((t.sz:Int)<=80):=by omega
  repeat' first|with_reducible intro _|simp only[if_neg J,Y1,Y2,Y3,Y4]|with_reducible refine X ?_ ?_|refine⟨_,_,_,rfl,?_⟩|refine⟨_,rfl,?_⟩|refine X0 ?_|refine(sP t d hd _ (by omega) (by omega)) _ _ ?_|fail
  all_goals first | omega | skip
  refine Qb (I _ (by omega)) ?_;simp[Tm.vd, *]
theorem xh (l:List ByteArray):(zR l).length=l.length:=by simp[zR]
theorem CQ:∀(t:Tm)(d:D),t.Is d->t.cnt<=1073741824->A5 79 [.dg 9 d] t.sz:=by
 refine Tm.ind λk nm ot n0 ty re l ih d hd hc N Q hQ=>?_;obtain⟨t0,t1,r0,r1,a,es,c,rfl,hh,J,O⟩:=Tm.is_mk.1 hd;simp only[Tm.cnt]at hc;have aa:=Ae l;refine Cy N _ Q λ_=>⟨_,_,_,rfl,?_⟩
 refine up O J (λi xs=>∀(m:Nat) (N':Nat),N<=N'->m+wD xs=1+wD l->xE Q N m a es c es.length i N') ?_ ?_ 1 N (oG _) rfl
 ·intro i U _ m N' V Y;refine uM ?_;simp only[wD]at Y
  repeat' first|with_reducible intro _|simp only[U,Y1,Y2,Y3,Y4]|with_reducible refine X ?_ ?_|refine⟨_,_,_,rfl,?_⟩|refine⟨_,rfl,?_⟩|refine X0 ?_|fail
  exact Qi (hQ _ (by omega)) (by simp only[Tm.sz];omega)
 ·intro i x xs I _ Z m N' V Y;have hb:=I.b;have ab:=va I.m;simp only[wD]at Y;refine uM ?_
  repeat' first|with_reducible intro _|simp only[I.lt,I.w,oX,Y1,Y2,Y3,Y4]|with_reducible refine X ?_ ?_|refine⟨_,_,_,rfl,?_⟩|refine⟨_,rfl,?_⟩|refine X0 ?_|refine(ih x I.m _ I.r (by omega)) _ _ ?_|fail
  rw[i64_in _ (by omega)];exact Z (m+x.sz) _ (by omega) (by omega)
theorem A7:∀(t:Tm)(d:D),t.Is d->t.cnt<=1073741824->A5 80 [.dg 9 d] t.dp:=by
 refine Tm.ind λk nm ot n0 ty re l ih d hd hc N Q hQ=>?_;obtain⟨t0,t1,r0,r1,a,es,c,rfl,hh,J,O⟩:=Tm.is_mk.1 hd;simp only[Tm.cnt]at hc;have aa:=s5 l;refine BL N _ Q λ_=>⟨_,_,_,rfl,?_⟩
 refine up O J (λi xs=>∀(m:Nat) (N':Nat),N<=N'->max m (sy xs)=sy l->yn Q N m a es c es.length i N') ?_ ?_ 0 N (oG _) (by omega)
 ·intro i U _ m N' V Y;refine vi ?_;simp only[sy]at Y
  repeat' first|with_reducible intro _|simp only[U,Y1,Y2,Y3,Y4]|with_reducible refine X ?_ ?_|refine⟨_,_,_,rfl,?_⟩|refine⟨_,rfl,?_⟩|refine X0 ?_|fail
  rw[i64_in _ (by omega)];exact Qi (hQ _ (by omega)) (by simp only[Tm.dp];omega)
 ·intro i x xs I _ Z m N' V Y;have hb:=I.b;have ab:=va I.m;simp only[sy]at Y;refine vi ?_
  repeat' first|with_reducible intro _|simp only[I.lt,I.w,oX,Y1,Y2,Y3,Y4]|with_reducible refine X ?_ ?_|refine⟨_,_,_,rfl,?_⟩|refine⟨_,rfl,?_⟩|refine X0 ?_|refine(ih x I.m _ I.r (by omega)) _ _ ?_|fail
  have e:(if(x.dp:Int)>(m:Int)then(x.dp:Int)else(m:Int))=((max m x.dp:Nat):Int):=by split<;>omega
  rw[e];exact Z (max m x.dp) _ (by omega) (by omega)
theorem sK (t:Tm)(d:D)(hd:t.Is d)(hc:t.cnt<=1073741824):tF 46 [.dg 9 d] t.vd:=λN Q I=>by
 refine rC N _ Q λ_=>?_
 repeat' first|with_reducible intro _|simp only[Y1,Y2,Y3,Y4]|with_reducible refine X ?_ ?_|refine⟨_,_,_,rfl,?_⟩|refine⟨_,rfl,?_⟩|refine X0 ?_|refine(CP t d hd hc) _ _ ?_|refine(CQ t d hd hc) _ _ ?_|refine(A7 t d hd hc) _ _ ?_|fail
 ·have J:t.sz<=80:=by omega
  refine Qb (I _ (by omega)) ?_;have:decide ((t.dp:Int)<=20)=decide (t.dp<=20):=by rw[ml,mm,mm];omega
  simp[Tm.vd, *]
 ·have J:¬t.sz<=80:=by omega
  refine Qb (I _ (by omega)) ?_;simp[Tm.vd, *]
 ·refine Qb (I _ (by omega)) ?_;simp[Tm.vd, *]
inductive Wf:Ty->Prop
 | int:Wf tInt
 | bool:Wf tBool
 | fn {a b:Ty}:Wf a->Wf b->Wf (DJ a b)
 | code {a:Ty}:Wf a->Wf (v7 a)
theorem FL {t:Tm}{d:D}(h:t.Is d):All2 Tm.Is [t] [d]:=⟨d,[],rfl,h,rfl⟩
instance decMem (s:ByteArray) (l:List ByteArray):Decidable (s∈l):=decidable_of_iff ((l.any fun x=>decide (x=s))=true) (by simp)
def dd:List ByteArray->List ByteArray->List ByteArray
 | out,[]=>out
 | out,s::l=>dd (if s∈out then out else out++[s]) l
def Mu (k:Nat):ByteArray:=⟨(118::Lib.decDigits k).toArray⟩
theorem Kx:∀(a b:Nat),Lib.decDigits a=Lib.decDigits b->a=b:=by
 intro a;have U:∀ u,(Lib.decDigits u).length=Lib.nDigits u:=Lib.decDigits_length;have e1:∀ u,u<10->Lib.decDigits u=[UInt8.ofNat (48+u)]:=λu h=>by rw[Lib.decDigits,dif_pos h]
 have V:∀ u,¬u<10->Lib.decDigits u=Lib.decDigits (u / 10)++[UInt8.ofNat (48+u % 10)]:=λu h=>by rw[Lib.decDigits,dif_neg h]
 have u8:∀ x y:Nat,x<10->y<10->UInt8.ofNat (48+x)=UInt8.ofNat (48+y)->x=y:=λx y hx hy h=>by
  have:=oN UInt8.toNat h
  simp only[UInt8.toNat_ofNat']at this;omega
 induction a using Nat.strongRecOn with
 | _ a Y=>
   intro b h;have J:=oN List.length h;rw[U,U]at J;by_cases I:a<10
   ·rw[Lib.nDigits_small I]at J;have O:b<10:=by
     refine mt λhc=>?_;rw[Lib.nDigits_big (by omega)]at J
     have:=Lib.nDigits_pos (b / 10)
     omega
    rw[e1 a I,e1 b O]at h;exact u8 a b I O (by simpa using h)
   ·have O:¬b<10:=λhc=>by
     rw[Lib.nDigits_big I,Lib.nDigits_small hc]at J
     have:=Lib.nDigits_pos (a / 10)
     omega
    rw[V a I,V b O]at h;obtain⟨Z,h2⟩:=List.append_inj' h rfl
    have:=Y (a / 10) (by omega) (b / 10) Z
    have:=u8 (a % 10) (b % 10) (by omega) (by omega) (by simpa using h2)
    omega
def KI:Nat->Nat->List ByteArray->Nat
 | 0,k,_=>k
 | f+1,k,l=>if Mu k∈l then KI f (k+1) l else k
def fresh (l:List ByteArray):ByteArray:=Mu (KI l.length 1 l)
end Go.Proofs.YtldbmnklnpfpfaaGreatDoor
namespace Go.Proofs
namespace YtldbmnklnpfpfaaGreatDoor
open Go Go.Proofs Go.Proofs.Tryz Go.RowKit Go.Shelf Go.Sort Go.Lib
def itoaR:Go.Shelf.Ren:=⟨λx=>match x with | 171=>61 | 243=>92 | 246=>121 | 283=>143 | 284=>144 | 285=>145 | 286=>146 | 129=>164 | 317=>163 | 318=>165 | 319=>166 | 320=>167 | 337=>173 | 338=>174 | n=>n,λx=>match x with | 3=>3 | 9=>9 | 2=>2 | 4=>4 | 171=>141 | 0=>0 | 53=>142 | 37=>63 | 5=>5 | 173=>145 | 212=>157 | 51=>94 | 20=>20 | 213=>158 | 46=>123 | 232=>173 | 233=>174 | n=>n,λx=>match x with | 17=>5 | 18=>8 | 19=>9 | n=>n⟩
theorem itoaL:LaysM.n171 Tryz.prog itoaR where
 mixed:=by kernel_rfl
 f129:=Tryz.func164.trans (oN some (by kernel_rfl))
 f171:=Tryz.func61.trans (oN some (by kernel_rfl))
 f243:=Tryz.func92.trans (oN some (by kernel_rfl))
 f246:=Tryz.func121.trans (oN some (by kernel_rfl))
 f283:=Tryz.func143.trans (oN some (by kernel_rfl))
 f284:=Tryz.func144.trans (oN some (by kernel_rfl))
 f285:=Tryz.func145.trans (oN some (by kernel_rfl))
 f286:=Tryz.func146.trans (oN some (by kernel_rfl))
 f317:=Tryz.func163.trans (oN some (by kernel_rfl))
 f318:=Tryz.func165.trans (oN some (by kernel_rfl))
 f319:=Tryz.func166.trans (oN some (by kernel_rfl))
 f320:=Tryz.func167.trans (oN some (by kernel_rfl))
 f337:=Tryz.func173.trans (oN some (by kernel_rfl))
 f338:=Tryz.func174.trans (oN some (by kernel_rfl))
 t0:=Tryz.underlying0
 a0:=Tryz.isAgg0
 z0:=Tryz.sizeOf0
 v0:=Tryz.zeroValue0
 t2:=Tryz.underlying2
 a2:=Tryz.isAgg2
 z2:=Tryz.sizeOf2
 v2:=Tryz.zeroValue2
 t3:=Tryz.underlying3
 a3:=Tryz.isAgg3
 z3:=Tryz.sizeOf3
 v3:=Tryz.zeroValue3
 t4:=Tryz.underlying4
 a4:=Tryz.isAgg4
 z4:=Tryz.sizeOf4
 v4:=Tryz.zeroValue4
 t5:=Tryz.underlying5
 a5:=Tryz.isAgg5
 z5:=Tryz.sizeOf5
 v5:=Tryz.zeroValue5
 t9:=Tryz.underlying9
 a9:=Tryz.isAgg9
 z9:=Tryz.sizeOf9
 v9:=Tryz.zeroValue9
 t20:=Tryz.underlying20
 a20:=Tryz.isAgg20
 z20:=Tryz.sizeOf20
 v20:=Tryz.zeroValue20
 t37:=Tryz.underlying63
 a37:=Tryz.isAgg63
 z37:=Tryz.sizeOf63
 v37:=Tryz.zeroValue63
 t46:=Tryz.underlying123
 a46:=Tryz.isAgg123
 z46:=Tryz.sizeOf123
 v46:=Tryz.zeroValue123
 t51:=Tryz.underlying94
 a51:=Tryz.isAgg94
 z51:=Tryz.sizeOf94
 v51:=Tryz.zeroValue94
 t53:=Tryz.underlying142
 a53:=Tryz.isAgg142
 z53:=Tryz.sizeOf142
 v53:=Tryz.zeroValue142
 t171:=Tryz.underlying141
 a171:=Tryz.isAgg141
 z171:=Tryz.sizeOf141
 v171:=Tryz.zeroValue141
 t173:=Tryz.underlying145
 a173:=Tryz.isAgg145
 z173:=Tryz.sizeOf145
 v173:=Tryz.zeroValue145
 t212:=Tryz.underlying157
 a212:=Tryz.isAgg157
 z212:=Tryz.sizeOf157
 v212:=Tryz.zeroValue157
 t213:=Tryz.underlying158
 a213:=Tryz.isAgg158
 z213:=Tryz.sizeOf158
 t232:=Tryz.underlying173
 a232:=Tryz.isAgg173
 z232:=Tryz.sizeOf173
 v232:=Tryz.zeroValue173
 t233:=Tryz.underlying174
 a233:=Tryz.isAgg174
 z233:=Tryz.sizeOf174
 v233:=Tryz.zeroValue174
 g17:=by kernel_rfl
 g18:=by kernel_rfl
 g19:=by kernel_rfl
 i0:=by kernel_rfl
 i2:=by kernel_rfl
 i3:=by kernel_rfl
 i4:=by kernel_rfl
 i5:=by kernel_rfl
 i9:=by kernel_rfl
 i20:=by kernel_rfl
 i37:=by kernel_rfl
 i46:=by kernel_rfl
 i51:=by kernel_rfl
 i53:=by kernel_rfl
 i171:=by kernel_rfl
 i173:=by kernel_rfl
 i212:=by kernel_rfl
 i232:=by kernel_rfl
 i233:=by kernel_rfl
 m17:=by kernel_rfl
 m18:=by kernel_rfl
 m19:=by kernel_rfl
theorem Fa {w : World}(h : GlobIs w) : Lib.TabIs prog w "internal/strconv.uint64pow10" .u64 Lib.pow10Tab := by obtain ⟨t,fz,I⟩:=h.h _ (List.mem_cons_self);unfold Lib.TabIs World.var?;rw [itoaL.m17];have J:w.heap[itoaR.g 17]?=some (.cells (Lib.pow10Tab.map λn=>Value.int .u64 n).toArray t fz):=I;simp only [oI,J]
theorem L5 (u:Nat)(h1:u<=9223372036854775807)(N:Nat)(Q:QT [.str])(U:∀ N',N<=N'->Q ⟨(Lib.decDigits u).toArray⟩ N'):ACalls prog 61 [.str] [.int .i64 u] N Q:=
 ⟨by kernel_rfl,λav w0 hN J _=>(Any.strconv_Itoa itoaL (u:Int) (by omega) (by omega) w0 (Fa J.g)).mono λe w ⟨V,k,os,Y⟩=>by
  subst V;subst hN;subst Y;rw[Lib.itoa_nonneg];have I:(Go.Sort.grow (w0.drewN k) os).heap.size=w0.heap.size+os.size:=by unfold Go.Sort.grow;rw[mG];rfl
  refine⟨[.str ⟨(Lib.decDigits u).toArray⟩],[],[],?_⟩;exact { q:=U _ (by rw[I];omega),v:=rfl,m:=⟨rfl,by simp,by simp,by simp,λk j b h=>by obtain⟨_,Z,_⟩:=h;simp[Env.at]at Z⟩,ok:=λp O=>by simp at O;subst O;trivial,fresh:=λk b h=>by simp[Env.at]at h,size:=by rw[I];omega,old:=λb hb=>Array.getElem?_append_left hb,fz:=λ_ _ _ _ _ _=>trivial,ku:=⟨rfl,rfl⟩ }⟩
end YtldbmnklnpfpfaaGreatDoor
end Go.Proofs
namespace Go.Proofs.YtldbmnklnpfpfaaGreatDoor
open Go Go.Proofs Go.Proofs.Tryz Go.IntWalk
def we (f:FuncId)(args:List PV)(s:ByteArray):Prop:=∀(N:Nat) (Q:QT [.str]),(∀ N',N<=N'->Q s N')->ACalls prog f [.str] args N Q
theorem Qst {Q:QT [.str]}{a b:ByteArray}{N:Nat}(h:Q a N)(e:a=b):Q b N:=e ▸ h
def Dc (u:Nat):ByteArray:=⟨(Lib.decDigits u).toArray⟩
theorem rx (u:Nat)(h:u<=4611686018427387904):Lib.nDigits u<=20:=by
 by_cases I:1<=u
 ·have:=Lib.numDigits_eq u I (by omega);split at this<;>omega
 ·rw[Lib.nDigits_small (by omega)];omega
theorem sT (u:Nat):(Dc u).size=Lib.nDigits u:=by show(Lib.decDigits u).toArray.size=_;rw[nc,Lib.decDigits_length]
theorem zZ {a b:ByteArray}(h:a.data.toList=b.data.toList):a=b:=by cases a;cases b;simp at h;rw[h]
theorem zL (a b:ByteArray):(a++b).data.toList=a.data.toList++b.data.toList:=by simp
theorem vh (u:Nat)(h:u<=4611686018427387904):we 27 [.j u] (Dc u):=λN Q I=>qq N u Q λN1 J=>L5 u (by omega) N1 _ λV O _ N3 U=>I _ (by omega)
theorem JC (m:Nat)(s:ByteArray)(hs:∀ u,u<10->Lib.decDigits u=[UInt8.ofNat (48+u)]):(zX [IntKind.u8.wrap (IntKind.i64.wrap (48+Int.tmod (m:Int) 10))]++s).data.toList=UInt8.ofNat (48+m % 10)::s.data.toList:=by
 rw[zL];have e:IntKind.u8.wrap (IntKind.i64.wrap (48+Int.tmod (m:Int) 10))=((48+m % 10:Nat):Int):=by
  have:Int.tmod (m:Int) 10=((m % 10:Nat):Int):=by rw[Int.tmod_eq_emod_of_nonneg (by omega)];omega
  rw[this,i64_in _ (by omega),IntKind.wrap_u8];omega
 rw[e];have I:zX [((48+m % 10:Nat):Int)]=⟨#[UInt8.ofNat (48+m % 10)]⟩:=rfl;rw[I];rfl
theorem ys (u:Nat) (h:u<=4611686018427387904):we 24 [.j u] (Dc u):=λN Q hQ=>by
 have e1:∀ u,u<10->Lib.decDigits u=[UInt8.ofNat (48+u)]:=λu h=>by rw[Lib.decDigits,dif_pos h]
 have e2:∀ u,¬u<10->Lib.decDigits u=Lib.decDigits (u / 10)++[UInt8.ofNat (48+u % 10)]:=λu h=>by rw[Lib.decDigits,dif_neg h]
 refine vo N u Q (Br.beq (λh0 N1 V=>?_) λh0=>?_)
 ·have:u=0:=by omega
  subst this;refine Qst (hQ _ V) (zZ ?_);show Lib.decDigits 0=[48];rw[e1 0 (by omega)];rfl
 ·rw [nq (by omega)]
  have key:∀(m:Nat) (s:ByteArray),m<=u->s.size+Lib.nDigits m<=20\/(m=0/\s.size<=20)->(if m=0 then []else Lib.decDigits m)++s.data.toList=Lib.decDigits u->zS Q N m false s N:=by
   intro m
   induction m using Nat.strongRecOn with
   | _ m ih=>
     intro s hm O Y;refine xR ?_;refine Br.bne (λI=>?_) λI=>?_
     ·have I:m≠0:=by omega
      have ht:Int.tmod (m:Int) 10=((m % 10:Nat):Int):=by rw[Int.tmod_eq_emod_of_nonneg (by omega)];omega
      have hd:Int.tdiv (m:Int) 10=((m / 10:Nat):Int):=by rw[Int.tdiv_eq_ediv_of_nonneg (by omega)];omega
      have O:s.size+Lib.nDigits m<=20:=by rcases O with U | ⟨U,_⟩;exact U;exact absurd U I
      refine⟨by omega,?_⟩;rw[nq (by omega)];refine⟨by simp,[IntKind.u8.wrap (IntKind.i64.wrap (48+Int.tmod (m:Int) 10))],rfl,?_,by omega,?_⟩
      ·have:(zX [IntKind.u8.wrap (IntKind.i64.wrap (48+Int.tmod (m:Int) 10))]).size=1:=rfl;omega
      ·rw[hd,i64_in _ (by omega)];refine ih (m / 10) (by omega) _ (by omega) ?_ ?_
       ·have U:(zX [IntKind.u8.wrap (IntKind.i64.wrap (48+Int.tmod (m:Int) 10))]++s).size=1+s.size:=by rw[oC];rfl
        by_cases J:m<10
        ·right
         have:=Lib.nDigits_pos m
         exact⟨by omega,by omega⟩
        ·left
         have:=Lib.nDigits_big J
         omega
       ·rw[JC m s e1,<-Y,if_neg I];by_cases J:m<10
        ·rw[if_pos (by omega),e1 m J,show m % 10=m by omega];rfl
        ·rw[if_neg (by omega),e2 m J];simp
     ·have:m=0:=by omega
      subst this;refine λN2 Z=>Qst (hQ _ Z) (zZ ?_);rw[if_pos rfl]at Y;exact Y.symm
  refine key u (bytes []) (oG _) (.inl ?_) ?_
  ·have:=rx u h
   show 0+_<=_;omega
  ·rw[if_neg (by omega)];exact nH _
end Go.Proofs.YtldbmnklnpfpfaaGreatDoor
