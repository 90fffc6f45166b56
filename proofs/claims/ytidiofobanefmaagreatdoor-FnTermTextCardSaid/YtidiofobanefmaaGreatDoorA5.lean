/- Parameters: what they are; the laws' sizes, copies, equality and marks on them. -/
import Derived.Test.YtidiofobanefmaaGreatDoorA1
import Derived.Test.YtidiofobanefmaaGreatDoorKa
import Derived.Lib.ItoaNum
import Derived.Shelf.Strconv.Itoa3
set_option linter.unusedVariables false
set_option linter.unusedSimpArgs false
namespace Go.Proofs.YtidiofobanefmaaGreatDoor
open Go Go.Proofs Go.Proofs.Tryz Go.IntWalk
structure Pm where
 nm:ByteArray
 ty:Ty
 dy:Bool
def Pm.Is (g:Pm)(d:D):Prop:=∃ t0 t1,d=.ag [.t g.nm,t0,t1,.lit (.bool g.dy)]/\g.nm.size<=4611686018427387904/\g.ty.Is (.ag [t0,t1])
theorem xP (n a b:Int):tH 114 [.j n,.j a,.j b] (inB n a b):=λN Q I=>by
 refine C3 N n a b Q ?_
 repeat' first|with_reducible intro _|simp only[Y1,Y2,Y3,Y4]|with_reducible refine X ?_ ?_|refine⟨_,_,_,rfl,?_⟩|refine⟨_,rfl,?_⟩|refine X0 ?_|fail
 all_goals simpa [inB, *]using I _ (by omega)
def Gi {α:Type}(p:α->Bool):List α->Int->Int
 | [],_ => -1
 | x::xs,i=>if p x then i else Gi p xs (i+1)
theorem pL {α:Type}(p:α->Bool):∀(l:List α)(i:Int),0<=i->decide (Gi p l i≥0)=l.any p
 | [],i,h=>by simp[Gi]
 | x::xs,i,h=>by
   have I:=pL p xs (i+1) (by omega);rw[mb,mc]at I ⊢;simp only[Gi,List.any_cons,ny];by_cases J:p x=true
   ·simp only[J,nl,true_or,iff_true];exact h
   ·simpa [J]using I
def zD (l:List ByteArray):List D:=l.map λs=>.t s
theorem A4:∀ l:List ByteArray,All2 (λs d=>d=.t s) l (zD l)
 | []=>rfl
 | s::l=>⟨_,_,rfl,rfl,A4 l⟩
theorem Ee (l:List ByteArray)(hl:l.length<=4611686018427387904)(a:Option Addr)(c:Nat)(s:ByteArray):EU 160 [.sv a 0 (zD l) c,.str s] (Gi (λx=>decide (s=x)) l 0):=λN Q hQ=>by
 have U:=A4 l;have V:(zD l).length<=4611686018427387904:=by rw[U.len];exact hl
 refine tq N a _ c s Q λ_=>?_;refine up U V (λi xs=>∀(N':Nat),N<=N'->(∀ O,N'<=O->Q (Gi (λx=>decide (s=x)) xs i) O)->zm Q N a (zD l) c s ((zD l).length:Int) i N') ?_ ?_ N (oJ _) hQ
 ·intro i Z _ N' Y I;refine xu ?_
  repeat' first|with_reducible intro _|simp only[Z,Y1,Y2,Y3,Y4]|with_reducible refine X ?_ ?_|refine⟨_,_,_,rfl,?_⟩|refine⟨_,rfl,?_⟩|refine X0 ?_|fail
  exact I _ (by omega)
 ·intro i x xs J _ aa N' Y I;have hb:=J.b;have hr:=J.r;simp only[Gi]at I;refine xu ?_
  repeat' first|with_reducible intro _|simp only[J.lt,J.w,oX,hr,Y1,Y2,Y3,Y4]|with_reducible refine X ?_ ?_|refine⟨_,_,_,rfl,?_⟩|refine⟨_,rfl,?_⟩|refine X0 ?_|fail
  ·rename_i h _ _;subst h;exact Qi (I _ (by omega)) (by simp)
  ·rename_i h;exact aa _ Y λO h2=>Qi (I _ h2) (by rw[if_neg (by simpa using h)];simp)
theorem A9 (l:List ByteArray)(hl:l.length<=4611686018427387904)(a:Option Addr)(c:Nat)(s:ByteArray):tH 146 [.sv a 0 (zD l) c,.str s] (l.any λx=>decide (s=x)):=λN Q I=>by
 refine vz N a _ c s Q λ_=>?_
 repeat' first|with_reducible intro _|simp only[Y1,Y2,Y3,Y4]|with_reducible refine X ?_ ?_|refine⟨_,_,_,rfl,?_⟩|refine⟨_,rfl,?_⟩|refine X0 ?_|refine(Ee l hl a c s) _ _ ?_|fail
 exact Qb (I _ (by omega)) (pL _ l 0 (by omega)).symm
theorem sN (s:ByteArray)(hs:s.size<=4611686018427387904):tH 129 [.str s] (xf s):=λN Q Y=>by
 refine Cx N s Q ?_;have key:=upN hs (λi=>∀ N',N<=N'->(∀ J,N'<=J->Q (wI s i&&qh s) J)->zx Q N s (s.size:Int) i N') ?_ ?_
 ·exact key N (oJ _) Y
 ·intro O N' U I;have hc:=A9 [bytes [105,102],bytes [108,101,116],bytes [108,105,102,116],bytes [114,101,99],bytes [114,117,110]] (by simp);simp only[zD,List.map]at hc;refine uI ?_
  repeat' first|with_reducible intro _|simp only[O,Y1,Y2,Y3,Y4]|with_reducible refine X ?_ ?_|refine⟨_,_,_,rfl,?_⟩|refine⟨_,rfl,?_⟩|refine X0 ?_|refine(xP _ _ _) _ _ ?_|refine(hc _ _ _) _ _ ?_|fail
  all_goals(refine Qb (I _ (by omega)) ?_;rw[qd])
  ·simp only[qh,List.any_cons,List.any_nil,Bool.or_false, *];cases decide (s=bytes [105,102])<;>cases decide (s=bytes [108,101,116])<;>cases decide (s=bytes [108,105,102,116])<;>cases decide (s=bytes [114,101,99])<;>cases decide (s=bytes [114,117,110])<;>rfl
  ·simp[qh, *]
 ·intro i hi O Z V N' U I;refine uI ?_;rw[sn hi]at I
  repeat' first|with_reducible intro _|simp only[O,Z,oX,Y1,Y2,Y3,Y4]|with_reducible refine X ?_ ?_|refine⟨_,_,_,rfl,?_⟩|refine⟨_,rfl,?_⟩|refine X0 ?_|fail
  all_goals first
   | (refine Qb (I _ (by omega)) ?_;unfold sX tR;simp only[*];simp;done)
   | (refine V _ (by omega) λJ h=>Qb (I J (by omega)) ?_;unfold sX tR;simp only[*];simp;done)
theorem rm:∀(t:Ty)(d:D),t.Is d->t.cnt<=1073741824->EU 110 [.dg 2 d] t.cnt:=by
 refine Ty.ind λk l ih d hd hc N Q hQ=>?_;obtain⟨a,es,c,rfl,J,O⟩:=Ty.is_mk.1 hd;simp only[Ty.cnt]at hc;refine qQ N _ Q λ_=>⟨_,_,_,rfl,?_⟩
 refine up O J (λi xs=>∀(m:Nat) (N':Nat),N<=N'->m+yM xs=1+yM l->yB Q N m a es c es.length i N') ?_ ?_ 1 N (oJ _) rfl
 ·intro i U _ m N' V Y;refine wV ?_;simp only[yM]at Y
  repeat' first|with_reducible intro _|simp only[U,Y1,Y2,Y3,Y4]|with_reducible refine X ?_ ?_|refine⟨_,_,_,rfl,?_⟩|refine⟨_,rfl,?_⟩|refine X0 ?_|fail
  exact Qi (hQ _ (by omega)) (by simp only[Ty.cnt];omega)
 ·intro i x xs I _ Z m N' V Y;have hb:=I.b;have aa:=xm I.m;simp only[yM]at Y;refine wV ?_
  repeat' first|with_reducible intro _|simp only[I.lt,I.w,oX,Y1,Y2,Y3,Y4]|with_reducible refine X ?_ ?_|refine⟨_,_,_,rfl,?_⟩|refine⟨_,rfl,?_⟩|refine X0 ?_|refine(ih x I.m _ I.r (by omega)) _ _ ?_|fail
  rw[i64_in _ (by omega)];exact Z (m+x.cnt) _ (by omega) (by omega)
theorem sM:∀(t:Ty)(d:D),t.Is d->t.cnt<=1073741824->EU 111 [.dg 2 d] t.dep:=by
 refine Ty.ind λk l ih d hd hc N Q hQ=>?_;obtain⟨a,es,c,rfl,J,O⟩:=Ty.is_mk.1 hd;simp only[Ty.cnt]at hc;have aa:=tC l;refine rG N _ Q λ_=>⟨_,_,_,rfl,?_⟩
 refine up O J (λi xs=>∀(m:Nat) (N':Nat),N<=N'->max m (wy xs)=wy l->zr Q N m a es c es.length i N') ?_ ?_ 0 N (oJ _) (by omega)
 ·intro i U _ m N' V Y;refine wD ?_;simp only[wy]at Y
  repeat' first|with_reducible intro _|simp only[U,Y1,Y2,Y3,Y4]|with_reducible refine X ?_ ?_|refine⟨_,_,_,rfl,?_⟩|refine⟨_,rfl,?_⟩|refine X0 ?_|fail
  rw[i64_in _ (by omega)];exact Qi (hQ _ (by omega)) (by simp only[Ty.dep];omega)
 ·intro i x xs I _ Z m N' V Y;have hb:=I.b;have ab:=xm I.m;simp only[wy]at Y;refine wD ?_
  repeat' first|with_reducible intro _|simp only[I.lt,I.w,oX,Y1,Y2,Y3,Y4]|with_reducible refine X ?_ ?_|refine⟨_,_,_,rfl,?_⟩|refine⟨_,rfl,?_⟩|refine X0 ?_|refine(ih x I.m _ I.r (by omega)) _ _ ?_|fail
  have e:(if(x.dep:Int)>(m:Int)then(x.dep:Int)else(m:Int))=((max m x.dep:Nat):Int):=by split<;>omega
  rw[e];exact Z _ _ (by omega) (by omega)
theorem po (t:Ty)(d:D)(hd:t.Is d):tH 113 [.dg 2 d] (BJ t.k t.as.length):=λN Q J=>by
 cases t with
 | mk k l=>
 obtain⟨a,es,c,rfl,U,O⟩:=Ty.is_mk.1 hd;have hl:=O.len;simp only[Ty.k,Ty.as]at J;refine tK N _ Q λ_=>?_;cases I:inB k 1 4 with
 | false=>
   repeat' first|with_reducible intro _|simp only[I,Y1,Y2,Y3,Y4]|with_reducible refine X ?_ ?_|refine⟨_,_,_,rfl,?_⟩|refine⟨_,rfl,?_⟩|refine X0 ?_|refine(xP _ _ _) _ _ ?_|fail
   refine Qb (J _ (by omega)) ?_;have:¬(1<=k/\k<=4):=λh=>by rw[vS.2 h]at I;cases I
   unfold BJ;rw[if_neg (by omega),if_neg (by omega),if_neg (by omega)]
 | true=>
   have hb:=vS.1 I;have w0:IntKind.i64.wrap 0=0:=rfl;have V:IntKind.i64.wrap 1=1:=rfl;have w2:IntKind.i64.wrap 2=2:=rfl;have w3:IntKind.i64.wrap 3=3:=rfl;have Y:k=1\/k=2\/k=3\/k=4:=by omega
   rcases Y with rfl | rfl | rfl | rfl
   all_goals
    repeat' first|with_reducible intro _|simp only[I,w0,V,w2,w3,Y1,Y2,Y3,Y4]|with_reducible refine X ?_ ?_|refine⟨_,_,_,rfl,?_⟩|refine⟨_,rfl,?_⟩|refine X0 ?_|refine(xP _ _ _) _ _ ?_|fail
    refine Qb (J _ (by omega)) ?_;simp[BJ,hl]
theorem As:∀ l:List Ty,w8 l=!(l.any λx=>!x.form)
 | []=>rfl
 | t::ts=>by simp only[w8,List.any_cons,As ts];cases t.form<;>simp
theorem pm {p:Ty->Bool} {l:List Ty} {es:List D} (h:All2 Ty.Is l es) (U:es.length<=4611686018427387904) (ad:Addr) (hp:∀ x∈l,∀ d,x.Is d->tH 137 [.dg 2 d,.pd ad 0 (.fn 113 [])] (p x)) (a:Option Addr) (c:Nat) :
  tH 136 [.sv a 2 es c,.fn 137 [.pd ad 0 (.fn 113 [])]] (l.any p):=λN Q V=>by
 have hi:EU 153 [.sv a 2 es c,.fn 137 [.pd ad 0 (.fn 113 [])]] (Gi p l 0):=λN Q V=>by
  refine wh N a es c ad Q λ_=>?_;refine up h U (λi xs=>∀(N':Nat),N<=N'->(∀ O,N'<=O->Q (Gi p xs i) O)->zY Q N a es c ad es.length i N') ?_ ?_ N (oJ _) V
  ·intro i Y _ N' Z I;refine yZ ?_
   repeat' first|with_reducible intro _|simp only[Y,Y1,Y2,Y3,Y4]|with_reducible refine X ?_ ?_|refine⟨_,_,_,rfl,?_⟩|refine⟨_,rfl,?_⟩|refine X0 ?_|fail
   exact I _ (by omega)
  ·intro i x xs J _ aa N' Z I;have hb:=J.b;simp only[Gi]at I;refine yZ ?_
   repeat' first|with_reducible intro _|simp only[J.lt,J.w,oX,Y1,Y2,Y3,Y4]|with_reducible refine X ?_ ?_|refine⟨_,_,_,rfl,?_⟩|refine⟨_,rfl,?_⟩|refine X0 ?_|refine(hp x J.m _ J.r) _ _ ?_|fail
   ·exact Qi (I _ (by omega)) (by rw[if_pos (by assumption)])
   ·rename_i h;exact aa _ (by omega) λO h2=>Qi (I _ (by omega)) (by rw[h];simp)
 refine wC N a es c ad Q λ_=>?_
 repeat' first|with_reducible intro _|simp only[Y1,Y2,Y3,Y4]|with_reducible refine X ?_ ?_|refine⟨_,_,_,rfl,?_⟩|refine⟨_,rfl,?_⟩|refine X0 ?_|refine hi _ _ ?_|fail
 exact Qb (V _ (by omega)) (pL _ l 0 (by omega)).symm
theorem GU:∀(t:Ty)(d:D),t.Is d->tH 112 [.dg 2 d,.fn 113 []] t.form:=by
 refine Ty.ind λk l V d hd N Q I=>?_;have O:=hd;obtain⟨a,es,c,rfl,J,U⟩:=Ty.is_mk.1 hd;refine rL N _ Q λ_=>?_;simp only[Ty.form,As]at I
 repeat' first|with_reducible intro _|simp only[Y1,Y2,Y3,Y4]|with_reducible refine X ?_ ?_|refine⟨_,_,_,rfl,?_⟩|refine⟨_,rfl,?_⟩|refine X0 ?_|refine(po _ _ O) _ _ ?_|refine(pm U J _ (λx Y d hd=>λN Q I=>tM N d _ Q λ_ N1 Z=>V x Y d hd N1 _ λN2 aa ab N3 ac=>I N3 (by omega)) _ _) _ _ ?_|fail
 ·have h:BJ (Ty.mk k l).k (Ty.mk k l).as.length=true:=by assumption
  exact Qb (I _ (by omega)) (by simp only[Ty.k,Ty.as]at h;rw[h,Bool.and_true])
 ·rename_i h _ _;exact Qb (I _ (by omega)) (by simp only[Ty.k,Ty.as]at h;rw[h,Bool.and_false])
theorem xO (t:Ty)(d:D)(hd:t.Is d)(hc:t.cnt<=1073741824):tH 77 [.dg 2 d] t.valid:=λN Q I=>by
 refine rI N _ Q λ_=>?_
 repeat' first|with_reducible intro _|simp only[Y1,Y2,Y3,Y4]|with_reducible refine X ?_ ?_|refine⟨_,_,_,rfl,?_⟩|refine⟨_,rfl,?_⟩|refine X0 ?_|refine(rm t d hd hc) _ _ ?_|refine(sM t d hd hc) _ _ ?_|refine(GU t d hd) _ _ ?_|fail
 ·refine Qb (I _ (by omega)) ?_;have J:t.cnt<=30:=by omega
  have O:t.dep<=8:=by omega
  simp[Ty.valid, *]
 ·refine Qb (I _ (by omega)) ?_;have O:¬t.dep<=8:=by omega
  simp[Ty.valid, *]
 ·refine Qb (I _ (by omega)) ?_;have J:¬t.cnt<=30:=by omega
  simp[Ty.valid, *]
theorem zl:∀(t u:Ty)(d e:D),t.Is d->u.Is e->tH 26 [.dg 2 d,.dg 2 e] (HA t u):=by
 refine Ty.ind λk l ih u d e hd he N Q Y=>?_;cases u with
 | mk k' l'=>
 obtain⟨a,es,c,rfl,Z,aa⟩:=Ty.is_mk.1 hd;obtain⟨a',V,c',rfl,ac,U⟩:=Ty.is_mk.1 he;have hl:=aa.len;have ak:=U.len;simp only[HA]at Y;have hf:tH 59 [.sv a 2 es c,.sv a' 2 V c',.fn 26 []] (tl l l'):=λN Q Y=>by
  have key:l.length=l'.length->∀(N':Nat),N<=N'->(∀ I,N'<=I->Q (tl l (l'.drop 0)) I)->zJ Q N a' V c' a es c es.length (0:Nat) N':=by
   intro al;refine up aa Z (λi xs=>∀(N':Nat),N<=N'->(∀ I,N'<=I->Q (tl xs (l'.drop i)) I)->zJ Q N a' V c' a es c es.length i N') ?_ ?_
   ·intro i ae hi N' ah J;refine yX ?_
    repeat' first|with_reducible intro _|simp only[ae,Y1,Y2,Y3,Y4]|with_reducible refine X ?_ ?_|refine⟨_,_,_,rfl,?_⟩|refine⟨_,rfl,?_⟩|refine X0 ?_|fail
    refine Qb (J _ (by assumption)) ?_;rw[mS (by omega)];rfl
   ·intro i x xs O _ ai N' ah J;have hb:=O.b;have ab:i<l'.length:=by omega
    have hg:l'[i]?=some l'[i]:=oF ab;have aj:l'.drop i=l'[i]::l'.drop (i+1):=List.drop_eq_getElem_cons ab;refine yX ?_;rw[aj]at J
    repeat' first|with_reducible intro _|simp only[O.lt,O.w,oX,Y1,Y2,Y3,Y4]|with_reducible refine X ?_ ?_|refine⟨_,_,_,rfl,?_⟩|refine⟨_,rfl,?_⟩|refine X0 ?_|refine(ih x O.m _ _ _ O.r (U.get hg)) _ _ ?_|fail
    ·exact Qb (J _ (by omega)) (by simp[tl, *])
    ·exact ai _ (by omega) λI h=>Qb (J I (by omega)) (by simp[tl, *])
  refine we N _ _ _ _ _ _ Q λ_ _=>?_
  repeat' first|with_reducible intro _|simp only[Y1,Y2,Y3,Y4]|with_reducible refine X ?_ ?_|refine⟨_,_,_,rfl,?_⟩|refine⟨_,rfl,?_⟩|refine X0 ?_|fail
  ·exact Qb (Y _ (by assumption)) (EI (by omega))
  ·exact key (by omega) N (oJ _) Y
 refine qw N _ _ Q λ_ _=>?_
 repeat' first|with_reducible intro _|simp only[Y1,Y2,Y3,Y4]|with_reducible refine X ?_ ?_|refine⟨_,_,_,rfl,?_⟩|refine⟨_,rfl,?_⟩|refine X0 ?_|refine hf _ _ ?_|fail
 ·exact Qb (Y _ (by omega)) (by simp[*])
 ·exact Qb (Y _ (by omega)) (by simp[*])
theorem tS (s:ByteArray):EU 116 [.str s] (rW s):=λN Q I=>by
 refine BO N s Q ?_
 repeat' first|with_reducible intro _|simp only[Y1,Y2,Y3,Y4]|with_reducible refine X ?_ ?_|refine⟨_,_,_,rfl,?_⟩|refine⟨_,rfl,?_⟩|refine X0 ?_|fail
 all_goals(refine Qi (I _ (by assumption)) ?_;unfold rW;(repeat' split)<;>first | rfl | contradiction)
def arI (k:Int)(nm:ByteArray):Int:=
 if k=4 then rW nm else if k=5 then 3 else if k=7\/k=8 then 2 else if k=6\/k=9\/k=10\/k=11\/k=12\/k=13 then 1 else 0
theorem qV {k n:Int}{nm ot:ByteArray}{t0 t1 r0 r1 x:D}:EU 81 [.dg 9 (.ag [.j k,.t nm,.t ot,.j n,t0,t1,r0,r1,x])] (arI k nm):=λN Q I=>by
 refine EJ N _ Q λ_=>?_
 repeat' first|with_reducible intro _|simp only[Y1,Y2,Y3,Y4]|with_reducible refine X ?_ ?_|refine⟨_,_,_,rfl,?_⟩|refine⟨_,rfl,?_⟩|refine X0 ?_|refine(tS _) _ _ ?_|fail
 all_goals(refine Qi (I _ (by omega)) ?_;simp[arI, *])
theorem pp (n:Int):tH 130 [.j n] (inB n 0 10006):=λN Q I=>by
 refine Az N n Q ?_
 repeat' first|with_reducible intro _|simp only[Y1,Y2,Y3,Y4]|with_reducible refine X ?_ ?_|refine⟨_,_,_,rfl,?_⟩|refine⟨_,rfl,?_⟩|refine X0 ?_|refine(xP _ _ _) _ _ ?_|fail
 exact I _ (by omega)
def Bj (k:Int)(nm ot:ByteArray)(n:Int)(ty re:Ty):Bool:=
 if k=1\/k=8 then xf nm else if k=2 then inB n 0 10006 else if k=3 then inB n 0 1 else if k=4 then decide (rW nm>0)
 else if k=6 then xf nm&&ty.valid else if k=9 then xf nm&&(xf ot&&(!decide (nm=ot)&&(ty.valid&&re.valid)))else inB k 1 13
theorem BD {k n:Int} {nm ot:ByteArray} {ty re:Ty} {t0 t1 r0 r1 x:D} (h:Tm.Hd nm ot ty re t0 t1 r0 r1) (hc:ty.cnt<=1073741824) (I:re.cnt<=1073741824) :
  tH 98 [.dg 9 (.ag [.j k,.t nm,.t ot,.j n,t0,t1,r0,r1,x])] (Bj k nm ot n ty re):=λN Q J=>by
 refine BP N _ Q λ_=>?_
 repeat' first|with_reducible intro _|simp only[Y1,Y2,Y3,Y4]|with_reducible refine X ?_ ?_|refine⟨_,_,_,rfl,?_⟩|refine⟨_,rfl,?_⟩|refine X0 ?_|refine(tS _) _ _ ?_|refine(sN _ h.nm) _ _ ?_|refine(sN _ h.ot) _ _ ?_|refine(pp _) _ _ ?_|refine(xP _ _ _) _ _ ?_|refine(xO _ _ h.ty hc) _ _ ?_|refine(xO _ _ h.re I) _ _ ?_|fail
 all_goals(refine Qb (J _ (by omega)) ?_;simp[Bj, *])
theorem EF (t:Ty):HA t t=true:=(Ct t t).2 rfl
def Gc (k:Int)(nm ot:ByteArray)(n:Int)(ty re:Ty)(m:Int):Bool:=
 decide (m=arI k nm)&&(Bj k nm ot n ty re&&((decide (k=1\/k=8\/k=4\/k=6\/k=9)||decide (nm=bytes []))&&((decide (k=9)||decide (ot=bytes []))&&((decide (k=2\/k=3)||decide (n=0)) &&
  ((decide (k=6\/k=9)||HA ty tZero)&&(decide (k=9)||HA re tZero))))))
theorem BC {k n:Int} {nm ot:ByteArray} {ty re:Ty} {t0 t1 r0 r1:D} {a:Option Addr} {es:List D} {c:Nat} (h:Tm.Hd nm ot ty re t0 t1 r0 r1) (hc:ty.cnt<=1073741824) (I:re.cnt<=1073741824) :
  tH 61 [.dg 9 (.ag [.j k,.t nm,.t ot,.j n,t0,t1,r0,r1,.sl a 9 es c])] (Gc k nm ot n ty re es.length):=λN Q J=>by
 refine C0 N _ Q λ_=>?_
 repeat' first|with_reducible intro _|simp only[Y1,Y2,Y3,Y4]|with_reducible refine X ?_ ?_|refine⟨_,_,_,rfl,?_⟩|refine⟨_,rfl,?_⟩|refine X0 ?_|refine qV _ _ ?_|refine(BD h hc I) _ _ ?_|refine(zl ty tZero _ _ h.ty I1) _ _ ?_|refine(zl re tZero _ _ h.re I1) _ _ ?_|refine(zl ty ty _ _ h.ty h.ty) _ _ ?_|refine(zl re re _ _ h.re h.re) _ _ ?_|fail
 all_goals first | (exfalso;omega) | (refine Qb (J _ (by omega)) ?_;simp[Gc,EF, *];done) | (refine Qb (J _ (by omega)) ?_;simp_all[Gc,EF];done)
theorem L6 (t:Ty):HA t tZero=t.zero:=by
 cases t with
 | mk k l => cases l<;>simp[HA,tZero,tl,Ty.zero,Ty.k,Ty.as]
             try omega
theorem G9 {t:Ty}(h:t.zero=true):t.valid=false:=by
 cases t with
 | mk k l=>simp only[Ty.zero,Ty.k,Ty.as,oL,mH]at h;simp[Ty.valid,Ty.form,BJ,h.1]
theorem OY (n:Int):inB n 0 0=decide (n=0):=by rw[mb,vS,mc];omega
theorem zp (t:Ty)(b:Bool):(!t.valid&&(t.zero&&b))=(t.zero&&b):=by
 cases h:t.zero with
 | false=>simp
 | true=>rw[G9 h];simp
theorem Jd (k:Int)(nm ot:ByteArray)(n:Int)(ty re:Ty)(m:Int)(hm:0<=m):Gc k nm ot n ty re m=(zw k nm ot n ty re&&m==DK k nm):=by
 by_cases V:k=1\/k=2\/k=3\/k=4\/k=5\/k=6\/k=7\/k=8\/k=9\/k=10\/k=11\/k=12\/k=13
 ·rw[Nh m];have b5:inB 5 1 13=true:=rfl;have Y:inB 7 1 13=true:=rfl;have I:inB 10 1 13=true:=rfl;have J:inB 11 1 13=true:=rfl;have O:inB 12 1 13=true:=rfl;have U:inB 13 1 13=true:=rfl;rcases V with rfl | rfl | rfl | rfl | rfl | rfl | rfl | rfl | rfl | rfl | rfl | rfl | rfl
  all_goals
   simp[Gc,arI,Bj,zw,qf,yT,DK,L6,OY,zp,b5,Y,I,J,O,U]
   try(rw[mb];simp[and_comm,and_left_comm,and_assoc])
 ·have Z:DK k nm = -1:=by unfold DK;rw[if_neg (by omega),if_neg (by omega),if_neg (by omega),if_neg (by omega),if_neg (by omega)]
  have h2:inB k 1 13=false:=by
   cases h:inB k 1 13 with
   | false=>rfl
   | true=>have:=vS.1 h;omega
  have h3:Bj k nm ot n ty re=false:=by unfold Bj;rw[if_neg (by omega),if_neg (by omega),if_neg (by omega),if_neg (by omega),if_neg (by omega),if_neg (by omega),h2]
  have h4:(m==DK k nm)=false:=by rw[Z,Nh];exact nV (by omega)
  rw[h4,Gc,h3];simp
theorem JM {k n:Int} {nm ot:ByteArray} {ty re:Ty} {t0 t1 r0 r1:D} {a:Option Addr} {es:List D} {c:Nat} (h:Tm.Hd nm ot ty re t0 t1 r0 r1) (hc:ty.cnt<=1073741824) (I:re.cnt<=1073741824) :
  tH 61 [.dg 9 (.ag [.j k,.t nm,.t ot,.j n,t0,t1,r0,r1,.sl a 9 es c])] (zw k nm ot n ty re&&(es.length:Int)==DK k nm):=by
 rw[<-Jd _ _ _ _ _ _ _ (by omega)];exact BC h hc I
theorem EA:∀ l:List Tm,BL l=!(l.any λx=>!x.ok)
 | []=>rfl
 | t::ts=>by simp only[BL,List.any_cons,EA ts];cases t.ok<;>simp
theorem pj {p:Tm->Bool} {l:List Tm} {es:List D} (h:All2 Tm.Is l es) (U:es.length<=4611686018427387904) (ad:Addr) (hp:∀ x∈l,∀ d,x.Is d->tH 97 [.dg 9 d,.pd ad 0 (.fn 61 [])] (p x)) (a:Option Addr) (c:Nat) :
  tH 96 [.sv a 9 es c,.fn 97 [.pd ad 0 (.fn 61 [])]] (l.any p):=λN Q V=>by
 have hi:EU 128 [.sv a 9 es c,.fn 97 [.pd ad 0 (.fn 61 [])]] (Gi p l 0):=λN Q V=>by
  refine wg N a es c ad Q λ_=>?_;refine up h U (λi xs=>∀(N':Nat),N<=N'->(∀ O,N'<=O->Q (Gi p xs i) O)->zX Q N a es c ad es.length i N') ?_ ?_ N (oJ _) V
  ·intro i Y _ N' Z I;refine yY ?_
   repeat' first|with_reducible intro _|simp only[Y,Y1,Y2,Y3,Y4]|with_reducible refine X ?_ ?_|refine⟨_,_,_,rfl,?_⟩|refine⟨_,rfl,?_⟩|refine X0 ?_|fail
   exact I _ (by omega)
  ·intro i x xs J _ aa N' Z I;have hb:=J.b;simp only[Gi]at I;refine yY ?_
   repeat' first|with_reducible intro _|simp only[J.lt,J.w,oX,Y1,Y2,Y3,Y4]|with_reducible refine X ?_ ?_|refine⟨_,_,_,rfl,?_⟩|refine⟨_,rfl,?_⟩|refine X0 ?_|refine(hp x J.m _ J.r) _ _ ?_|fail
   ·exact Qi (I _ (by omega)) (by rw[if_pos (by assumption)])
   ·rename_i h;exact aa _ (by omega) λO h2=>Qi (I _ (by omega)) (by rw[h];simp)
 refine wB N a es c ad Q λ_=>?_
 repeat' first|with_reducible intro _|simp only[Y1,Y2,Y3,Y4]|with_reducible refine X ?_ ?_|refine⟨_,_,_,rfl,?_⟩|refine⟨_,rfl,?_⟩|refine X0 ?_|refine hi _ _ ?_|fail
 exact Qb (V _ (by omega)) (pL _ l 0 (by omega)).symm
theorem GT:∀(t:Tm)(d:D),t.Is d->t.G->tH 60 [.dg 9 d,.fn 61 []] t.ok:=by
 refine Tm.ind λk nm ot n ty re l V d hd hc N Q I=>?_;obtain⟨t0,t1,r0,r1,a,es,c,rfl,Y,J,O⟩:=Tm.is_mk.1 hd;have hl:=O.len;obtain⟨g1,g2,_,g4⟩:=hc;refine rK N _ Q λ_=>?_;simp only[Tm.ok,EA,<-hl]at I
 repeat' first|with_reducible intro _|simp only[Y1,Y2,Y3,Y4]|with_reducible refine X ?_ ?_|refine⟨_,_,_,rfl,?_⟩|refine⟨_,rfl,?_⟩|refine X0 ?_|refine(JM Y (by omega) (by omega)) _ _ ?_|refine(pj O J _ (λx U d hd=>λN Q I=>tL N d _ Q λ_ N1 Z=>V x U d hd (Cp g4 U) N1 _ λN2 aa ab N3 ac=>I N3 (by omega)) _ _) _ _ ?_|fail
 ·have h:(zw k nm ot n ty re&&(es.length:Int)==DK k nm)=true:=by assumption
  exact Qb (I _ (by omega)) (by rw[h,Bool.and_true])
 ·have h:(zw k nm ot n ty re&&(es.length:Int)==DK k nm)=false:=by assumption
  exact Qb (I _ (by omega)) (by rw[h,Bool.and_false])
theorem BB (t:Tm)(d:D)(hd:t.Is d)(hc:t.G):tH 28 [.dg 9 d] t.ok:=λN Q I=>by
 refine Cy N _ Q λ_=>?_
 repeat' first|with_reducible intro _|simp only[Y1,Y2,Y3,Y4]|with_reducible refine X ?_ ?_|refine⟨_,_,_,rfl,?_⟩|refine⟨_,rfl,?_⟩|refine X0 ?_|refine(GT t d hd hc) _ _ ?_|fail
 exact I _ (by omega)
theorem sO (t:Tm)(d:D)(hd:t.Is d)(hc:t.cnt<=1073741824):tH 28 [.dg 9 d] t.ok:=BB t d hd (Tm.G_cnt t hc)
theorem K8:∀(t:Ty)(d:D),t.Is d->t.cnt<=1073741824->KW 154 [.dg 2 d] t:=by
 refine Ty.ind λk l ih d hd hc N Q hQ=>?_;obtain⟨a,es,c,rfl,V,Y⟩:=Ty.is_mk.1 hd;have hl:=Y.len;simp only[Ty.cnt]at hc;have aj:=tn l;refine Ay N _ Q λ_=>⟨_,rfl,_,_,_,rfl,?_⟩
 have key:=up Y V (λi xs=>∀(N':Nat),N<=N'->(i=0->xg Q N a es c es.length i 0 none [] 0 k none [] 0 N')/\∀(m q:Nat) (r:List D),m=r.length->All2 Ty.Is (l.take i) r->OwnL N N' r ->
  zt Q N a es c es.length i 0 none [] 0 k m q r q N') ?_ ?_
 ·exact(key N (oJ _)).1 rfl
 ·intro i Z hi N' ae;refine⟨λh0=>vJ ?_,λm q r hm U ho=>wE ?_⟩
  ·repeat' first|with_reducible intro _|simp only[Z,Y1,Y2,Y3,Y4]|with_reducible refine X ?_ ?_|refine⟨_,_,_,rfl,?_⟩|refine⟨_,rfl,?_⟩|refine X0 ?_|fail
   have:l=[]:=oV (by omega);subst this;exact hQ _ _ (by omega) (vG _) qF
  ·repeat' first|with_reducible intro _|simp only[Z,Y1,Y2,Y3,Y4]|with_reducible refine X ?_ ?_|refine⟨_,_,_,rfl,?_⟩|refine⟨_,rfl,?_⟩|refine X0 ?_|fail
   rename_i a' N3 J hf N4 ah;rw[nT (by omega)]at U;exact hQ _ _ (by omega) (Ty.is_mk.2 ⟨_,_,_,rfl,by have:=U.len;omega,U⟩) (Fu (pO (xV ((Fv ho hf (by omega)).mono (oJ _) ah))))
 ·intro i x xs I _ aa N' ae;have hb:=I.b;have ak:=xm I.m;refine⟨λh0=>vJ ?_,λm q r hm U ho=>wE ?_⟩
  ·repeat' first|with_reducible intro _|simp only[I.lt,I.w,oX,Y1,Y2,Y3,Y4]|with_reducible refine X ?_ ?_|refine⟨_,_,_,rfl,?_⟩|refine⟨_,rfl,?_⟩|refine X0 ?_|refine(ih x I.m _ I.r (by omega)) _ _ ?_|fail
   rename_i N2 ab d' N3 J hx O ai ac;subst h0;exact⟨by unfold zA;simp,λc2=>(aa _ (by omega)).2 _ _ _ rfl (by rw[Co I.g];exact⟨_,_,rfl,hx,rfl⟩) (xV (O.mono (by omega) (oJ _)))⟩
  ·repeat' first|with_reducible intro _|simp only[I.lt,I.w,oX,Y1,Y2,Y3,Y4]|with_reducible refine X ?_ ?_|refine⟨_,_,_,rfl,?_⟩|refine⟨_,rfl,?_⟩|refine X0 ?_|refine(ih x I.m _ I.r (by omega)) _ _ ?_|fail
   rename_i N2 ab d' N3 J hx O ai ac;have al:=U.len;have ao:(l.take i).length=i:=by rw[nW];omega
   refine⟨by unfold zA;simp only[oH,List.length_singleton];omega,λc2=>?_⟩;exact(aa _ (by omega)).2 _ _ _ rfl (by rw[Co I.g];exact U.snoc hx) (ti (ho.mono (oJ _) ab) (xV O) (by omega) J)
theorem LA:KW 139 [] tInt:=λN Q J=>EN N Q λN' I=>J _ _ I (vG _) qF
theorem JO:KW 140 [] tBool:=λN Q J=>C1 N Q λN' I=>J _ _ I (vG _) qF
theorem K9 (t u:Ty)(d e:D)(hd:t.Is d)(Z:u.Is e)(I:t.cnt<=1073741824)(J:u.cnt<=1073741824):KW 141 [.dg 2 d,.dg 2 e] (B5 t u):=λN Q hQ=>by
 refine EM N _ _ Q λ_ _=>?_
 repeat' first|with_reducible intro _|simp only[Y1,Y2,Y3,Y4]|with_reducible refine X ?_ ?_|refine⟨_,_,_,rfl,?_⟩|refine⟨_,rfl,?_⟩|refine X0 ?_|refine(K8 t d hd I) _ _ ?_|refine(K8 u e Z J) _ _ ?_|fail
 rename_i N1 O d1 N2 aa h1 o1 ab b1 N3 U d2 N4 V h2 o2 ac b2 a' N5 ae hf N6 Y;exact hQ _ _ (by omega) (Ty.is_mk.2 ⟨_,_,_,rfl,by simp,_,_,rfl,h1,_,_,rfl,h2,rfl⟩)
  (Fu (pO (xV ((Fv (ti ((xV o1).mono O U) (xV o2) (by omega) V) hf (by omega)).mono (oJ _) Y))))
theorem JP (t:Ty)(d:D)(hd:t.Is d)(I:t.cnt<=1073741824):KW 142 [.dg 2 d] (vK t):=λN Q U=>by
 refine C2 N _ Q λ_=>?_
 repeat' first|with_reducible intro _|simp only[Y1,Y2,Y3,Y4]|with_reducible refine X ?_ ?_|refine⟨_,_,_,rfl,?_⟩|refine⟨_,rfl,?_⟩|refine X0 ?_|refine(K8 t d hd I) _ _ ?_|fail
 rename_i N1 J d1 N2 V Y Z aa b1 a' N5 ab hf N6 O;exact U _ _ (by omega) (Ty.is_mk.2 ⟨_,_,_,rfl,by simp,_,_,rfl,Y,rfl⟩)
  (Fu (pO (xV ((Fv ((xV Z).mono J (oJ _)) hf (by omega)).mono (oJ _) O))))
mutual
def Tm.sz:Tm->Nat
 | .mk _ _ _ _ _ _ l=>1+wJ l
def wJ:List Tm->Nat
 | []=>0
 | t::ts=>t.sz+wJ ts
end
mutual
theorem Tm.sz_cnt:∀ t:Tm,t.sz<=t.cnt
 | .mk _ _ _ _ ty re l=>by simp only[Tm.sz,Tm.cnt];have:=Ak l;omega
theorem Ak:∀ l:List Tm,wJ l<=xZ l
 | []=>oJ _
 | t::ts=>by simp only[wJ,xZ];have:=t.sz_cnt;have:=Ak ts;omega
end
def NY (k:Int):Bool:=inB k 1 5||k==8
mutual
def Tm.isB:Tm->Bool
 | .mk k _ _ _ _ _ l=>OT l&&NY k
def OT:List Tm->Bool
 | []=>true
 | t::ts=>t.isB&&OT ts
end
def Tm.vd (t:Tm):Bool:=decide (t.sz<=80)&&decide (t.dp<=20)&&t.ok
theorem sU:∀(t:Tm)(d:D),t.Is d->∀ n:Int,0<=n->n<=1000->EU 23 [.dg 9 d,.j n] (if(t.sz:Int)<=n then n - t.sz else -1):=by
 refine Tm.ind λk nm ot n0 ty re l ih d hd n ac ae N Q hQ=>?_;obtain⟨t0,t1,r0,r1,a,es,c,rfl,hh,V,Y⟩:=Tm.is_mk.1 hd;refine DC N _ n Q λ_=>?_;have key:=up Y V (λi xs=>∀(m:Int) (N':Nat),N<=N' -> -1<=m->m<=1000->(∀ J,N'<=J->Q (if m<0 then -1 else if(wJ xs:Int)<=m then m - wJ xs else -1) J) ->
  xL Q N m i (.ag [.j k,.t nm,.t ot,.j n0,t0,t1,r0,r1,.sl a 9 es c]) N') ?_ ?_
 ·rw[i64_in _ (by omega)];refine key (n - 1) N (oJ _) (by omega) (by omega) λN' U=>Qi (hQ N' U) ?_;simp only[Tm.sz]
  (repeat' split)<;>omega
 ·intro i Z _ m N' U h1 h2 O;refine uT ?_
  repeat' first|with_reducible intro _|simp only[Z,Y1,Y2,Y3,Y4]|with_reducible refine X ?_ ?_|refine⟨_,_,_,rfl,?_⟩|refine⟨_,rfl,?_⟩|refine X0 ?_|fail
  refine Qi (O _ (by assumption)) ?_;simp only[wJ]
  (repeat' split)<;>omega
 ·intro i x xs I _ aa m N' U h1 h2 O;have hb:=I.b;refine uT ?_
  repeat' first|with_reducible intro _|simp only[I.lt,I.w,oX,Y1,Y2,Y3,Y4]|with_reducible refine X ?_ ?_|refine⟨_,_,_,rfl,?_⟩|refine⟨_,rfl,?_⟩|refine X0 ?_|refine(ih x I.m _ I.r m (by omega) (by omega)) _ _ ?_|fail
  ·refine aa _ _ (by omega) (by split<;>omega) (by split<;>omega) λJ ab=>Qi (O J (by omega)) ?_;simp only[wJ]
   (repeat' split)<;>omega
  ·refine Qi (O _ (by assumption)) ?_;rw[if_pos (by omega)];omega
theorem BE:∀(t:Tm)(d:D),t.Is d->t.cnt<=1073741824->EU 24 [.dg 9 d] t.dp:=by
 refine Tm.ind λk nm ot n0 ty re l ih d hd hc N Q hQ=>?_;obtain⟨t0,t1,r0,r1,a,es,c,rfl,hh,J,U⟩:=Tm.is_mk.1 hd;refine BQ N _ Q λ_=>?_;simp only[Tm.cnt]at hc;have aa:=rC l;have key:=up U J (λi xs=>∀(m:Nat) (N':Nat),N<=N'->max m (s9 xs)=s9 l->ye Q N (m:Int) i (.ag [.j k,.t nm,.t ot,.j n0,t0,t1,r0,r1,.sl a 9 es c]) N') ?_ ?_
 ·exact key 0 N (oJ _) (by omega)
 ·intro i V _ m N' O Y;simp only[s9]at Y;refine vh ?_
  repeat' first|with_reducible intro _|simp only[V,Y1,Y2,Y3,Y4]|with_reducible refine X ?_ ?_|refine⟨_,_,_,rfl,?_⟩|refine⟨_,rfl,?_⟩|refine X0 ?_|fail
  rw[i64_in _ (by omega)];refine Qi (hQ _ (o8 O (by assumption))) ?_;simp only[Tm.dp];omega
 ·intro i x xs I _ Z m N' O Y;have hb:=I.b;have ab:=va I.m;simp only[s9]at Y;refine vh ?_
  repeat' first|with_reducible intro _|simp only[I.lt,I.w,oX,Y1,Y2,Y3,Y4]|with_reducible refine X ?_ ?_|refine⟨_,_,_,rfl,?_⟩|refine⟨_,rfl,?_⟩|refine X0 ?_|refine(ih x I.m _ I.r (by omega)) _ _ ?_|refine(qW _ _) _ _ ?_|fail
  have e:max (m:Int) (x.dp:Int)=((max m x.dp:Nat):Int):=by omega
  rw[e];exact Z _ _ (by omega) (by omega)
theorem xQ (t:Tm)(d:D)(hd:t.Is d)(hc:t.cnt<=1073741824):tH 9 [.dg 9 d] t.vd:=λN Q I=>by
 refine rN N _ Q λ_=>?_;by_cases O:t.sz<=80
 ·have J:((t.sz:Int)<=80):=by omega
  repeat' first|with_reducible intro _|simp only[if_pos J,Y1,Y2,Y3,Y4]|with_reducible refine X ?_ ?_|refine⟨_,_,_,rfl,?_⟩|refine⟨_,rfl,?_⟩|refine X0 ?_|refine(sU t d hd _ (by omega) (by omega)) _ _ ?_|refine(BE t d hd hc) _ _ ?_|refine(sR t d hd hc) _ _ ?_|fail
  all_goals first | omega | skip
  ·have U:t.dp<=20:=by omega
   refine Qb (I _ (by omega)) ?_;simp[Tm.vd, *]
  ·have U:¬t.dp<=20:=by omega
   refine Qb (I _ (by omega)) ?_;simp[Tm.vd, *]
 ·have J:¬((t.sz:Int)<=80):=by omega
  repeat' first|with_reducible intro _|simp only[if_neg J,Y1,Y2,Y3,Y4]|with_reducible refine X ?_ ?_|refine⟨_,_,_,rfl,?_⟩|refine⟨_,rfl,?_⟩|refine X0 ?_|refine(sU t d hd _ (by omega) (by omega)) _ _ ?_|fail
  all_goals first | omega | skip
  refine Qb (I _ (by omega)) ?_;simp[Tm.vd, *]
theorem yz (l:List ByteArray):(zD l).length=l.length:=by simp[zD]
theorem CR:∀(t:Tm)(d:D),t.Is d->t.cnt<=1073741824->EU 37 [.dg 9 d] t.sz:=by
 refine Tm.ind λk nm ot n0 ty re l ih d hd hc N Q hQ=>?_;obtain⟨t0,t1,r0,r1,a,es,c,rfl,hh,J,O⟩:=Tm.is_mk.1 hd;simp only[Tm.cnt]at hc;have aa:=Ak l;refine Cz N _ Q λ_=>⟨_,_,_,rfl,?_⟩
 refine up O J (λi xs=>∀(m:Nat) (N':Nat),N<=N'->m+wJ xs=1+wJ l->xA Q N m a es c es.length i N') ?_ ?_ 1 N (oJ _) rfl
 ·intro i U _ m N' V Y;refine uJ ?_;simp only[wJ]at Y
  repeat' first|with_reducible intro _|simp only[U,Y1,Y2,Y3,Y4]|with_reducible refine X ?_ ?_|refine⟨_,_,_,rfl,?_⟩|refine⟨_,rfl,?_⟩|refine X0 ?_|fail
  exact Qi (hQ _ (by omega)) (by simp only[Tm.sz];omega)
 ·intro i x xs I _ Z m N' V Y;have hb:=I.b;have ab:=va I.m;simp only[wJ]at Y;refine uJ ?_
  repeat' first|with_reducible intro _|simp only[I.lt,I.w,oX,Y1,Y2,Y3,Y4]|with_reducible refine X ?_ ?_|refine⟨_,_,_,rfl,?_⟩|refine⟨_,rfl,?_⟩|refine X0 ?_|refine(ih x I.m _ I.r (by omega)) _ _ ?_|fail
  rw[i64_in _ (by omega)];exact Z (m+x.sz) _ (by omega) (by omega)
theorem BA:∀(t:Tm)(d:D),t.Is d->t.cnt<=1073741824->EU 38 [.dg 9 d] t.dp:=by
 refine Tm.ind λk nm ot n0 ty re l ih d hd hc N Q hQ=>?_;obtain⟨t0,t1,r0,r1,a,es,c,rfl,hh,J,O⟩:=Tm.is_mk.1 hd;simp only[Tm.cnt]at hc;have aa:=rC l;refine BN N _ Q λ_=>⟨_,_,_,rfl,?_⟩
 refine up O J (λi xs=>∀(m:Nat) (N':Nat),N<=N'->max m (s9 xs)=s9 l->yd Q N m a es c es.length i N') ?_ ?_ 0 N (oJ _) (by omega)
 ·intro i U _ m N' V Y;refine vg ?_;simp only[s9]at Y
  repeat' first|with_reducible intro _|simp only[U,Y1,Y2,Y3,Y4]|with_reducible refine X ?_ ?_|refine⟨_,_,_,rfl,?_⟩|refine⟨_,rfl,?_⟩|refine X0 ?_|fail
  rw[i64_in _ (by omega)];exact Qi (hQ _ (by omega)) (by simp only[Tm.dp];omega)
 ·intro i x xs I _ Z m N' V Y;have hb:=I.b;have ab:=va I.m;simp only[s9]at Y;refine vg ?_
  repeat' first|with_reducible intro _|simp only[I.lt,I.w,oX,Y1,Y2,Y3,Y4]|with_reducible refine X ?_ ?_|refine⟨_,_,_,rfl,?_⟩|refine⟨_,rfl,?_⟩|refine X0 ?_|refine(ih x I.m _ I.r (by omega)) _ _ ?_|fail
  have e:(if(x.dp:Int)>(m:Int)then(x.dp:Int)else(m:Int))=((max m x.dp:Nat):Int):=by split<;>omega
  rw[e];exact Z (max m x.dp) _ (by omega) (by omega)
theorem sP (t:Tm)(d:D)(hd:t.Is d)(hc:t.cnt<=1073741824):tH 18 [.dg 9 d] t.vd:=λN Q I=>by
 refine rH N _ Q λ_=>?_
 repeat' first|with_reducible intro _|simp only[Y1,Y2,Y3,Y4]|with_reducible refine X ?_ ?_|refine⟨_,_,_,rfl,?_⟩|refine⟨_,rfl,?_⟩|refine X0 ?_|refine(sO t d hd hc) _ _ ?_|refine(CR t d hd hc) _ _ ?_|refine(BA t d hd hc) _ _ ?_|fail
 ·have J:t.sz<=80:=by omega
  refine Qb (I _ (by omega)) ?_;have:decide ((t.dp:Int)<=20)=decide (t.dp<=20):=by rw[mb,mc,mc];omega
  simp[Tm.vd, *]
 ·have J:¬t.sz<=80:=by omega
  refine Qb (I _ (by omega)) ?_;simp[Tm.vd, *]
 ·refine Qb (I _ (by omega)) ?_;simp[Tm.vd, *]
inductive Wf:Ty->Prop
 | int:Wf tInt
 | bool:Wf tBool
 | fn {a b:Ty}:Wf a->Wf b->Wf (B5 a b)
 | code {a:Ty}:Wf a->Wf (vK a)
theorem FV {t:Tm}{d:D}(h:t.Is d):All2 Tm.Is [t] [d]:=⟨d,[],rfl,h,rfl⟩
instance decMem (s:ByteArray) (l:List ByteArray):Decidable (s∈l):=decidable_of_iff ((l.any fun x=>decide (x=s))=true) (by simp)
def dd:List ByteArray->List ByteArray->List ByteArray
 | out,[]=>out
 | out,s::l=>dd (if s∈out then out else out++[s]) l
def ND (k:Nat):ByteArray:=⟨(118::Lib.decDigits k).toArray⟩
theorem LH:∀(a b:Nat),Lib.decDigits a=Lib.decDigits b->a=b:=by
 intro a;have J:∀ u,(Lib.decDigits u).length=Lib.nDigits u:=Lib.decDigits_length;have e1:∀ u,u<10->Lib.decDigits u=[UInt8.ofNat (48+u)]:=λu h=>by rw[Lib.decDigits,dif_pos h]
 have O:∀ u,¬u<10->Lib.decDigits u=Lib.decDigits (u / 10)++[UInt8.ofNat (48+u % 10)]:=λu h=>by rw[Lib.decDigits,dif_neg h]
 have u8:∀ x y:Nat,x<10->y<10->UInt8.ofNat (48+x)=UInt8.ofNat (48+y)->x=y:=λx y Z hy h=>by
  have:=oT UInt8.toNat h
  simp only[UInt8.toNat_ofNat']at this;omega
 induction a using Nat.strongRecOn with
 | _ a U=>
   intro b h;have hl:=oT List.length h;rw[J,J]at hl;by_cases I:a<10
   ·rw[Lib.nDigits_small I]at hl;have hb:b<10:=by
     refine mn λhc=>?_;rw[Lib.nDigits_big (by omega)]at hl
     have:=Lib.nDigits_pos (b / 10)
     omega
    rw[e1 a I,e1 b hb]at h;exact u8 a b I hb (by simpa using h)
   ·have hb:¬b<10:=λhc=>by
     rw[Lib.nDigits_big I,Lib.nDigits_small hc]at hl
     have:=Lib.nDigits_pos (a / 10)
     omega
    rw[O a I,O b hb]at h;obtain⟨V,Y⟩:=List.append_inj' h rfl
    have:=U (a / 10) (by omega) (b / 10) V
    have:=u8 (a % 10) (b % 10) (by omega) (by omega) (by simpa using Y)
    omega
def Ke:Nat->Nat->List ByteArray->Nat
 | 0,k,_=>k
 | f+1,k,l=>if ND k∈l then Ke f (k+1) l else k
def fresh (l:List ByteArray):ByteArray:=ND (Ke l.length 1 l)
end Go.Proofs.YtidiofobanefmaaGreatDoor
namespace Go.Proofs
namespace YtidiofobanefmaaGreatDoor
open Go Go.Proofs Go.Proofs.Tryz Go.RowKit Go.Shelf Go.Sort Go.Lib
def itoaR:Go.Shelf.Ren:=⟨λx=>match x with | 171=>75 | 243=>106 | 246=>133 | 283=>147 | 284=>148 | 285=>149 | 286=>150 | 129=>162 | 317=>161 | 318=>163 | 319=>164 | 320=>165 | 337=>169 | 338=>170 | n=>n,λx=>match x with | 3=>3 | 9=>9 | 2=>2 | 4=>4 | 171=>150 | 0=>0 | 53=>151 | 37=>22 | 5=>5 | 173=>154 | 212=>169 | 51=>98 | 20=>20 | 213=>170 | 46=>110 | 232=>182 | 233=>183 | n=>n,λx=>match x with | 17=>4 | 18=>8 | 19=>9 | n=>n⟩
theorem itoaL:LaysM.n171 Tryz.prog itoaR where
 mixed:=by kernel_rfl
 f129:=Tryz.func162.trans (oT some (by kernel_rfl))
 f171:=Tryz.func75.trans (oT some (by kernel_rfl))
 f243:=Tryz.func106.trans (oT some (by kernel_rfl))
 f246:=Tryz.func133.trans (oT some (by kernel_rfl))
 f283:=Tryz.func147.trans (oT some (by kernel_rfl))
 f284:=Tryz.func148.trans (oT some (by kernel_rfl))
 f285:=Tryz.func149.trans (oT some (by kernel_rfl))
 f286:=Tryz.func150.trans (oT some (by kernel_rfl))
 f317:=Tryz.func161.trans (oT some (by kernel_rfl))
 f318:=Tryz.func163.trans (oT some (by kernel_rfl))
 f319:=Tryz.func164.trans (oT some (by kernel_rfl))
 f320:=Tryz.func165.trans (oT some (by kernel_rfl))
 f337:=Tryz.func169.trans (oT some (by kernel_rfl))
 f338:=Tryz.func170.trans (oT some (by kernel_rfl))
 t0:=Tryz.underlying0
 a0:=Tryz.isAgg0
 z0:=Tryz.sizeOf0
 v0:=Tryz.zeroValue0
 t2:=Tryz.underlying2
 a2:=Tryz.isAgg2
 z2:=Tryz.sizeOf2
 v2:=Tryz.zeroValue2
 t3:=Tryz.underlying3
 a3:=Tryz.isAgg3
 z3:=Tryz.sizeOf3
 v3:=Tryz.zeroValue3
 t4:=Tryz.underlying4
 a4:=Tryz.isAgg4
 z4:=Tryz.sizeOf4
 v4:=Tryz.zeroValue4
 t5:=Tryz.underlying5
 a5:=Tryz.isAgg5
 z5:=Tryz.sizeOf5
 v5:=Tryz.zeroValue5
 t9:=Tryz.underlying9
 a9:=Tryz.isAgg9
 z9:=Tryz.sizeOf9
 v9:=Tryz.zeroValue9
 t20:=Tryz.underlying20
 a20:=Tryz.isAgg20
 z20:=Tryz.sizeOf20
 v20:=Tryz.zeroValue20
 t37:=Tryz.underlying22
 a37:=Tryz.isAgg22
 z37:=Tryz.sizeOf22
 v37:=Tryz.zeroValue22
 t46:=Tryz.underlying110
 a46:=Tryz.isAgg110
 z46:=Tryz.sizeOf110
 v46:=Tryz.zeroValue110
 t51:=Tryz.underlying98
 a51:=Tryz.isAgg98
 z51:=Tryz.sizeOf98
 v51:=Tryz.zeroValue98
 t53:=Tryz.underlying151
 a53:=Tryz.isAgg151
 z53:=Tryz.sizeOf151
 v53:=Tryz.zeroValue151
 t171:=Tryz.underlying150
 a171:=Tryz.isAgg150
 z171:=Tryz.sizeOf150
 v171:=Tryz.zeroValue150
 t173:=Tryz.underlying154
 a173:=Tryz.isAgg154
 z173:=Tryz.sizeOf154
 v173:=Tryz.zeroValue154
 t212:=Tryz.underlying169
 a212:=Tryz.isAgg169
 z212:=Tryz.sizeOf169
 v212:=Tryz.zeroValue169
 t213:=Tryz.underlying170
 a213:=Tryz.isAgg170
 z213:=Tryz.sizeOf170
 t232:=Tryz.underlying182
 a232:=Tryz.isAgg182
 z232:=Tryz.sizeOf182
 v232:=Tryz.zeroValue182
 t233:=Tryz.underlying183
 a233:=Tryz.isAgg183
 z233:=Tryz.sizeOf183
 v233:=Tryz.zeroValue183
 g17:=by kernel_rfl
 g18:=by kernel_rfl
 g19:=by kernel_rfl
 i0:=by kernel_rfl
 i2:=by kernel_rfl
 i3:=by kernel_rfl
 i4:=by kernel_rfl
 i5:=by kernel_rfl
 i9:=by kernel_rfl
 i20:=by kernel_rfl
 i37:=by kernel_rfl
 i46:=by kernel_rfl
 i51:=by kernel_rfl
 i53:=by kernel_rfl
 i171:=by kernel_rfl
 i173:=by kernel_rfl
 i212:=by kernel_rfl
 i232:=by kernel_rfl
 i233:=by kernel_rfl
 m17:=by kernel_rfl
 m18:=by kernel_rfl
 m19:=by kernel_rfl
theorem Fi {w : World}(h : GlobIs w) : Lib.TabIs prog w "internal/strconv.uint64pow10" .u64 Lib.pow10Tab := by obtain ⟨t,fz,I⟩:=h.h _ (List.mem_cons_self);unfold Lib.TabIs World.var?;rw [itoaL.m17];have J:w.heap[itoaR.g 17]?=some (.cells (Lib.pow10Tab.map λn=>Value.int .u64 n).toArray t fz):=I;simp only [oI,J]
theorem MR (u:Nat)(h1:u<=9223372036854775807)(N:Nat)(Q:QT [.str])(U:∀ N',N<=N'->Q ⟨(Lib.decDigits u).toArray⟩ N'):ACalls prog 75 [.str] [.int .i64 u] N Q:=
 ⟨by kernel_rfl,λav w0 hN J _=>(Any.strconv_Itoa itoaL (u:Int) (by omega) (by omega) w0 (Fi J.g)).mono λe w ⟨V,k,os,Y⟩=>by
  subst V;subst hN;subst Y;rw[Lib.itoa_nonneg];have I:(Go.Sort.grow (w0.drewN k) os).heap.size=w0.heap.size+os.size:=by unfold Go.Sort.grow;rw[mB];rfl
  refine⟨[.str ⟨(Lib.decDigits u).toArray⟩],[],[],?_⟩;exact { q:=U _ (by rw[I];omega),v:=rfl,m:=⟨rfl,by simp,by simp,by simp,λk j b h=>by obtain⟨_,Z,_⟩:=h;simp[Env.at]at Z⟩,ok:=λp O=>by simp at O;subst O;trivial,fresh:=λk b h=>by simp[Env.at]at h,size:=by rw[I];omega,old:=λb hb=>Array.getElem?_append_left hb,fz:=λ_ _ _ _ _ _=>trivial,ku:=⟨rfl,rfl⟩ }⟩
end YtidiofobanefmaaGreatDoor
end Go.Proofs
namespace Go.Proofs.YtidiofobanefmaaGreatDoor
open Go Go.Proofs Go.Proofs.Tryz Go.IntWalk
def wT (f:FuncId)(args:List PV)(s:ByteArray):Prop:=∀(N:Nat) (Q:QT [.str]),(∀ N',N<=N'->Q s N')->ACalls prog f [.str] args N Q
theorem Qst {Q:QT [.str]}{a b:ByteArray}{N:Nat}(h:Q a N)(e:a=b):Q b N:=e ▸ h
def JW (u:Nat):ByteArray:=⟨(Lib.decDigits u).toArray⟩
theorem IA (u:Nat)(h:u<=4611686018427387904):Lib.nDigits u<=20:=by
 by_cases I:1<=u
 ·have:=Lib.numDigits_eq u I (by omega);split at this<;>omega
 ·rw[Lib.nDigits_small (by omega)];omega
theorem Hk (u:Nat):(JW u).size=Lib.nDigits u:=by show(Lib.decDigits u).toArray.size=_;rw[na,Lib.decDigits_length]
theorem ze {a b:ByteArray}(h:a.data.toList=b.data.toList):a=b:=by cases a;cases b;simp at h;rw[h]
theorem zK (a b:ByteArray):(a++b).data.toList=a.data.toList++b.data.toList:=by simp
theorem qp (u:Nat)(h:u<=4611686018427387904):wT 39 [.j u] (JW u):=λN Q I=>qx N u Q λN1 J=>MR u (by omega) N1 _ λV O _ N3 U=>I _ (by omega)
theorem JY (m:Nat)(s:ByteArray)(hs:∀ u,u<10->Lib.decDigits u=[UInt8.ofNat (48+u)]):(bytesOf [IntKind.u8.wrap (IntKind.i64.wrap (48+Int.tmod (m:Int) 10))]++s).data.toList=UInt8.ofNat (48+m % 10)::s.data.toList:=by
 rw[zK];have e:IntKind.u8.wrap (IntKind.i64.wrap (48+Int.tmod (m:Int) 10))=((48+m % 10:Nat):Int):=by
  have:Int.tmod (m:Int) 10=((m % 10:Nat):Int):=by rw[Int.tmod_eq_emod_of_nonneg (by omega)];omega
  rw[this,i64_in _ (by omega),IntKind.wrap_u8];omega
 rw[e];have I:bytesOf [((48+m % 10:Nat):Int)]=⟨#[UInt8.ofNat (48+m % 10)]⟩:=rfl;rw[I];rfl
theorem x9 (u:Nat) (h:u<=4611686018427387904):wT 54 [.j u] (JW u):=λN Q hQ=>by
 have e1:∀ u,u<10->Lib.decDigits u=[UInt8.ofNat (48+u)]:=λu h=>by rw[Lib.decDigits,dif_pos h]
 have e2:∀ u,¬u<10->Lib.decDigits u=Lib.decDigits (u / 10)++[UInt8.ofNat (48+u % 10)]:=λu h=>by rw[Lib.decDigits,dif_neg h]
 refine vl N u Q (Br.beq (λh0 N1 V=>?_) λh0=>?_)
 ·have:u=0:=by omega
  subst this;refine Qst (hQ _ V) (ze ?_);show Lib.decDigits 0=[48];rw[e1 0 (by omega)];rfl
 ·rw [nV (by omega)]
  have key:∀(m:Nat) (s:ByteArray),m<=u->s.size+Lib.nDigits m<=20\/(m=0/\s.size<=20)->(if m=0 then []else Lib.decDigits m)++s.data.toList=Lib.decDigits u->zN Q N m false s N:=by
   intro m
   induction m using Nat.strongRecOn with
   | _ m ih=>
     intro s hm O Y;refine xS ?_;refine Br.bne (λI=>?_) λI=>?_
     ·have I:m≠0:=by omega
      have ht:Int.tmod (m:Int) 10=((m % 10:Nat):Int):=by rw[Int.tmod_eq_emod_of_nonneg (by omega)];omega
      have hd:Int.tdiv (m:Int) 10=((m / 10:Nat):Int):=by rw[Int.tdiv_eq_ediv_of_nonneg (by omega)];omega
      have O:s.size+Lib.nDigits m<=20:=by rcases O with U | ⟨U,_⟩;exact U;exact absurd U I
      refine⟨by omega,?_⟩;rw[nV (by omega)];refine⟨by simp,[IntKind.u8.wrap (IntKind.i64.wrap (48+Int.tmod (m:Int) 10))],rfl,?_,by omega,?_⟩
      ·have:(bytesOf [IntKind.u8.wrap (IntKind.i64.wrap (48+Int.tmod (m:Int) 10))]).size=1:=rfl;omega
      ·rw[hd,i64_in _ (by omega)];refine ih (m / 10) (by omega) _ (by omega) ?_ ?_
       ·have U:(bytesOf [IntKind.u8.wrap (IntKind.i64.wrap (48+Int.tmod (m:Int) 10))]++s).size=1+s.size:=by rw[oD];rfl
        by_cases J:m<10
        ·right
         have:=Lib.nDigits_pos m
         exact⟨by omega,by omega⟩
        ·left
         have:=Lib.nDigits_big J
         omega
       ·rw[JY m s e1,<-Y,if_neg I];by_cases J:m<10
        ·rw[if_pos (by omega),e1 m J,show m % 10=m by omega];rfl
        ·rw[if_neg (by omega),e2 m J];simp
     ·have:m=0:=by omega
      subst this;refine λN2 Z=>Qst (hQ _ Z) (ze ?_);rw[if_pos rfl]at Y;exact Y.symm
  refine key u (bytes []) (oJ _) (.inl ?_) ?_
  ·have:=IA u h
   show 0+_<=_;omega
  ·rw[if_neg (by omega)];exact nh _
end Go.Proofs.YtidiofobanefmaaGreatDoor
