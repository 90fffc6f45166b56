/- Parameters: what they are; the laws' sizes, copies, equality and marks on them. -/
import Derived.Test.YtligajflgjpdnaaGreatDoorA1
import Derived.Test.YtligajflgjpdnaaGreatDoorKa
import Derived.Lib.ItoaNum
import Derived.Shelf.Strconv.Itoa3
set_option linter.unusedVariables false
set_option linter.unusedSimpArgs false
namespace Go.Proofs.YtligajflgjpdnaaGreatDoor
open Go Go.Proofs Go.Proofs.Tryz Go.IntWalk
structure Pm where
 nm:ByteArray
 ty:Ty
 dy:Bool
def Pm.Is (g:Pm)(d:D):Prop:=∃ t0 t1,d=.ag [.t g.nm,t0,t1,.lit (.bool g.dy)]/\g.nm.size<=4611686018427387904/\g.ty.Is (.ag [t0,t1])
theorem wA (n a b:Int):ws 86 [.j n,.j a,.j b] (inB n a b):=λN Q I=>by
 refine J9 N n a b Q ?_
 repeat' first|with_reducible intro _|simp only[Y1,Y2,Y3,Y4]|with_reducible refine X ?_ ?_|refine⟨_,_,_,rfl,?_⟩|refine⟨_,rfl,?_⟩|refine X0 ?_|fail
 all_goals simpa [inB, *]using I _ (by omega)
def AR {α:Type}(p:α->Bool):List α->Int->Int
 | [],_ => -1
 | x::xs,i=>if p x then i else AR p xs (i+1)
theorem rZ {α:Type}(p:α->Bool):∀(l:List α)(i:Int),0<=i->decide (AR p l i≥0)=l.any p
 | [],i,h=>by simp[AR]
 | x::xs,i,h=>by
   have I:=rZ p xs (i+1) (by omega);rw[nj,nf]at I ⊢;simp only[AR,mw,nI];by_cases J:p x=true
   ·simp only[J,mU,true_or,iff_true];exact h
   ·simpa [J]using I
def zA (l:List ByteArray):List D:=l.map λs=>.t s
theorem xm:∀ l:List ByteArray,All2 (λs d=>d=.t s) l (zA l)
 | []=>rfl
 | s::l=>⟨_,_,rfl,rfl,xm l⟩
theorem NH (l:List ByteArray)(hl:l.length<=4611686018427387904)(a:Option Addr)(c:Nat)(s:ByteArray):Dx 135 [.sv a 0 (zA l) c,.str s] (AR (λx=>decide (s=x)) l 0):=λN Q hQ=>by
 have O:=xm l;have U:(zA l).length<=4611686018427387904:=by rw[O.len];exact hl
 refine Aw N a _ c s Q λ_=>?_;refine up O U (λi xs=>∀(N':Nat),N<=N'->(∀ N'',N'<=N''->Q (AR (λx=>decide (s=x)) xs i) N'')->yu Q N a (zA l) c s ((zA l).length:Int) i N') ?_ ?_ N (oC _) hQ
 ·intro i aa _ N' Y I;refine uY ?_
  repeat' first|with_reducible intro _|simp only[aa,Y1,Y2,Y3,Y4]|with_reducible refine X ?_ ?_|refine⟨_,_,_,rfl,?_⟩|refine⟨_,rfl,?_⟩|refine X0 ?_|fail
  exact I _ (by omega)
 ·intro i x xs J _ ab N' Y I;have hb:=J.b;have hr:=J.r;simp only[AR]at I;refine uY ?_
  repeat' first|with_reducible intro _|simp only[J.lt,J.w,oH,hr,Y1,Y2,Y3,Y4]|with_reducible refine X ?_ ?_|refine⟨_,_,_,rfl,?_⟩|refine⟨_,rfl,?_⟩|refine X0 ?_|fail
  ·rename_i h _ _;subst h;exact Qi (I _ (by omega)) (by simp)
  ·rename_i h;exact ab _ Y λN'' h2=>Qi (I _ h2) (by rw[if_neg (by simpa using h)];simp)
theorem yV (l:List ByteArray)(I:l.length<=4611686018427387904)(a:Option Addr)(c:Nat)(s:ByteArray):ws 93 [.sv a 0 (zA l) c,.str s] (l.any λx=>decide (s=x)):=λN Q J=>by
 refine qa N a _ c s Q λ_=>?_
 repeat' first|with_reducible intro _|simp only[Y1,Y2,Y3,Y4]|with_reducible refine X ?_ ?_|refine⟨_,_,_,rfl,?_⟩|refine⟨_,rfl,?_⟩|refine X0 ?_|refine(NH l I a c s) _ _ ?_|fail
 exact Qb (J _ (by omega)) (rZ _ l 0 (by omega)).symm
theorem CX (s:ByteArray)(hs:s.size<=4611686018427387904):ws 151 [.str s] (yW s):=λN Q Y=>by
 refine Jj N s Q ?_;have key:=upN hs (λi=>∀ N',N<=N'->(∀ N'',N'<=N''->Q (sf s i&&Ib s) N'')->xI Q N s (s.size:Int) i N') ?_ ?_
 ·exact key N (oC _) Y
 ·intro J N' O I;have hc:=yV [bytes [105,102],bytes [108,101,116],bytes [108,105,102,116],bytes [114,101,99],bytes [114,117,110]] (by simp);simp only[zA,List.map]at hc;refine pC ?_
  repeat' first|with_reducible intro _|simp only[J,Y1,Y2,Y3,Y4]|with_reducible refine X ?_ ?_|refine⟨_,_,_,rfl,?_⟩|refine⟨_,rfl,?_⟩|refine X0 ?_|refine(wA _ _ _) _ _ ?_|refine(hc _ _ _) _ _ ?_|fail
  all_goals(refine Qb (I _ (by omega)) ?_;rw[Dk])
  ·simp only[Ib,mw,List.any_nil,Bool.or_false, *];cases decide (s=bytes [105,102])<;>cases decide (s=bytes [108,101,116])<;>cases decide (s=bytes [108,105,102,116])<;>cases decide (s=bytes [114,101,99])<;>cases decide (s=bytes [114,117,110])<;>rfl
  ·simp[Ib, *]
 ·intro i hi J hw U N' O I;refine pC ?_;rw[CK hi]at I
  repeat' first|with_reducible intro _|simp only[J,hw,oH,Y1,Y2,Y3,Y4]|with_reducible refine X ?_ ?_|refine⟨_,_,_,rfl,?_⟩|refine⟨_,rfl,?_⟩|refine X0 ?_|fail
  all_goals first
   | (refine Qb (I _ (by omega)) ?_;unfold IV Dw;simp only[*];simp;done)
   | (refine U _ (by omega) λN'' h=>Qb (I N'' (by omega)) ?_;unfold IV Dw;simp only[*];simp;done)
theorem DJ:∀(t:Ty)(d:D),t.Is d->t.cnt<=1073741824->Dx 124 [.dg 2 d] t.cnt:=by
 refine Ty.ind λk l ih d hd hc N Q hQ=>?_;obtain⟨a,es,c,rfl,J,O⟩:=Ty.is_mk.1 hd;simp only[Ty.cnt]at hc;refine DW N _ Q λ_=>⟨_,_,_,rfl,?_⟩
 refine up O J (λi xs=>∀(m:Nat) (N':Nat),N<=N'->m+zL xs=1+zL l->xK Q N m a es c es.length i N') ?_ ?_ 1 N (oC _) rfl
 ·intro i U _ m N' Y hm;refine tW ?_;simp only[zL]at hm
  repeat' first|with_reducible intro _|simp only[U,Y1,Y2,Y3,Y4]|with_reducible refine X ?_ ?_|refine⟨_,_,_,rfl,?_⟩|refine⟨_,rfl,?_⟩|refine X0 ?_|fail
  exact Qi (hQ _ (by omega)) (by simp only[Ty.cnt];omega)
 ·intro i x xs I _ aa m N' Y hm;have hb:=I.b;have ab:=xl I.m;simp only[zL]at hm;refine tW ?_
  repeat' first|with_reducible intro _|simp only[I.lt,I.w,oH,Y1,Y2,Y3,Y4]|with_reducible refine X ?_ ?_|refine⟨_,_,_,rfl,?_⟩|refine⟨_,rfl,?_⟩|refine X0 ?_|refine(ih x I.m _ I.r (by omega)) _ _ ?_|fail
  rw[i64_in _ (by omega)];exact aa (m+x.cnt) _ (by omega) (by omega)
theorem BM:∀(t:Ty)(d:D),t.Is d->t.cnt<=1073741824->Dx 125 [.dg 2 d] t.dep:=by
 refine Ty.ind λk l ih d hd hc N Q hQ=>?_;obtain⟨a,es,c,rfl,J,O⟩:=Ty.is_mk.1 hd;simp only[Ty.cnt]at hc;have ab:=pw l;refine CR N _ Q λ_=>⟨_,_,_,rfl,?_⟩
 refine up O J (λi xs=>∀(m:Nat) (N':Nat),N<=N'->max m (uv xs)=uv l->xA Q N m a es c es.length i N') ?_ ?_ 0 N (oC _) (by omega)
 ·intro i U _ m N' Y hm;refine u3 ?_;simp only[uv]at hm
  repeat' first|with_reducible intro _|simp only[U,Y1,Y2,Y3,Y4]|with_reducible refine X ?_ ?_|refine⟨_,_,_,rfl,?_⟩|refine⟨_,rfl,?_⟩|refine X0 ?_|fail
  rw[i64_in _ (by omega)];exact Qi (hQ _ (by omega)) (by simp only[Ty.dep];omega)
 ·intro i x xs I _ aa m N' Y hm;have hb:=I.b;have ac:=xl I.m;simp only[uv]at hm;refine u3 ?_
  repeat' first|with_reducible intro _|simp only[I.lt,I.w,oH,Y1,Y2,Y3,Y4]|with_reducible refine X ?_ ?_|refine⟨_,_,_,rfl,?_⟩|refine⟨_,rfl,?_⟩|refine X0 ?_|refine(ih x I.m _ I.r (by omega)) _ _ ?_|fail
  have e:(if(x.dep:Int)>(m:Int)then(x.dep:Int)else(m:Int))=((max m x.dep:Nat):Int):=by split<;>omega
  rw[e];exact aa _ _ (by omega) (by omega)
theorem E8 (t:Ty)(d:D)(hd:t.Is d):ws 126 [.dg 2 d] (pV t.k t.as.length):=λN Q J=>by
 cases t with
 | mk k l=>
 obtain⟨a,es,c,rfl,U,O⟩:=Ty.is_mk.1 hd;have Y:=O.len;simp only[Ty.k,Ty.as]at J;refine AJ N _ Q λ_=>?_;cases I:inB k 1 4 with
 | false=>
   repeat' first|with_reducible intro _|simp only[I,Y1,Y2,Y3,Y4]|with_reducible refine X ?_ ?_|refine⟨_,_,_,rfl,?_⟩|refine⟨_,rfl,?_⟩|refine X0 ?_|refine(wA _ _ _) _ _ ?_|fail
   refine Qb (J _ (by omega)) ?_;have:¬(1<=k/\k<=4):=λh=>by rw[zw.2 h]at I;cases I
   unfold pV;rw[if_neg (by omega),if_neg (by omega),if_neg (by omega)]
 | true=>
   have hb:=zw.1 I;have w0:IntKind.i64.wrap 0=0:=rfl;have w1:IntKind.i64.wrap 1=1:=rfl;have w2:IntKind.i64.wrap 2=2:=rfl;have w3:IntKind.i64.wrap 3=3:=rfl;have hk:k=1\/k=2\/k=3\/k=4:=by omega
   rcases hk with rfl | rfl | rfl | rfl
   all_goals
    repeat' first|with_reducible intro _|simp only[I,w0,w1,w2,w3,Y1,Y2,Y3,Y4]|with_reducible refine X ?_ ?_|refine⟨_,_,_,rfl,?_⟩|refine⟨_,rfl,?_⟩|refine X0 ?_|refine(wA _ _ _) _ _ ?_|fail
    refine Qb (J _ (by omega)) ?_;simp[pV,Y]
theorem Gb:∀ l:List Ty,wL l=!(l.any λx=>!x.form)
 | []=>rfl
 | t::I=>by simp only[wL,mw,Gb I];cases t.form<;>simp
theorem E7 {p:Ty->Bool} {l:List Ty} {es:List D} (h:All2 Ty.Is l es) (O:es.length<=4611686018427387904) (ad:Addr) (hp:∀ x∈l,∀ d,x.Is d->ws 128 [.dg 2 d,.pd ad 0 (.fn 126 [])] (p x)) (a:Option Addr) (c:Nat) :
  ws 127 [.sv a 2 es c,.fn 128 [.pd ad 0 (.fn 126 [])]] (l.any p):=λN Q U=>by
 have hi:Dx 154 [.sv a 2 es c,.fn 128 [.pd ad 0 (.fn 126 [])]] (AR p l 0):=λN Q U=>by
  refine sH N a es c ad Q λ_=>?_;refine up h O (λi xs=>∀(N':Nat),N<=N'->(∀ N'',N'<=N''->Q (AR p xs i) N'')->yG Q N a es c ad es.length i N') ?_ ?_ N (oC _) U
  ·intro i Y _ N' aa I;refine wT ?_
   repeat' first|with_reducible intro _|simp only[Y,Y1,Y2,Y3,Y4]|with_reducible refine X ?_ ?_|refine⟨_,_,_,rfl,?_⟩|refine⟨_,rfl,?_⟩|refine X0 ?_|fail
   exact I _ (by omega)
  ·intro i x xs J _ ab N' aa I;have hb:=J.b;simp only[AR]at I;refine wT ?_
   repeat' first|with_reducible intro _|simp only[J.lt,J.w,oH,Y1,Y2,Y3,Y4]|with_reducible refine X ?_ ?_|refine⟨_,_,_,rfl,?_⟩|refine⟨_,rfl,?_⟩|refine X0 ?_|refine(hp x J.m _ J.r) _ _ ?_|fail
   ·exact Qi (I _ (by omega)) (by rw[if_pos (by assumption)])
   ·rename_i h;exact ab _ (by omega) λN'' h2=>Qi (I _ (by omega)) (by rw[h];simp)
 refine uq N a es c ad Q λ_=>?_
 repeat' first|with_reducible intro _|simp only[Y1,Y2,Y3,Y4]|with_reducible refine X ?_ ?_|refine⟨_,_,_,rfl,?_⟩|refine⟨_,rfl,?_⟩|refine X0 ?_|refine hi _ _ ?_|fail
 exact Qb (U _ (by omega)) (rZ _ l 0 (by omega)).symm
theorem PG:∀(t:Ty)(d:D),t.Is d->ws 88 [.dg 2 d,.fn 126 []] t.form:=by
 refine Ty.ind λk l Y d hd N Q I=>?_;have O:=hd;obtain⟨a,es,c,rfl,J,U⟩:=Ty.is_mk.1 hd;refine Bh N _ Q λ_=>?_;simp only[Ty.form,Gb]at I
 repeat' first|with_reducible intro _|simp only[Y1,Y2,Y3,Y4]|with_reducible refine X ?_ ?_|refine⟨_,_,_,rfl,?_⟩|refine⟨_,rfl,?_⟩|refine X0 ?_|refine(E8 _ _ O) _ _ ?_|refine(E7 U J _ (λx hx d hd=>λN Q I=>AF N d _ Q λ_ N1 aa=>Y x hx d hd N1 _ λN2 ab ac N3 ae=>I N3 (by omega)) _ _) _ _ ?_|fail
 ·have h:pV (Ty.mk k l).k (Ty.mk k l).as.length=true:=by assumption
  exact Qb (I _ (by omega)) (by simp only[Ty.k,Ty.as]at h;rw[h,Bool.and_true])
 ·rename_i h _ _;exact Qb (I _ (by omega)) (by simp only[Ty.k,Ty.as]at h;rw[h,Bool.and_false])
theorem vm (t:Ty)(d:D)(hd:t.Is d)(hc:t.cnt<=1073741824):ws 87 [.dg 2 d] t.valid:=λN Q I=>by
 refine Bu N _ Q λ_=>?_
 repeat' first|with_reducible intro _|simp only[Y1,Y2,Y3,Y4]|with_reducible refine X ?_ ?_|refine⟨_,_,_,rfl,?_⟩|refine⟨_,rfl,?_⟩|refine X0 ?_|refine(DJ t d hd hc) _ _ ?_|refine(BM t d hd hc) _ _ ?_|refine(PG t d hd) _ _ ?_|fail
 ·refine Qb (I _ (by omega)) ?_;have J:t.cnt<=30:=by omega
  have O:t.dep<=8:=by omega
  simp[Ty.valid, *]
 ·refine Qb (I _ (by omega)) ?_;have O:¬t.dep<=8:=by omega
  simp[Ty.valid, *]
 ·refine Qb (I _ (by omega)) ?_;have J:¬t.cnt<=30:=by omega
  simp[Ty.valid, *]
theorem wh:∀(t u:Ty)(d e:D),t.Is d->u.Is e->ws 122 [.dg 2 d,.dg 2 e] (DH t u):=by
 refine Ty.ind λk l ih u d e hd he N Q Y=>?_;cases u with
 | mk k' l'=>
 obtain⟨a,es,c,rfl,aa,ab⟩:=Ty.is_mk.1 hd;obtain⟨a',U,c',rfl,ae,O⟩:=Ty.is_mk.1 he;have hl:=ab.len;have al:=O.len;simp only[DH]at Y;have hf:ws 153 [.sv a 2 es c,.sv a' 2 U c',.fn 122 []] (rm l l'):=λN Q Y=>by
  have key:l.length=l'.length->∀(N':Nat),N<=N'->(∀ N'',N'<=N''->Q (rm l (l'.drop 0)) N'')->ze Q N a' U c' a es c es.length (0:Nat) N':=by
   intro am;refine up ab aa (λi xs=>∀(N':Nat),N<=N'->(∀ N'',N'<=N''->Q (rm xs (l'.drop i)) N'')->ze Q N a' U c' a es c es.length i N') ?_ ?_
   ·intro i ah hi N' ai I;refine wP ?_
    repeat' first|with_reducible intro _|simp only[ah,Y1,Y2,Y3,Y4]|with_reducible refine X ?_ ?_|refine⟨_,_,_,rfl,?_⟩|refine⟨_,rfl,?_⟩|refine X0 ?_|fail
    refine Qb (I _ (by assumption)) ?_;rw[mG (by omega)];rfl
   ·intro i x xs J _ aj N' ai I;have hb:=J.b;have ac:i<l'.length:=by omega
    have hg:l'[i]?=some l'[i]:=oI ac;have ak:l'.drop i=l'[i]::l'.drop (i+1):=mf ac;refine wP ?_;rw[ak]at I
    repeat' first|with_reducible intro _|simp only[J.lt,J.w,oH,Y1,Y2,Y3,Y4]|with_reducible refine X ?_ ?_|refine⟨_,_,_,rfl,?_⟩|refine⟨_,rfl,?_⟩|refine X0 ?_|refine(ih x J.m _ _ _ J.r (O.get hg)) _ _ ?_|fail
    ·exact Qb (I _ (by omega)) (by simp[rm, *])
    ·exact aj _ (by omega) λN'' h=>Qb (I N'' (by omega)) (by simp[rm, *])
  refine sD N _ _ _ _ _ _ Q λ_ _=>?_
  repeat' first|with_reducible intro _|simp only[Y1,Y2,Y3,Y4]|with_reducible refine X ?_ ?_|refine⟨_,_,_,rfl,?_⟩|refine⟨_,rfl,?_⟩|refine X0 ?_|fail
  ·exact Qb (Y _ (by assumption)) (E0 (by omega))
  ·exact key (by omega) N (oC _) Y
 refine EK N _ _ Q λ_ _=>?_
 repeat' first|with_reducible intro _|simp only[Y1,Y2,Y3,Y4]|with_reducible refine X ?_ ?_|refine⟨_,_,_,rfl,?_⟩|refine⟨_,rfl,?_⟩|refine X0 ?_|refine hf _ _ ?_|fail
 ·exact Qb (Y _ (by omega)) (by simp[*])
 ·exact Qb (Y _ (by omega)) (by simp[*])
theorem Aj (s:ByteArray):Dx 150 [.str s] (rU s):=λN Q I=>by
 refine HE N s Q ?_
 repeat' first|with_reducible intro _|simp only[Y1,Y2,Y3,Y4]|with_reducible refine X ?_ ?_|refine⟨_,_,_,rfl,?_⟩|refine⟨_,rfl,?_⟩|refine X0 ?_|fail
 all_goals(refine Qi (I _ (by assumption)) ?_;unfold rU;(repeat' split)<;>first | rfl | contradiction)
def arI (k:Int)(nm:ByteArray):Int:=
 if k=4 then rU nm else if k=5 then 3 else if k=7\/k=8 then 2 else if k=6\/k=9\/k=10\/k=11\/k=12\/k=13 then 1 else 0
theorem LT {k n:Int}{nm ot:ByteArray}{t0 t1 r0 r1 x:D}:Dx 120 [.dg 9 (.ag [.j k,.t nm,.t ot,.j n,t0,t1,r0,r1,x])] (arI k nm):=λN Q I=>by
 refine LR N _ Q λ_=>?_
 repeat' first|with_reducible intro _|simp only[Y1,Y2,Y3,Y4]|with_reducible refine X ?_ ?_|refine⟨_,_,_,rfl,?_⟩|refine⟨_,rfl,?_⟩|refine X0 ?_|refine(Aj _) _ _ ?_|fail
 all_goals(refine Qi (I _ (by omega)) ?_;simp[arI, *])
theorem ti (n:Int):ws 152 [.j n] (inB n 0 10006):=λN Q I=>by
 refine FQ N n Q ?_
 repeat' first|with_reducible intro _|simp only[Y1,Y2,Y3,Y4]|with_reducible refine X ?_ ?_|refine⟨_,_,_,rfl,?_⟩|refine⟨_,rfl,?_⟩|refine X0 ?_|refine(wA _ _ _) _ _ ?_|fail
 exact I _ (by omega)
def Ho (k:Int)(nm ot:ByteArray)(n:Int)(ty re:Ty):Bool:=
 if k=1\/k=8 then yW nm else if k=2 then inB n 0 10006 else if k=3 then inB n 0 1 else if k=4 then decide (rU nm>0)
 else if k=6 then yW nm&&ty.valid else if k=9 then yW nm&&(yW ot&&(!decide (nm=ot)&&(ty.valid&&re.valid)))else inB k 1 13
theorem Hh {k n:Int} {nm ot:ByteArray} {ty re:Ty} {t0 t1 r0 r1 x:D} (h:Tm.Hd nm ot ty re t0 t1 r0 r1) (hc:ty.cnt<=1073741824) (I:re.cnt<=1073741824) :
  ws 121 [.dg 9 (.ag [.j k,.t nm,.t ot,.j n,t0,t1,r0,r1,x])] (Ho k nm ot n ty re):=λN Q J=>by
 refine HR N _ Q λ_=>?_
 repeat' first|with_reducible intro _|simp only[Y1,Y2,Y3,Y4]|with_reducible refine X ?_ ?_|refine⟨_,_,_,rfl,?_⟩|refine⟨_,rfl,?_⟩|refine X0 ?_|refine(Aj _) _ _ ?_|refine(CX _ h.nm) _ _ ?_|refine(CX _ h.ot) _ _ ?_|refine(ti _) _ _ ?_|refine(wA _ _ _) _ _ ?_|refine(vm _ _ h.ty hc) _ _ ?_|refine(vm _ _ h.re I) _ _ ?_|fail
 all_goals(refine Qb (J _ (by omega)) ?_;simp[Ho, *])
theorem qu (t:Ty):DH t t=true:=(sc t t).2 rfl
def PH (k:Int)(nm ot:ByteArray)(n:Int)(ty re:Ty)(m:Int):Bool:=
 decide (m=arI k nm)&&(Ho k nm ot n ty re&&((decide (k=1\/k=8\/k=4\/k=6\/k=9)||decide (nm=bytes []))&&((decide (k=9)||decide (ot=bytes []))&&((decide (k=2\/k=3)||decide (n=0)) &&
  ((decide (k=6\/k=9)||DH ty tZero)&&(decide (k=9)||DH re tZero))))))
theorem G9 {k n:Int} {nm ot:ByteArray} {ty re:Ty} {t0 t1 r0 r1:D} {a:Option Addr} {es:List D} {c:Nat} (h:Tm.Hd nm ot ty re t0 t1 r0 r1) (hc:ty.cnt<=1073741824) (I:re.cnt<=1073741824) :
  ws 83 [.dg 9 (.ag [.j k,.t nm,.t ot,.j n,t0,t1,r0,r1,.sl a 9 es c])] (PH k nm ot n ty re es.length):=λN Q J=>by
 refine Jh N _ Q λ_=>?_
 repeat' first|with_reducible intro _|simp only[Y1,Y2,Y3,Y4]|with_reducible refine X ?_ ?_|refine⟨_,_,_,rfl,?_⟩|refine⟨_,rfl,?_⟩|refine X0 ?_|refine LT _ _ ?_|refine(Hh h hc I) _ _ ?_|refine(wh ty tZero _ _ h.ty DS) _ _ ?_|refine(wh re tZero _ _ h.re DS) _ _ ?_|refine(wh ty ty _ _ h.ty h.ty) _ _ ?_|refine(wh re re _ _ h.re h.re) _ _ ?_|fail
 all_goals first | (exfalso;omega) | (refine Qb (J _ (by omega)) ?_;simp[PH,qu, *];done) | (refine Qb (J _ (by omega)) ?_;simp_all[PH,qu];done)
theorem Vt (t:Ty):DH t tZero=t.zero:=by
 cases t with
 | mk k l => cases l<;>simp[DH,tZero,rm,Ty.zero,Ty.k,Ty.as]
             try omega
theorem PX {t:Ty}(h:t.zero=true):t.valid=false:=by
 cases t with
 | mk k l=>simp only[Ty.zero,Ty.k,Ty.as,oG,nM]at h;simp[Ty.valid,Ty.form,pV,h.1]
theorem Z0 (n:Int):inB n 0 0=decide (n=0):=by rw[nj,zw,nf];omega
theorem zp (t:Ty)(b:Bool):(!t.valid&&(t.zero&&b))=(t.zero&&b):=by
 cases h:t.zero with
 | false=>simp
 | true=>rw[PX h];simp
theorem Tq (k:Int)(nm ot:ByteArray)(n:Int)(ty re:Ty)(m:Int)(hm:0<=m):PH k nm ot n ty re m=(zK k nm ot n ty re&&m==Cw k nm):=by
 by_cases Y:k=1\/k=2\/k=3\/k=4\/k=5\/k=6\/k=7\/k=8\/k=9\/k=10\/k=11\/k=12\/k=13
 ·rw[Zc m];have b5:inB 5 1 13=true:=rfl;have b7:inB 7 1 13=true:=rfl;have I:inB 10 1 13=true:=rfl;have J:inB 11 1 13=true:=rfl;have O:inB 12 1 13=true:=rfl;have U:inB 13 1 13=true:=rfl;rcases Y with rfl | rfl | rfl | rfl | rfl | rfl | rfl | rfl | rfl | rfl | rfl | rfl | rfl
  all_goals
   simp[PH,arI,Ho,zK,sB,xY,Cw,Vt,Z0,zp,b5,b7,I,J,O,U]
   try(rw[nj];simp[and_comm,and_left_comm,and_assoc])
 ·have h1:Cw k nm = -1:=by unfold Cw;rw[if_neg (by omega),if_neg (by omega),if_neg (by omega),if_neg (by omega),if_neg (by omega)]
  have h2:inB k 1 13=false:=by
   cases h:inB k 1 13 with
   | false=>rfl
   | true=>have:=zw.1 h;omega
  have h3:Ho k nm ot n ty re=false:=by unfold Ho;rw[if_neg (by omega),if_neg (by omega),if_neg (by omega),if_neg (by omega),if_neg (by omega),if_neg (by omega),h2]
  have h4:(m==Cw k nm)=false:=by rw[h1,Zc];exact mK (by omega)
  rw[h4,PH,h3];simp
theorem UD {k n:Int} {nm ot:ByteArray} {ty re:Ty} {t0 t1 r0 r1:D} {a:Option Addr} {es:List D} {c:Nat} (h:Tm.Hd nm ot ty re t0 t1 r0 r1) (hc:ty.cnt<=1073741824) (I:re.cnt<=1073741824) :
  ws 83 [.dg 9 (.ag [.j k,.t nm,.t ot,.j n,t0,t1,r0,r1,.sl a 9 es c])] (zK k nm ot n ty re&&(es.length:Int)==Cw k nm):=by
 rw[<-Tq _ _ _ _ _ _ _ (by omega)];exact G9 h hc I
theorem Kw:∀ l:List Tm,qv l=!(l.any λx=>!x.ok)
 | []=>rfl
 | t::I=>by simp only[qv,mw,Kw I];cases t.ok<;>simp
theorem Es {p:Tm->Bool} {l:List Tm} {es:List D} (h:All2 Tm.Is l es) (O:es.length<=4611686018427387904) (ad:Addr) (hp:∀ x∈l,∀ d,x.Is d->ws 85 [.dg 9 d,.pd ad 0 (.fn 83 [])] (p x)) (a:Option Addr) (c:Nat) :
  ws 84 [.sv a 9 es c,.fn 85 [.pd ad 0 (.fn 83 [])]] (l.any p):=λN Q U=>by
 have hi:Dx 123 [.sv a 9 es c,.fn 85 [.pd ad 0 (.fn 83 [])]] (AR p l 0):=λN Q U=>by
  refine sI N a es c ad Q λ_=>?_;refine up h O (λi xs=>∀(N':Nat),N<=N'->(∀ N'',N'<=N''->Q (AR p xs i) N'')->yH Q N a es c ad es.length i N') ?_ ?_ N (oC _) U
  ·intro i Y _ N' aa I;refine wQ ?_
   repeat' first|with_reducible intro _|simp only[Y,Y1,Y2,Y3,Y4]|with_reducible refine X ?_ ?_|refine⟨_,_,_,rfl,?_⟩|refine⟨_,rfl,?_⟩|refine X0 ?_|fail
   exact I _ (by omega)
  ·intro i x xs J _ ab N' aa I;have hb:=J.b;simp only[AR]at I;refine wQ ?_
   repeat' first|with_reducible intro _|simp only[J.lt,J.w,oH,Y1,Y2,Y3,Y4]|with_reducible refine X ?_ ?_|refine⟨_,_,_,rfl,?_⟩|refine⟨_,rfl,?_⟩|refine X0 ?_|refine(hp x J.m _ J.r) _ _ ?_|fail
   ·exact Qi (I _ (by omega)) (by rw[if_pos (by assumption)])
   ·rename_i h;exact ab _ (by omega) λN'' h2=>Qi (I _ (by omega)) (by rw[h];simp)
 refine uk N a es c ad Q λ_=>?_
 repeat' first|with_reducible intro _|simp only[Y1,Y2,Y3,Y4]|with_reducible refine X ?_ ?_|refine⟨_,_,_,rfl,?_⟩|refine⟨_,rfl,?_⟩|refine X0 ?_|refine hi _ _ ?_|fail
 exact Qb (U _ (by omega)) (rZ _ l 0 (by omega)).symm
theorem PN:∀(t:Tm)(d:D),t.Is d->t.G->ws 47 [.dg 9 d,.fn 83 []] t.ok:=by
 refine Tm.ind λk nm ot n ty re l Y d hd hc N Q I=>?_;obtain⟨t0,t1,r0,r1,a,es,c,rfl,hh,J,O⟩:=Tm.is_mk.1 hd;have hl:=O.len;obtain⟨g1,g2,_,g4⟩:=hc;refine Bd N _ Q λ_=>?_;simp only[Tm.ok,Kw,<-hl]at I
 repeat' first|with_reducible intro _|simp only[Y1,Y2,Y3,Y4]|with_reducible refine X ?_ ?_|refine⟨_,_,_,rfl,?_⟩|refine⟨_,rfl,?_⟩|refine X0 ?_|refine(UD hh (by omega) (by omega)) _ _ ?_|refine(Es O J _ (λx U d hd=>λN Q I=>AI N d _ Q λ_ N1 aa=>Y x U d hd (zh g4 U) N1 _ λN2 ab ac N3 ae=>I N3 (by omega)) _ _) _ _ ?_|fail
 ·have h:(zK k nm ot n ty re&&(es.length:Int)==Cw k nm)=true:=by assumption
  exact Qb (I _ (by omega)) (by rw[h,Bool.and_true])
 ·have h:(zK k nm ot n ty re&&(es.length:Int)==Cw k nm)=false:=by assumption
  exact Qb (I _ (by omega)) (by rw[h,Bool.and_false])
theorem G8 (t:Tm)(d:D)(hd:t.Is d)(hc:t.G):ws 46 [.dg 9 d] t.ok:=λN Q I=>by
 refine Jz N _ Q λ_=>?_
 repeat' first|with_reducible intro _|simp only[Y1,Y2,Y3,Y4]|with_reducible refine X ?_ ?_|refine⟨_,_,_,rfl,?_⟩|refine⟨_,rfl,?_⟩|refine X0 ?_|refine(PN t d hd hc) _ _ ?_|fail
 exact I _ (by omega)
theorem I3 (t:Tm)(d:D)(hd:t.Is d)(hc:t.cnt<=1073741824):ws 46 [.dg 9 d] t.ok:=G8 t d hd (Tm.G_cnt t hc)
theorem X1:∀(t:Ty)(d:D),t.Is d->t.cnt<=1073741824->Wk 129 [.dg 2 d] t:=by
 refine Ty.ind λk l ih d hd hc N Q hQ=>?_;obtain⟨a,es,c,rfl,Y,aa⟩:=Ty.is_mk.1 hd;have hl:=aa.len;simp only[Ty.cnt]at hc;have al:=r6 l;refine GF N _ Q λ_=>⟨_,rfl,_,_,_,rfl,?_⟩
 have key:=up aa Y (λi xs=>∀(N':Nat),N<=N'->(i=0->v6 Q N a es c es.length i 0 none [] 0 k none [] 0 N')/\∀(m q:Nat) (r:List D),m=r.length->All2 Ty.Is (l.take i) r->OwnL N N' r ->
  yy Q N a es c es.length i 0 none [] 0 k m q r q N') ?_ ?_
 ·exact(key N (oC _)).1 rfl
 ·intro i ab hi N' ai;refine⟨λh0=>rS ?_,λm q r hm U ho=>u5 ?_⟩
  ·repeat' first|with_reducible intro _|simp only[ab,Y1,Y2,Y3,Y4]|with_reducible refine X ?_ ?_|refine⟨_,_,_,rfl,?_⟩|refine⟨_,rfl,?_⟩|refine X0 ?_|fail
   have:l=[]:=oM (by omega);subst this;exact hQ _ _ (by omega) (tS _) J6
  ·repeat' first|with_reducible intro _|simp only[ab,Y1,Y2,Y3,Y4]|with_reducible refine X ?_ ?_|refine⟨_,_,_,rfl,?_⟩|refine⟨_,rfl,?_⟩|refine X0 ?_|fail
   rename_i a' N3 J hf N4 aj;rw[ou (by omega)]at U;exact hQ _ _ (by omega) (Ty.is_mk.2 ⟨_,_,_,rfl,by have:=U.len;omega,U⟩) (IW (xa (wD ((Hk ho hf (by omega)).mono (oC _) aj))))
 ·intro i x xs I _ ac N' ai;have hb:=I.b;have am:=xl I.m;refine⟨λh0=>rS ?_,λm q r hm U ho=>u5 ?_⟩
  ·repeat' first|with_reducible intro _|simp only[I.lt,I.w,oH,Y1,Y2,Y3,Y4]|with_reducible refine X ?_ ?_|refine⟨_,_,_,rfl,?_⟩|refine⟨_,rfl,?_⟩|refine X0 ?_|refine(ih x I.m _ I.r (by omega)) _ _ ?_|fail
   rename_i N2 ae d' N3 J hx O ak ah;subst h0;exact⟨by unfold zC;simp,λc2=>(ac _ (by omega)).2 _ _ _ rfl (by rw[wj I.g];exact⟨_,_,rfl,hx,rfl⟩) (wD (O.mono (by omega) (oC _)))⟩
  ·repeat' first|with_reducible intro _|simp only[I.lt,I.w,oH,Y1,Y2,Y3,Y4]|with_reducible refine X ?_ ?_|refine⟨_,_,_,rfl,?_⟩|refine⟨_,rfl,?_⟩|refine X0 ?_|refine(ih x I.m _ I.r (by omega)) _ _ ?_|fail
   rename_i N2 ae d' N3 J hx O ak ah;have ao:=U.len;have aq:(l.take i).length=i:=by rw[nF];omega
   refine⟨by unfold zC;simp only[oJ,nZ];omega,λc2=>?_⟩;exact(ac _ (by omega)).2 _ _ _ rfl (by rw[wj I.g];exact U.snoc hx) (wo (ho.mono (oC _) ae) (wD O) (by omega) J)
theorem tg {a:Option Addr}{z c:Nat}{es:List D}:∀ x∈(D.sl a z es c).foot,x∈zI es\/∃ ad,a=some ad/\x=ad.block:=by
 intro x hx;cases a with
 | none=>simp only[D.foot]at hx;exact .inl hx
 | some ad=>
   simp only[D.foot]at hx;split at hx
   ·simp at hx
   ·rcases oF.1 hx with rfl | hx
    ·exact .inr ⟨ad,rfl,rfl⟩
    ·exact .inl hx
theorem uC {bs:List (Option Addr)}{N N':Nat}{d:D}(J:w8 N bs)(O:Own N N' d):Off bs d:=λa U ad I Y=>by
 have:=J a U ad I
 have:=O.lo _ Y
 omega
mutual
def Tm.sz:Tm->Nat
 | .mk _ _ _ _ _ _ l=>1+yB l
def yB:List Tm->Nat
 | []=>0
 | t::I=>t.sz+yB I
end
mutual
theorem Tm.sz_cnt:∀ t:Tm,t.sz<=t.cnt
 | .mk _ _ _ _ ty re l=>by simp only[Tm.sz,Tm.cnt];have:=F3 l;omega
theorem F3:∀ l:List Tm,yB l<=zj l
 | []=>oC _
 | t::I=>by simp only[yB,zj];have:=t.sz_cnt;have:=F3 I;omega
end
def Yn (k:Int):Bool:=inB k 1 5||k==8
mutual
def Tm.isB:Tm->Bool
 | .mk k _ _ _ _ _ l=>Zm l&&Yn k
def Zm:List Tm->Bool
 | []=>true
 | t::I=>t.isB&&Zm I
end
def Tm.vd (t:Tm):Bool:=decide (t.sz<=80)&&decide (t.dp<=20)&&t.ok
theorem yw (l:List ByteArray)(hl:l.length<=4611686018427387904)(a:Option Addr)(c:Nat)(s:ByteArray):Dx 99 [.sv a 0 (zA l) c,.str s] (AR (λx=>decide (x=s)) l 0):=λN Q hQ=>by
 have O:=xm l;have U:(zA l).length<=4611686018427387904:=by rw[O.len];exact hl
 refine He N a _ c s Q λ_=>?_;refine up O U (λi xs=>∀(N':Nat),N<=N'->(∀ N'',N'<=N''->Q (AR (λx=>decide (x=s)) xs i) N'')->wZ Q N a (zA l) c s i N') ?_ ?_ N (oC _) hQ
 ·intro i aa _ N' Y I;refine qO ?_
  repeat' first|with_reducible intro _|simp only[aa,Y1,Y2,Y3,Y4]|with_reducible refine X ?_ ?_|refine⟨_,_,_,rfl,?_⟩|refine⟨_,rfl,?_⟩|refine X0 ?_|fail
  exact I _ (by omega)
 ·intro i x xs J _ ab N' Y I;have hb:=J.b;have hr:=J.r;simp only[AR]at I;refine qO ?_
  repeat' first|with_reducible intro _|simp only[J.lt,J.w,oH,hr,Y1,Y2,Y3,Y4]|with_reducible refine X ?_ ?_|refine⟨_,_,_,rfl,?_⟩|refine⟨_,rfl,?_⟩|refine X0 ?_|fail
  ·rename_i h _ _;subst h;exact Qi (I _ (by omega)) (by simp)
  ·rename_i h;exact ab _ Y λN'' h2=>Qi (I _ h2) (by rw[if_neg (by simpa using h)];simp)
theorem uD (l:List ByteArray)(s:ByteArray):zA l++[.t s]=zA (l++[s]):=by simp[zA]
theorem zM (l:List ByteArray):(zA l).length=l.length:=by simp[zA]
theorem Di {N N1 N2:Nat}{es fs:List D}(I:OwnL N1 N2 es)(J:OwnL N N1 fs)(hN:N<=N1)(O:N1<=N2):OwnL N N2 (es++fs):=by
 refine⟨?_,xL I.fl J.fl,λb hb=>?_,λb hb=>?_⟩
 ·rw[zJ,nX];refine⟨I.nd,J.nd,λa U b hb Y=>?_⟩
  have:=I.lo a U;have:=J.hi b hb;omega
 ·rw[zJ]at hb;rcases oK.1 hb with hb | hb
  ·have:=I.lo b hb;omega
  ·exact J.lo b hb
 ·rw[zJ]at hb;rcases oK.1 hb with hb | hb
  ·exact I.hi b hb
  ·have:=J.hi b hb;omega
theorem NO {a:Option Addr}{z c:Nat}{es:List D}(h:(zI es).Nodup)(I:∀ ad,a=some ad->ad.block∉zI es):(D.sl a z es c).foot.Nodup:=by
 cases a with
 | none=>simpa only[D.foot]using h
 | some ad=>
   simp only[D.foot];split
   ·exact mN
   ·exact mA.2 ⟨I ad rfl,h⟩
theorem OQ {N0 N1 N2 N3:Nat} {hd r xs es:List D} {l0 l1 l2 l3:Value} {a:Option Addr} {c:Nat} {ds:List D} (h1:OwnL N0 N1 (hd++r)) (J:OwnL N1 N2 (xs++es)) (hf:Fresh N0 N3 a ds) (g1:N0<=N1) (g2:N1<=N2) (g3:N2<=N3)
  (d1:∀ ad,a=some ad->ad.block∉zI (hd++r)) (d2:∀ ad,a=some ad->ad.block∉zI (xs++es)):OwnL N0 N3 (hd++(r++[.ag (.lit l0::.lit l1::.lit l2::.lit l3::(xs++[.sl a 9 es c]))])):=by
 have ah:=h1.nd;have I:=J.nd;rw[zJ]at ah I;have e:zI (hd++(r++[.ag (.lit l0::.lit l1::.lit l2::.lit l3::(xs++[.sl a 9 es c]))]))=zI (hd++r)++(zI xs++(D.sl a 9 es c).foot):=by simp only[zJ,zI,D.foot,ob,nH,mD]
 have aa:=h1.fl;have ab:=J.fl;have O:∀ b,b∈(D.sl a 9 es c).foot->b∈zI (xs++es)\/∃ ad,a=some ad/\b=ad.block:=λb U=>by
  rcases tg b U with h | h
  ·left;rw[zJ];exact nP _ h
  ·exact .inr h
 refine⟨?_,?_,λb U=>?_,λb U=>?_⟩
 ·rw[e,nX];refine⟨h1.nd,?_,λx hx y hy Y=>?_⟩
  ·rw[nX]at I ⊢;refine⟨I.1,NO I.2.1 λad h hc=>d2 ad h (by rw[zJ];exact nP _ hc),λx hx y hy Y=>?_⟩;subst Y;rcases tg x hy with h | ⟨ad,h9,h'⟩
   ·exact I.2.2 x hx x h rfl
   ·subst h';exact d2 ad h9 (by rw[zJ];exact oq _ hx)
  ·subst Y;have aj:=h1.hi x hx;rcases oK.1 hy with h | h
   ·have:=J.lo x (by rw[zJ];exact oq _ h);omega
   ·rcases O x h with h | ⟨ad,h9,h'⟩
    ·have:=J.lo x h;omega
    ·subst h';exact d1 ad h9 hx
 ·have ac:wW xs/\wW es:=by
   have:∀(u v:List D),wW (u++v)->wW u/\wW v:=by
    intro u
    induction u with
    | nil=>intro v h;exact⟨trivial,h⟩
    | cons y u ih=>intro v h;obtain⟨g1,g2⟩:=ih v h.2;exact⟨⟨h.1,g1⟩,g2⟩
   exact this _ _ ab
  have ae:wW hd/\wW r:=by
   have:∀(u v:List D),wW (u++v)->wW u/\wW v:=by
    intro u
    induction u with
    | nil=>intro v h;exact⟨trivial,h⟩
    | cons y u ih=>intro v h;obtain⟨g1,g2⟩:=ih v h.2;exact⟨⟨h.1,g1⟩,g2⟩
   exact this _ _ aa
  refine xL ae.1 (xL ae.2 ⟨?_,trivial⟩);have ai:D.Flat0 (.sl a 9 es c):=⟨λad h=>hf.off ad h,ac.2⟩
  exact⟨trivial,trivial,trivial,trivial,xL ac.1 ⟨ai,trivial⟩⟩
 ·rw[e]at U;rcases oK.1 U with h | h
  ·exact h1.lo b h
  ·rcases oK.1 h with h | h
   ·have:=J.lo b (by rw[zJ];exact oq _ h);omega
   ·rcases O b h with h | ⟨ad,h9,h'⟩
    ·have:=J.lo b h;omega
    ·subst h';exact hf.lo ad h9
 ·rw[e]at U;rcases oK.1 U with h | h
  ·have:=h1.hi b h;omega
  ·rcases oK.1 h with h | h
   ·have:=J.hi b (by rw[zJ];exact oq _ h);omega
   ·rcases O b h with h | ⟨ad,h9,h'⟩
    ·have:=J.hi b h;omega
    ·subst h';exact hf.hi ad h9
theorem UG:∀(t:Tm) (d:D),t.Is d->t.cnt<=1073741824->∀(N:Nat) (Q:QT [.pk,.i,.str,.str,.i,.dc,.dc,.dc,.dc,.row 29 9]),
  (match t with | .mk k nm ot n ty re l=>∀ x4 x5 x6 x7 Y c' N',N<=N'->Tm.Hd nm ot ty re x4 x5 x6 x7->All2 Tm.Is l Y->OwnL N N' ([x4,x5,x6,x7]++Y)->Q k nm ot n x4 x5 x6 x7 Y c' N') ->
  ACalls prog 27 [.pk,.i,.str,.str,.i,.dc,.dc,.dc,.dc,.row 29 9] [.dg 9 d] N Q:=by
 refine Tm.ind λk nm ot n0 ty re l ih d hd hc N Q hQ=>?_;obtain⟨t0,t1,r0,r1,a,es,c,rfl,hh,ab,ac⟩:=Tm.is_mk.1 hd;have hl:=ac.len;simp only[Tm.cnt]at hc;have a6:=v7 l;simp only at hQ;refine Bw N _ Q λ_=>?_
 repeat' first|with_reducible intro _|simp only[Y1,Y2,Y3,Y4]|with_reducible refine X ?_ ?_|refine⟨_,_,_,rfl,?_⟩|refine⟨_,rfl,?_⟩|refine X0 ?_|refine(zP _ _ hh.ty (by omega)) _ _ ?_|refine(zP _ _ hh.re (by omega)) _ _ ?_|fail
 rename_i N1 ah O N2 a7 hx ai _ _ N3 aj y N4 a8 hy ak _ _;have al:Tm.Hd nm ot ty re (O.cell 0) (O.cell 1) (y.cell 0) (y.cell 1):=⟨hh.nm,hh.ot,Ty.is_cells hx,Ty.is_cells hy⟩
 have am:OwnL N N4 ([O.cell 0,O.cell 1,y.cell 0,y.cell 1]++[]):=by have h:=wo ((rJ hx ai).mono ah (oC _)) ((rJ hy ak).mono aj (oC _)) (by omega) (by omega);exact h
 refine up ac ab (λi xs=>∀(done:List D) (q N':Nat),N4<=N'->All2 Tm.Is (l.take i) done->done.length=i->OwnL N N' ([O.cell 0,O.cell 1,y.cell 0,y.cell 1]++done) ->
  xy Q N i (.ag [.j k,.t nm,.t ot,.j n0,t0,t1,r0,r1,.sl a 9 es c]) 0 (bytes []) (bytes []) 0 0 none [] 0 0 none [] 0 none [] 0 k nm ot n0 (O.cell 0) (O.cell 1) (y.cell 0) (y.cell 1) done.length q done q N') ?_ ?_ [] 0 N4 (oC _) rfl rfl am
 ·intro i ao hi done q N' aq hd ae ho;refine vU ⟨_,_,_,rfl,?_⟩;rw[ou (by omega)]at hd;rw[ao];exact⟨⟨rfl,rfl⟩,λN5 aa=>hQ _ _ _ _ _ _ _ (by omega) al hd (ho.mono (oC _) aa)⟩
 ·intro i x xs I _ au done q N' aq hd ae ho;have hb:=I.b;have aw:=xz I.m;refine vU ⟨_,_,_,rfl,?_⟩;rw[I.lt];refine⟨_,_,_,rfl,⟨by omega,by omega⟩,λN5 aa=>?_⟩;rw[oH,I.w];refine ih x I.m _ I.r (by omega) _ _ ?_;cases x with
  | mk k2 ba bc n2 bg bh l2=>
    intro x4 x5 x6 x7 bi c2 N6 bj ax U ay _ _;have bm:=U.len;have az:=v7 l2;simp only[Tm.cnt]at aw;refine⟨⟨rfl,rfl⟩,λa2 N7 bp hf=>⟨⟨rfl,rfl⟩,by unfold zC;rw[oJ];simp only[oO,oU];omega,λc3=>?_⟩⟩;refine au _ _ _ (by omega) (by rw[wj I.g];exact hd.snoc (Tm.is_mk.2 ⟨_,_,_,_,_,_,_,rfl,ax,by omega,U⟩)) (by simp[ae]) ?_;refine OQ (hd:=[O.cell 0,O.cell 1,y.cell 0,y.cell 1]) (xs:=[x4,x5,x6,x7]) (ho.mono (oC _) aa) ay hf (by omega) (by omega) (by omega) ?_ ?_
    ·intro ad h hc;have J:=hf.ap ad h;simp only[oF,nT,D.foot,oZ,false_imp_iff,implies_true,and_true]at J;simp only[nS,ob,zI,oK]at hc;obtain⟨_,_,_,_,_,g1,g2,g3,g4,g5⟩:=J;rcases hc with hc | hc | hc | hc | hc
     ·exact g1 hc
     ·exact g2 hc
     ·exact g3 hc
     ·exact g4 hc
     ·exact g5 hc
    ·intro ad h hc;have J:=hf.ap ad h;simp only[oF,nT,D.foot,oZ,false_imp_iff,implies_true,and_true]at J;simp only[nS,ob,zI,oK]at hc;obtain⟨g5,g1,g2,g3,g4,_⟩:=J;rcases hc with hc | hc | hc | hc | hc
     ·exact g1 hc
     ·exact g2 hc
     ·exact g3 hc
     ·exact g4 hc
     ·exact g5 hc
theorem Qz {N N':Nat}{es:List D}(h:OwnL N N' es):OwnL N N' (.sl none 2 [] 0::es):=
 ⟨by simpa only[zI,D.foot,ob]using h.nd,⟨⟨by simp,trivial⟩,h.fl⟩,by simpa only[zI,D.foot,ob]using h.lo,by simpa only[zI,D.foot,ob]using h.hi⟩
theorem En (k:Int) {l:List Tm} {es:List D} (Y:All2 Tm.Is l es) (am:es.length<=1073741824) (hc:∀ x∈l,x.cnt<=1073741824) (a:Option Addr) (c:Nat) (N:Nat) (Q:QT [.ag 9])
  (hQ:∀ d' N',N<=N'->(Tm.mk k (bytes []) (bytes []) 0 (.mk 0 []) (.mk 0 []) l).Is d'->Own N N' d'->Q d' N') :
  ACalls prog 82 [.ag 9] [.j k,.sv a 9 es c] N Q:=by
 have hl:=Y.len;refine Jw N _ a es c Q λ_=>?_;refine up Y (by omega) (λi xs=>∀(done:List D) (q N':Nat),N<=N'->All2 Tm.Is (l.take i) done->done.length=i->OwnL N N' done ->
  vN Q N a es c i 0 (bytes []) (bytes []) 0 0 none [] 0 0 none [] 0 none [] 0 k (bytes []) (bytes []) 0 0 none [] 0 0 none [] 0 done.length q done q N') ?_ ?_ [] 0 N (oC _) rfl rfl JG
 ·intro i ab hi done q N' ac hd aa ho;refine qg ?_;rw[ou (by omega)]at hd;rw[ab];refine⟨⟨rfl,rfl⟩,⟨rfl,rfl⟩,⟨rfl,rfl⟩,λa1 N4 ae hf N5 U=>hQ _ _ (by omega) (Tm.is_mk.2 ⟨_,_,_,_,_,_,_,rfl,⟨by decide,by decide,tS _,tS _⟩,by omega,hd⟩) ?_⟩;exact IW (xa (xa (xa (xa (xa (Qz (xa (Qz (wD ((Hk ho hf ae).mono (oC _) U))))))))))
 ·intro i x xs J _ ah done q N' ac hd aa ho;have hb:=J.b;have ai:=hc x J.m;refine qg ?_;rw[J.lt];refine⟨⟨by omega,by omega⟩,λN5 U=>?_⟩;rw[oH,J.w];refine UG x _ J.r (by omega) _ _ ?_;cases x with
  | mk k2 aq au n2 aw ax l2=>
    intro x4 x5 x6 x7 aj c2 N6 ay ak O al _ _;have az:=O.len;have ao:=v7 l2;simp only[Tm.cnt]at ai;refine⟨⟨rfl,rfl⟩,λa2 N7 a6 hf=>⟨⟨rfl,rfl⟩,by unfold zC;rw[oJ];simp only[oO,oU];omega,λc3=>?_⟩⟩;refine ah _ _ _ (by omega) (by rw[wj J.g];exact hd.snoc (Tm.is_mk.2 ⟨_,_,_,_,_,_,_,rfl,ak,by omega,O⟩)) (by simp[aa]) ?_;refine OQ (hd:=[]) (xs:=[x4,x5,x6,x7]) (ho.mono (oC _) U) al hf (by omega) (by omega) (by omega) ?_ ?_
    ·intro ad h hc;have I:=hf.ap ad h (.ag done) (by simp);exact I (by simpa only[D.foot,ob]using hc)
    ·intro ad h hc;have I:=hf.ap ad h;simp only[nS,ob,zI,oK]at hc;rcases hc with hc | hc | hc | hc | hc
     ·exact I x4 (by simp) hc
     ·exact I x5 (by simp) hc
     ·exact I x6 (by simp) hc
     ·exact I x7 (by simp) hc
     ·exact I (.ag aj) (by simp) (by simpa only[D.foot]using hc)
def Tm.nod (k:Int)(l:List Tm):Tm:=.mk k (bytes []) (bytes []) 0 (.mk 0 []) (.mk 0 []) l
theorem Iy {t:Tm}{d:D}(h:t.Is d):All2 Tm.Is [t] [d]:=⟨d,[],rfl,h,rfl⟩
theorem UA {t u:Tm}{d e:D}(h:t.Is d)(g:u.Is e):All2 Tm.Is [t,u] [d,e]:=⟨d,[e],rfl,h,Iy g⟩
theorem Nf {N N':Nat}{v0 v1 v2 w:Value}{es:List D}(h:Own N N' (.ag (.lit v0::.lit v1::es))):Own N N' (.ag (.lit v0::.lit w::es)):=
 ⟨by simpa only[zI,D.foot,ob]using h.nd,h.fl,by simpa only[zI,D.foot,ob]using h.lo,by simpa only[zI,D.foot,ob]using h.hi⟩
def Tm.letN (s:ByteArray)(t u:Tm):Tm:=.mk 8 s (bytes []) 0 (.mk 0 []) (.mk 0 []) [t,u]
theorem VN (s:ByteArray)(hs:s.size<=4611686018427387904)(t u:Tm)(d e:D)(hd:t.Is d)(he:u.Is e)(hc:t.cnt<=1073741824)(J:u.cnt<=1073741824):Cop 116 9 [.str s,.dg 9 d,.dg 9 e] (Tm.letN s t u).Is:=λN Q hQ=>by
 refine LA N s _ _ Q λ_ _=>⟨⟨rfl,rfl⟩,λa _ N1 O hb=>?_⟩
 refine En 8 (UA hd he) (by simp) (by simpa using⟨hc,J⟩) a 2 N1 _ λd' N2 ab U ho _=>⟨uC hb ho,λ_ N3 Y=>?_⟩
 obtain⟨t0,t1,r0,r1,a',es,c,rfl,hh,I,aa⟩:=Tm.is_mk.1 U;exact hQ _ _ (by omega) (Tm.is_mk.2 ⟨_,_,_,_,_,_,_,rfl,⟨hs,hh.ot,hh.ty,hh.re⟩,I,aa⟩) ((Nf (v2:=.string s) ho).mono O Y)
instance decMem (s:ByteArray) (l:List ByteArray):Decidable (s∈l):=decidable_of_iff ((l.any fun x=>decide (x=s))=true) (by simp)
def dd:List ByteArray->List ByteArray->List ByteArray
 | out,[]=>out
 | out,s::l=>dd (if s∈out then out else out++[s]) l
def sn (a b:List ByteArray):List ByteArray:=dd (dd [] a) b
def sG (I l:List ByteArray):List ByteArray:=l.filter λs=>decide (s∉I)
theorem U6:∀(out a b:List ByteArray),dd out (a++b)=dd (dd out a) b
 | out,[],b=>rfl
 | out,s::a,b=>by simp only[nS,dd];exact U6 _ a b
theorem Qw:∀(out l:List ByteArray)(x:ByteArray),x∈dd out l↔x∈out\/x∈l
 | out,[],x=>by simp[dd]
 | out,s::l,x=>by
   simp only[dd];rw[Qw];split
   ·rename_i h;constructor
    ·rintro(h1 | h1)
     ·exact .inl h1
     ·exact .inr (by simp[h1])
    ·rintro(h1 | h1)
     ·exact .inl h1
     ·rcases oF.1 h1 with rfl | h1
      ·exact .inl h
      ·exact .inr h1
   ·simp only[oK,oV,oF,oZ,nh,or_assoc]
theorem KO:∀(out l:List ByteArray),out.Nodup->(dd out l).Nodup
 | out,[],h=>h
 | out,s::l,h=>by
   simp only[dd];refine KO _ l ?_;split
   ·exact h
   ·rename_i hs;rw[nX];refine⟨h,by simp,λa J b I=>?_⟩;rw[oV]at I;subst I;exact λhc=>hs (hc ▸ J)
theorem GO:∀(out l:List ByteArray),(dd out l).length<=out.length+l.length
 | out,[]=>by simp[dd]
 | out,s::l=>by
   simp only[dd]
   have:=GO (if s∈out then out else out++[s]) l
   split at this<;>simp_all<;>omega
theorem Kc {a b:List ByteArray}{x:ByteArray}:x∈sn a b↔x∈a\/x∈b:=by unfold sn;rw[Qw,Qw];simp
theorem MC (a b:List ByteArray):(sn a b).Nodup:=KO _ _ (KO _ _ mN)
theorem yD {n l:List ByteArray}{x:ByteArray}:x∈sG n l↔x∈l/\x∉n:=by simp[sG]
theorem DL:∀ {l m:List ByteArray},l.Nodup->(∀ x∈l,x∈m)->l.length<=m.length
 | [],m,_,_=>Nat.zero_le _
 | x::l,m,J,hs=>by
   obtain⟨O,U⟩:=mA.1 J;have Y:=hs x (by simp);have h3:=DL (l:=l) (m:=m.filter λy=>decide (y≠x)) U λy I=>by rw[mJ];exact⟨hs y (by simp[I]),by simp;exact λhc=>O (hc ▸ I)⟩
   have h4:=my (p:=λy=>decide (y≠x)).2 ⟨x,Y,by simp⟩;simp only[oO];omega
def zN (k:Int)(n:Nat):Int:=if k=6/\n=1 then 0 else if k=8/\n=2 then 1 else if k=9/\n=1 then 0 else -1
def bdN (k:Int)(nm ot:ByteArray)(n:Nat):List ByteArray:=if k=6/\n=1 then [nm]else if k=8/\n=2 then [nm]else if k=9/\n=1 then [nm,ot]else []
theorem qx (k:Int)(nm ot:ByteArray)(n:Nat):(bdN k nm ot n).length<=2:=by unfold bdN;(repeat' split)<;>simp
theorem xT (k:Int)(n:Nat):zN k n = -1\/(zN k n=0/\n=1/\(k=6\/k=9))\/(zN k n=1/\n=2/\k=8):=by unfold zN;(repeat' split)<;>simp_all
mutual
def Tm.fv:Tm->List ByteArray
 | .mk k nm ot _ _ _ l=>if k=1 then [nm]else tB l (zN k l.length) (bdN k nm ot l.length) 0 []
def tB:List Tm->Int->List ByteArray->Nat->List ByteArray->List ByteArray
 | [],_,_,_,out=>out
 | x::xs,at_,ns,i,out=>tB xs at_ ns (i+1) (sn out (if(i:Int)=at_ then sG ns x.fv else x.fv))
end
def fvI (at_:Int)(ns:List ByteArray)(i:Nat)(x:Tm):List ByteArray:=if(i:Int)=at_ then sG ns x.fv else x.fv
theorem Li:∀(l:List Tm)(at_:Int)(ns:List ByteArray)(i:Nat)(out:List ByteArray)(s:ByteArray),s∈tB l at_ ns i out↔s∈out\/∃(j:Nat)(x:Tm),l[j]?=some x/\s∈fvI at_ ns (i+j) x
 | [],_,_,_,out,s=>by simp[tB]
 | y :: l,at_,ns,i,out,s=>by
   simp only[tB];rw[Li,Kc];constructor
   ·rintro((h | h) | ⟨j,x,I,J⟩)
    ·exact .inl h
    ·exact .inr ⟨0,y,rfl,h⟩
    ·exact .inr ⟨j+1,x,by simpa using I,by rw[show i+(j+1)=i+1+j by omega];exact J⟩
   ·rintro(h | ⟨j,x,I,J⟩)
    ·exact .inl (.inl h)
    ·cases j with
     | zero=>simp at I;subst I;exact .inl (.inr J)
     | succ j=>exact .inr ⟨j,x,by simpa using I,by rw[show i+1+j=i+(j+1) by omega];exact J⟩
theorem Ga:∀(l:List Tm)(at_:Int)(ns:List ByteArray)(i:Nat)(out:List ByteArray),out.Nodup->(tB l at_ ns i out).Nodup
 | [],_,_,_,out,h=>h
 | y::l,at_,ns,i,out,h=>by simp only[tB];exact Ga l _ _ _ _ (MC _ _)
theorem Tm.fv_mem {k:Int}{nm ot:ByteArray}{n:Int}{ty re:Ty}{l:List Tm}{s:ByteArray}:s∈(Tm.mk k nm ot n ty re l).fv↔(k=1/\s=nm)\/(k≠1/\∃(j:Nat)(x:Tm),l[j]?=some x/\s∈fvI (zN k l.length) (bdN k nm ot l.length) j x):=by
 simp only[Tm.fv];by_cases I:k=1
 ·simp[I]
 ·rw[if_neg I,Li];simp[I]
theorem Tm.fv_nodup (t:Tm):t.fv.Nodup:=by
 cases t;simp only[Tm.fv];split
 ·simp
 ·exact Ga _ _ _ _ _ mN
def tO (k:Nat):ByteArray:=⟨(118::Lib.decDigits k).toArray⟩
theorem Vk:∀(a b:Nat),Lib.decDigits a=Lib.decDigits b->a=b:=by
 intro a;have U:∀ u,(Lib.decDigits u).length=Lib.nDigits u:=Lib.decDigits_length;have e1:∀ u,u<10->Lib.decDigits u=[UInt8.ofNat (48+u)]:=λu h=>by rw[Lib.decDigits,dif_pos h]
 have Y:∀ u,¬u<10->Lib.decDigits u=Lib.decDigits (u / 10)++[UInt8.ofNat (48+u % 10)]:=λu h=>by rw[Lib.decDigits,dif_neg h]
 have u8:∀ x y:Nat,x<10->y<10->UInt8.ofNat (48+x)=UInt8.ofNat (48+y)->x=y:=λx y hx hy h=>by
  have:=nV UInt8.toNat h
  simp only[UInt8.toNat_ofNat']at this;omega
 induction a using Nat.strongRecOn with
 | _ a ih=>
   intro b h;have J:=nV List.length h;rw[U,U]at J;by_cases I:a<10
   ·rw[Lib.nDigits_small I]at J;have O:b<10:=by
     refine lK λhc=>?_;rw[Lib.nDigits_big (by omega)]at J
     have:=Lib.nDigits_pos (b / 10)
     omega
    rw[e1 a I,e1 b O]at h;exact u8 a b I O (by simpa using h)
   ·have O:¬b<10:=λhc=>by
     rw[Lib.nDigits_big I,Lib.nDigits_small hc]at J
     have:=Lib.nDigits_pos (a / 10)
     omega
    rw[Y a I,Y b O]at h;obtain⟨h1,h2⟩:=List.append_inj' h rfl
    have:=ih (a / 10) (by omega) (b / 10) h1
    have:=u8 (a % 10) (b % 10) (by omega) (by omega) (by simpa using h2)
    omega
theorem RJ {a b:Nat}(h:tO a=tO b):a=b:=by
 have:(118::Lib.decDigits a:List UInt8)=118::Lib.decDigits b:=by
  have:=nV (λx:ByteArray=>x.data.toList) h
  simpa [tO]using this
 exact Vk a b (by simpa using this)
def qr:Nat->Nat->List ByteArray->Nat
 | 0,k,_=>k
 | f+1,k,l=>if tO k∈l then qr f (k+1) l else k
def fresh (l:List ByteArray):ByteArray:=tO (qr l.length 1 l)
theorem Sz:∀(n k:Nat),((List.range n).map λi=>tO (k+i)).Nodup:=λn k=>by
 rw[List.nodup_iff_pairwise_ne,List.pairwise_map];refine List.Pairwise.imp (λ{a b} h hc=>?_) (List.nodup_iff_pairwise_ne.1 List.nodup_range)
 have:=RJ hc
 omega
theorem Ut (l:List ByteArray)(k:Nat)(h:∀ j,1<=j->j<k->tO j∈l)(J:1<=k):k<=l.length+1:=by
 have:=DL (Sz (k - 1) 1) (m:=l) λx I=>by obtain⟨i,hi,rfl⟩:=oP.1 I;rw[List.mem_range]at hi;exact h _ (by omega) (by omega)
 simp at this;omega
theorem Gk (l:List ByteArray):∀(f k:Nat),1<=k->k+f=l.length+1->(∀ j,1<=j->j<k->tO j∈l)->1<=qr f k l/\qr f k l<=l.length+1/\tO (qr f k l)∉l/\∀ j,1<=j->j<qr f k l->tO j∈l
 | 0,k,J,h2,I=>by
   simp only[qr];refine⟨J,by omega,λhc=>?_,I⟩
   have:=Ut l (k+1) (λj O h5=>by
    by_cases U:j=k
    ·subst U;exact hc
    ·exact I j O (by omega)) (by omega)
   omega
 | f + 1,k,J,h2,I=>by
   simp only[qr];split
   ·rename_i Y;exact Gk l f (k+1) (by omega) (by omega) λj O h5=>by
     by_cases U:j=k
     ·subst U;exact Y
     ·exact I j O (by omega)
   ·rename_i Y;exact⟨J,by omega,Y,I⟩
theorem rR (l:List ByteArray):∃ k,fresh l=tO k/\1<=k/\k<=l.length+1/\tO k∉l/\∀ j,1<=j->j<k->tO j∈l:=by
 obtain⟨I,J,O,U⟩:=Gk l l.length 1 (oC _) (by omega) λj I J=>by omega
 exact⟨_,rfl,I,J,O,U⟩
theorem yb (l:List ByteArray):fresh l∉l:=by obtain⟨k,h,_,_,I,_⟩:=rR l;rw[h];exact I
theorem TC {l m:List ByteArray}(h:∀ x,x∈l↔x∈m):fresh l=fresh m:=by
 obtain⟨k,e1,a1,a2,a3,a4⟩:=rR l;obtain⟨j,I,J,Y,O,U⟩:=rR m;rw[e1,I];congr 1;refine Nat.le_antisymm (lL λhc=>?_) (lL λhc=>?_)
 ·exact O ((h _).1 (a4 j J hc))
 ·exact a3 ((h _).2 (U k a1 hc))
def tm0:Tm:=.mk 0 (bytes []) (bytes []) 0 (.mk 0 []) (.mk 0 []) []
def xk (s:ByteArray):Tm:=.mk 1 s (bytes []) 0 (.mk 0 []) (.mk 0 []) []
theorem A9 (s:ByteArray):(xk s).fv=[s]:=rfl
def rn1 (S:Tm->ByteArray->Tm->Tm)(k:Int)(n:Nat)(fb:List ByteArray)(x old:ByteArray)(s:ByteArray × ByteArray × Tm):ByteArray × ByteArray × Tm:=
 if old∈fb then
  (if s.1=old then(fresh (fb++(s.2.2.fv++([x]++bdN k s.1 s.2.1 n))),s.2.1,S s.2.2 old (xk (fresh (fb++(s.2.2.fv++([x]++bdN k s.1 s.2.1 n))))))
   else(s.1,fresh (fb++(s.2.2.fv++([x]++bdN k s.1 s.2.1 n))),S s.2.2 old (xk (fresh (fb++(s.2.2.fv++([x]++bdN k s.1 s.2.1 n)))))))
 else s
def rns (S:Tm->ByteArray->Tm->Tm)(k:Int)(n:Nat)(fb:List ByteArray)(x:ByteArray):List ByteArray->ByteArray × ByteArray × Tm->ByteArray × ByteArray × Tm
 | [],s=>s
 | old::l,s=>rns S k n fb x l (rn1 S k n fb x old s)
def Tm.sub:Nat->Tm->ByteArray->Tm->Tm
 | 0,e,_,_=>e
 | f + 1,.mk k nm ot n ty re l,x,b=>
   if k=1 then(if nm=x then b else .mk k nm ot n ty re l)
   else if zN k l.length<0 then .mk k nm ot n ty re (l.map λt=>Tm.sub f t x b)
   else if x∈bdN k nm ot l.length\/x∉(l.getD (zN k l.length).toNat tm0).fv then
    .mk k nm ot n ty re ((l.map λt=>Tm.sub f t x b).set (zN k l.length).toNat (l.getD (zN k l.length).toNat tm0))
   else
    .mk k (rns (Tm.sub f) k l.length b.fv x (bdN k nm ot l.length) (nm,ot,l.getD (zN k l.length).toNat tm0)).1
     (rns (Tm.sub f) k l.length b.fv x (bdN k nm ot l.length) (nm,ot,l.getD (zN k l.length).toNat tm0)).2.1 n ty re
     ((l.map λt=>Tm.sub f t x b).set (zN k l.length).toNat (Tm.sub f (rns (Tm.sub f) k l.length b.fv x (bdN k nm ot l.length) (nm,ot,l.getD (zN k l.length).toNat tm0)).2.2 x b))
theorem yM {k:Int}{n:Nat}(h:¬zN k n<0):(zN k n).toNat<n/\((zN k n).toNat:Int)=zN k n:=by
 rcases xT k n with I | ⟨I,J,_⟩ | ⟨I,J,_⟩
 ·omega
 ·rw[I];subst J;exact⟨by decide,rfl⟩
 ·rw[I];subst J;exact⟨by decide,rfl⟩
theorem zH {l:List Tm}{i:Nat}(h:i<l.length):l[i]?=some (l.getD i tm0):=by rw[oA,oI h];rfl
theorem Ez:∀(f:Nat)(e:Tm)(x:ByteArray)(b:Tm),x∉e.fv->e.sub f x b=e
 | 0,e,x,b,_=>rfl
 | f + 1,.mk k nm ot n ty re l,x,b,h=>by
   rw[Tm.fv_mem]at h;simp only[not_or,not_and,not_exists]at h;obtain⟨h1,Y⟩:=h;simp only[Tm.sub];have part:k≠1->∀(j:Nat) (y:Tm),l[j]?=some y->(j:Int)≠zN k l.length->y.sub f x b=y:=λI j y J O=>by
    refine Ez f y x b λhc=>?_
    have:=Y I j y J
    unfold fvI at this;rw[if_neg O]at this;exact this hc
   split
   ·rename_i I;rw[if_neg (λhc=>h1 I hc.symm)]
   ·rename_i I;split
    ·rename_i hb;congr 1;refine(nJ λy hy=>?_).trans (List.map_id l);obtain⟨j,J⟩:=oQ.1 hy;exact part I j y J (by omega)
    ·rename_i hb;obtain⟨U,g2⟩:=yM hb;split
     ·congr 1;apply nO;intro i;rw[nW];split
      ·rename_i hi;subst hi;rw[if_pos (by simpa using U),zH U]
      ·rename_i hi;rw[oE];cases hl:l[i]? with
       | none=>rfl
       | some y=>simp only[oa];rw[part I i y hl (by omega)]
     ·rename_i hc;exfalso;simp only[not_or,mO]at hc
      have:=Y I _ _ (zH U)
      unfold fvI at this;rw[if_pos g2,yD]at this;exact this ⟨hc.2,hc.1⟩
def sF (t:Tm)(N:Nat)(Q:QT [.pk,.i,.str,.str,.i,.dc,.dc,.dc,.dc,.row 29 9]):Prop:=
 match t with | .mk k nm ot n ty re l=>∀ J O U Y I c' N',N<=N'->Tm.Hd nm ot ty re J O U Y->All2 Tm.Is l I->OwnL N N' ([J,O,U,Y]++I)->Q k nm ot n J O U Y I c' N'
theorem BR {N I:Nat}{a:Option Addr}{ds:List D}{es:List D}(J:Fresh N I a ds)(h:∀ b,b∈zI es->∃ d∈ds,b∈d.foot):∀ ad,a=some ad->ad.block∉zI es:=λad O hc=>by obtain⟨d,hd,U⟩:=h _ hc;exact J.ap ad O d hd U
theorem wr:∀(t:Tm) (d:D),t.Is d->t.G->∀(N:Nat) (Q:QT [.pk,.i,.str,.str,.i,.dc,.dc,.dc,.dc,.row 29 9]),sF t N Q ->
  ACalls prog 27 [.pk,.i,.str,.str,.i,.dc,.dc,.dc,.dc,.row 29 9] [.dg 9 d] N Q:=by
 refine Tm.ind λk nm ot n0 ty re l ih d hd hG N Q hQ=>?_;obtain⟨t0,t1,r0,r1,a,es,c,rfl,hh,Y,aa⟩:=Tm.is_mk.1 hd;have hl:=aa.len;obtain⟨g1,g2,g3,g4⟩:=hG;simp only[sF]at hQ;refine Bw N _ Q λ_=>?_
 repeat' first|with_reducible intro _|simp only[Y1,Y2,Y3,Y4]|with_reducible refine X ?_ ?_|refine⟨_,_,_,rfl,?_⟩|refine⟨_,rfl,?_⟩|refine X0 ?_|refine(zP _ _ hh.ty g1) _ _ ?_|refine(zP _ _ hh.re g2) _ _ ?_|fail
 rename_i N1 ae J N2 ay hx ah _ _ N3 ai y N4 az hy aj _ _;have ak:Tm.Hd nm ot ty re (J.cell 0) (J.cell 1) (y.cell 0) (y.cell 1):=⟨hh.nm,hh.ot,Ty.is_cells hx,Ty.is_cells hy⟩
 have al:OwnL N N4 ([J.cell 0,J.cell 1,y.cell 0,y.cell 1]++[]):=by have h:=wo ((rJ hx ah).mono ae (oC _)) ((rJ hy aj).mono ai (oC _)) (by omega) (by omega);exact h
 refine up aa Y (λi xs=>∀(done:List D) (q N':Nat),N4<=N'->All2 Tm.Is (l.take i) done->done.length=i->OwnL N N' ([J.cell 0,J.cell 1,y.cell 0,y.cell 1]++done) ->
  xy Q N i (.ag [.j k,.t nm,.t ot,.j n0,t0,t1,r0,r1,.sl a 9 es c]) 0 (bytes []) (bytes []) 0 0 none [] 0 0 none [] 0 none [] 0 k nm ot n0 (J.cell 0) (J.cell 1) (y.cell 0) (y.cell 1) done.length q done q N') ?_ ?_ [] 0 N4 (oC _) rfl rfl al
 ·intro i am hi done q N' ao hd ab ho;refine vU ⟨_,_,_,rfl,?_⟩;rw[ou (by omega)]at hd;rw[am];exact⟨⟨rfl,rfl⟩,λN5 U=>hQ _ _ _ _ _ _ _ (by omega) ak hd (ho.mono (oC _) U)⟩
 ·intro i x xs I _ aq done q N' ao hd ab ho;have hb:=I.b;have ac:=zh g4 I.m;refine vU ⟨_,_,_,rfl,?_⟩;rw[I.lt];refine⟨_,_,_,rfl,⟨by omega,by omega⟩,λN5 U=>?_⟩;rw[oH,I.w];refine ih x I.m _ I.r ac _ _ ?_;cases x with
  | mk k2 a6 a7 n2 a8 ba l2=>
    intro x4 x5 x6 x7 au c2 N6 bc aw O ax _ _;have bg:=O.len;have bh:=ac.2.2.1;refine⟨⟨rfl,rfl⟩,λa2 N7 bi hf=>⟨⟨rfl,rfl⟩,by unfold zC;rw[oJ];simp only[oO,oU];omega,λc3=>?_⟩⟩;refine aq _ _ _ (by omega) (by rw[wj I.g];exact hd.snoc (Tm.is_mk.2 ⟨_,_,_,_,_,_,_,rfl,aw,by omega,O⟩)) (by simp[ab]) ?_;refine OQ (hd:=[J.cell 0,J.cell 1,y.cell 0,y.cell 1]) (xs:=[x4,x5,x6,x7]) (ho.mono (oC _) U) ax hf (by omega) (by omega) (by omega) (BR hf λb hb=>?_) (BR hf λb hb=>?_)
    ·simp only[nS,ob,zI,oK]at hb;rcases hb with hb | hb | hb | hb | hb
     ·exact⟨_,by simp,hb⟩
     ·exact⟨J.cell 1,by simp,hb⟩
     ·exact⟨y.cell 0,by simp,hb⟩
     ·exact⟨y.cell 1,by simp,hb⟩
     ·exact⟨.ag done,by simp,by simpa only[D.foot]using hb⟩
    ·simp only[nS,ob,zI,oK]at hb;rcases hb with hb | hb | hb | hb | hb
     ·exact⟨x4,by simp,hb⟩
     ·exact⟨x5,by simp,hb⟩
     ·exact⟨x6,by simp,hb⟩
     ·exact⟨x7,by simp,hb⟩
     ·exact⟨.ag au,by simp,by simpa only[D.foot]using hb⟩
theorem MF {k:Int} {nm ot:ByteArray} {n0:Int} {ty re:Ty} {t0 t1 r0 r1 x:D} (I:Tm.Hd nm ot ty re t0 t1 r0 r1) (h1:ty.cnt<=1073741824) (h2:re.cnt<=1073741824) (a:Option Addr) (es:List D) (c:Nat) (N:Nat)
  (Q:QT [.pk,.i,.str,.str,.i,.dc,.dc,.dc,.dc,.bk 1]) (hQ:∀ J O U Y N',N<=N'->Tm.Hd nm ot ty re J O U Y->OwnL N N' [J,O,U,Y]->Q k nm ot n0 J O U Y (.sl a 9 es c) N') :
  ACalls prog 90 [.pk,.i,.str,.str,.i,.dc,.dc,.dc,.dc,.bk 1] [.dg 9 (.ag [.j k,.t nm,.t ot,.j n0,t0,t1,r0,r1,x]),.sv a 9 es c] N Q:=by
 refine EY N _ a es c Q λ_ _=>?_
 repeat' first|with_reducible intro _|simp only[Y1,Y2,Y3,Y4]|with_reducible refine X ?_ ?_|refine⟨_,_,_,rfl,?_⟩|refine⟨_,rfl,?_⟩|refine X0 ?_|refine(X1 _ _ I.ty h1) _ _ ?_|refine(X1 _ _ I.re h2) _ _ ?_|fail
 rename_i N1 aa x1 N2 ai hx ab _ _ N3 ac y N4 aj hy ae _ _ N5 ah;refine hQ _ _ _ _ _ (by omega) ⟨I.nm,I.ot,Ty.is_cells hx,Ty.is_cells hy⟩ ?_;exact wo ((rJ hx ab).mono aa (oC _)) ((rJ hy ae).mono ac ah) (by omega) (by omega)
theorem IM:∀(t:Tm) (d:D),t.Is d->t.G->∀(N:Nat) (Q:QT [.pk,.i,.str,.str,.i,.dc,.dc,.dc,.dc,.row 29 9]),sF t N Q ->
  ACalls prog 24 [.pk,.i,.str,.str,.i,.dc,.dc,.dc,.dc,.row 29 9] [.dg 9 d] N Q:=by
 refine Tm.ind λk nm ot n0 ty re l ih d hd hG N Q hQ=>?_;obtain⟨t0,t1,r0,r1,a,es,c,rfl,hh,O,U⟩:=Tm.is_mk.1 hd;have hl:=U.len;obtain⟨g1,g2,g3,g4⟩:=hG;simp only[sF]at hQ;refine FS N _ Q λ_ N1 ah=>?_;refine qj N1 _ _ λ_=>⟨_,_,_,rfl,?_⟩
 refine up U O (λi xs=>∀(done:List D) (q N':Nat),N1<=N'->All2 Tm.Is (l.take i) done->done.length=i->OwnL N1 N' done ->
  yz _ N1 done.length q a es c es.length i (.ag [.j k,.t nm,.t ot,.j n0,t0,t1,r0,r1,.sl a 9 es c]) 0 (bytes []) (bytes []) 0 0 none [] 0 0 none [] 0 none [] 0 done q N') ?_ ?_ [] 0 N1 (oC _) rfl rfl JG
 ·intro i ai hi done q N' aj hd Y ho;refine ux ?_;rw[ou (by omega)]at hd;rw[ai];refine⟨⟨rfl,rfl⟩,λa1 a6 _ N4 ak aa=>?_⟩;refine MF hh g1 g2 a1 done q N4 _ λx4 x5 x6 x7 N5 ab al ac _=>⟨rfl,?_⟩
  have off:∀ y∈[x4,x5,x6,x7],Off [a1] y:=λy hy a' am ad ao hc=>by have h1:=aa a' am ad ao;have h2:=ac.lo _ (zQ.2 ⟨y,hy,hc⟩);omega
  refine⟨off x4 (by simp),off x5 (by simp),off x6 (by simp),off x7 (by simp),⟨rfl,rfl⟩,λN6 aq _ _=>⟨⟨rfl,rfl⟩,λN7 au=>?_⟩⟩;exact hQ _ _ _ _ _ _ _ (by omega) al hd (Di (N1:=N4) (ac.mono (oC _) (by omega)) (ho.mono ah ak) (by omega) (by omega))
 ·intro i x xs I _ aw done q N' aj hd Y ho;have hb:=I.b;have ae:=zh g4 I.m;refine ux ?_;rw[I.lt];refine⟨⟨by omega,by omega⟩,λN5 ab=>?_⟩;rw[oH,I.w];refine ih x I.m _ I.r ae _ _ ?_;cases x with
  | mk k2 a7 a8 n2 ba bc l2=>
    intro x4 x5 x6 x7 ax c2 N6 aq ay J az _ _;have bg:=J.len;have bh:=ae.2.2.1;refine⟨⟨rfl,rfl⟩,λa2 N7 au hf=>⟨⟨rfl,rfl⟩,by unfold zC;rw[oJ];simp only[oO,oU];omega,λc3=>?_⟩⟩;refine aw _ _ _ (by omega) (by rw[wj I.g];exact hd.snoc (Tm.is_mk.2 ⟨_,_,_,_,_,_,_,rfl,ay,by omega,J⟩)) (by simp[Y]) ?_;refine OQ (hd:=[]) (xs:=[x4,x5,x6,x7]) (ho.mono (oC _) ab) az hf (by omega) (by omega) (by omega) (BR hf λb hb=>?_) (BR hf λb hb=>?_)
    ·exact⟨.ag done,by simp,by simpa only[D.foot,ob]using hb⟩
    ·simp only[nS,ob,zI,oK]at hb;rcases hb with hb | hb | hb | hb | hb
     ·exact⟨x4,by simp,hb⟩
     ·exact⟨x5,by simp,hb⟩
     ·exact⟨x6,by simp,hb⟩
     ·exact⟨x7,by simp,hb⟩
     ·exact⟨.ag ax,by simp,by simpa only[D.foot]using hb⟩
theorem rT:∀ l:List ByteArray,zI (zA l)=[]
 | []=>rfl
 | s::l=>by have:=rT l;simp only[zA,oh,zI,D.foot,ob]at this ⊢;exact this
theorem Ig:∀ l:List ByteArray,wW (zA l)
 | []=>trivial
 | s::l=>⟨trivial,Ig l⟩
theorem Pi {N N':Nat}(l:List ByteArray):OwnL N N' (zA l):=⟨by rw[rT];exact mN,Ig l,by rw[rT];simp,by rw[rT];simp⟩
theorem vB {N N' M:Nat}{a:Option Addr}{l:List ByteArray}{c:Nat}{ds:List D}(I:Fresh N N' a (.ag (zA l)::ds))(h:N'<=M):Own N M (.sl a 0 (zA l) c):=(Hk (N1:=N') (Pi l) I (oC _)).mono (oC _) h
theorem GS {bs:List (Option Addr)}(l:List ByteArray):Off bs (.ag (zA l)):=λa _ ad _ hc=>by simp only[D.foot,rT]at hc;simp at hc
def UP (f:FuncId)(args:List PV)(l:List ByteArray):Prop:=∀(N:Nat) (Q:QT [.sl 0]),(∀ a c N',N<=N'->Own N N' (.sl a 0 (zA l) c)->Q a (zA l) c N')->ACalls prog f [.sl 0] args N Q
def Tc (f:FuncId)(args:List PV)(l:List ByteArray):Prop:=∀(N:Nat) (Q:QT [.row 9 0]),(∀ c N',N<=N'->Q (zA l) c N')->ACalls prog f [.row 9 0] args N Q
theorem BL {l:List ByteArray}{s:ByteArray}(h:l.length<=8796093022207):zC (zA l) [.t s] 16:=by unfold zC;rw[oJ,zM];simp only[oO,oU];omega
theorem Iw (l:List ByteArray)(hl:l.length<=2199023255552)(a:Option Addr)(c:Nat)(s:ByteArray):UP 144 [.sv a 0 (zA l) c,.str s] (l.filter λx=>decide (x≠s)):=λN Q hQ=>by
 have Y:=xm l;have O:(zA l).length<=4611686018427387904:=by rw[zM];omega
 refine Ch N a _ c s Q λ_=>?_;refine up Y O (λi xs=>∀(done:List ByteArray) (q N':Nat),N<=N'->done.length<=i->i<=l.length->done++xs.filter (λx=>decide (x≠s))=l.filter (λx=>decide (x≠s)) ->
  yR Q N a (zA l) c s (zA done).length q i (zA done) q N') ?_ ?_ [] 0 N (oC _) (by simp) (by omega) rfl
 ·intro i aa hi done q N' J ab ac hd;refine uz ?_;rw[aa];rw[List.filter_nil,nH]at hd;subst hd;exact⟨⟨rfl,rfl⟩,⟨rfl,rfl⟩,⟨rfl,rfl⟩,λa1 N1 ah hf N2 ae=>hQ _ _ _ (by omega) (vB hf ae)⟩
 ·intro i x xs I _ U done q N' J ab ac hd;have hb:=I.b;have hr:=I.r;have ai:=zM l;refine uz ?_;rw[I.lt,oH,hr,I.w];refine⟨⟨by omega,by omega⟩,_,rfl,Br.nstr (λh=>⟨⟨by omega,by omega⟩,_,rfl,⟨rfl,rfl⟩,BL (by omega),λc1=>?_⟩) λh=>?_⟩
  ·rw[uD];refine U _ _ _ J (by simp;omega) (by omega) ?_;rw[<-hd];simp[List.filter_cons,h]
  ·refine U _ _ _ J (by omega) (by omega) ?_;rw[<-hd];simp[List.filter_cons,h]
theorem FO (s:ByteArray)(l:List ByteArray):decide (AR (λx=>decide (x=s)) l 0<0)=decide (s∉l):=by
 have h:=rZ (λx=>decide (x=s)) l 0 (by omega);rw[nj,nf,nf];have I:(decide (AR (λx=>decide (x=s)) l 0≥0)=true)↔(l.any λx=>decide (x=s))=true:=by rw[h]
 rw[nf]at I;simp only[List.any_eq_true,o9,exists_eq_right]at I;constructor
 ·intro O J;have:=I.2 J;omega
 ·intro O;exact Int.not_le.1 λJ=>O (I.1 J)
theorem Ct {out xs:List ByteArray}{x:ByteArray}:dd out (x::xs)=dd (if x∈out then out else out++[x]) xs:=rfl
theorem Mv {out:List ByteArray}{x:ByteArray}:(if x∈out then out else out++[x]).length<=out.length+1:=by split<;>simp
theorem rI (l m:List ByteArray)(hl:l.length<=2199023255552)(hm:m.length<=2199023255552)(a b:Option Addr)(c c':Nat):Tc 145 [.sv a 0 (zA l) c,.sv b 0 (zA m) c'] (sn l m):=fun N Q hQ=>by
 have hes:=xm l;have hlen:(zA l).length<=4611686018427387904:=by rw[zM];omega
 have hms:=xm m;have hmen:(zA m).length<=4611686018427387904:=by rw[zM];omega
 have hlw:=zM l;have hmw:=zM m;refine Cy N a _ c b _ c' Q fun _ _=>?_;have second:∀(done:List ByteArray) (q N':Nat),N<=N'->done.length<=l.length->done=dd [] l->yA Q N b (zA m) c' (zA done).length q 0 (zA done) q N':=fun done0 q0 N0 hN0 hdl0 hd0=>
  up hms hmen (fun i xs=>∀(done:List ByteArray) (q N':Nat),N<=N'->done.length<=l.length+i->dd done xs=sn l m->yA Q N b (zA m) c' (zA done).length q i (zA done) q N')
   (fun i hlt hi done q N' hN' hdl hd=>by refine sA ?_;rw[hlt];simp only[dd]at hd;subst hd;exact⟨⟨rfl,rfl⟩,fun N2 hN2=>hQ _ _ (by omega)⟩)
   (fun i x xs hat _ ih2 done q N' hN' hdl hd=>by
    have hb:=hat.b;have hr:=hat.r;have hdl2:=Mv (out:=done) (x:=x);refine sA ?_;rw[hat.lt,oH,hr,hat.w];refine⟨⟨by omega,by omega⟩,_,rfl,⟨rfl,rfl⟩,fun a1 _ N1 hN1 _=>yw done (by omega) a1 q x N1 _ fun N2 hN2 hle2=>?_⟩;rw[FO];refine Br.dec (fun h=>⟨⟨by omega,by omega⟩,_,rfl,⟨rfl,rfl⟩,BL (by omega),fun c1=>?_⟩) fun h=>?_
    ·rw[uD];rw[if_neg h]at hdl2;refine ih2 _ _ _ (by omega) (by omega) ?_;rw[<-hd,Ct,if_neg h]
    ·refine ih2 _ _ _ (by omega) (by omega) ?_;rw[<-hd,Ct,if_pos (mO.1 h)]) done0 q0 N0 hN0 (by omega) (by rw[hd0];rfl)
 refine up hes hlen (fun i xs=>∀(done:List ByteArray) (q N':Nat),N<=N'->done.length<=i->dd done xs=dd [] l ->
  yY Q N a (zA l) c b (zA m) c' (zA done).length q i (zA done) q N') ?_ ?_ [] 0 N (oC _) (by simp) rfl
 ·intro i hlt hi done q N' hN' hdl hd;refine tI ?_;rw[hlt];exact second done q N' hN' (by omega) hd
 ·intro i x xs hat _ ih2 done q N' hN' hdl hd;have hb:=hat.b;have hr:=hat.r;have hdl2:=Mv (out:=done) (x:=x);refine tI ?_;rw[hat.lt,oH,hr,hat.w];refine⟨⟨by omega,by omega⟩,_,rfl,⟨rfl,rfl⟩,fun a1 _ N1 hN1 _=>yw done (by omega) a1 q x N1 _ fun N2 hN2 hle2=>?_⟩;rw[FO];refine Br.dec (fun h=>⟨⟨by omega,by omega⟩,_,rfl,⟨rfl,rfl⟩,BL (by omega),fun c1=>?_⟩) fun h=>?_
  ·rw[uD];rw[if_neg h]at hdl2;refine ih2 _ _ _ (by omega) (by omega) ?_;rw[<-hd,Ct,if_neg h]
  ·refine ih2 _ _ _ (by omega) (by omega) ?_;rw[<-hd,Ct,if_pos (mO.1 h)]
theorem S1 {N N' z c:Nat}:Own N N' (.sl none z [] c):=⟨by simp[D.foot,zI],⟨by simp,trivial⟩,by simp[D.foot,zI],by simp[D.foot,zI]⟩
theorem Qbd {Q:QT [.sl 0,.i]}{a:Option Addr}{es I:List D}{c:Nat}{n J:Int}{N:Nat}(h:Q a es c n N)(e1:es=I)(O:n=J):Q a I c J N:=e1 ▸ O ▸ h
def Wv (f:FuncId)(args:List PV)(l:List ByteArray)(n:Int):Prop:=∀(N:Nat) (Q:QT [.sl 0,.i]),(∀ a c N',N<=N'->Own N N' (.sl a 0 (zA l) c)->Q a (zA l) c n N')->ACalls prog f [.sl 0,.i] args N Q
theorem Mp {k n0:Int} {nm ot:ByteArray} {t0 t1 r0 r1:D} {a:Option Addr} {es:List D} {c n:Nat} (hn:es.length=n) :
  Wv 132 [.dg 9 (.ag [.j k,.t nm,.t ot,.j n0,t0,t1,r0,r1,.sl a 9 es c])] (bdN k nm ot n) (zN k n):=λN Q hQ=>by
 subst hn;have one:∀(x:ByteArray) (m:Int),bdN k nm ot es.length=[x]->zN k es.length=m->((1:Nat)=([D.t x]).length/\(1:Nat)=1)/\((1:Nat)=([D.t x]).length/\(1:Nat)=1)/\∀ a1 N1,N<=N1->Fresh N N1 a1 [D.ag [D.t x]]->∀ N2,N1<=N2->Q a1 [D.t x] 1 m N2:=λx m I Y=>⟨⟨rfl,rfl⟩,⟨rfl,rfl⟩,λa1 N1 J hf N2 O=>Qbd (hQ a1 1 N2 (by omega) (by rw[I];exact vB (l:=[x]) hf O)) (by rw[I];rfl) Y⟩
 have aa:bdN k nm ot es.length=[nm,ot]->zN k es.length=0->((2:Nat)=([D.t nm,D.t ot]).length/\(2:Nat)=2)/\((2:Nat)=([D.t nm,D.t ot]).length/\(2:Nat)=2)/\∀ a1 N1,N<=N1->Fresh N N1 a1 [D.ag [D.t nm,D.t ot]]->∀ N2,N1<=N2->Q a1 [D.t nm,D.t ot] 2 0 N2:=λI Y=>⟨⟨rfl,rfl⟩,⟨rfl,rfl⟩,λa1 N1 J hf N2 O=>Qbd (hQ a1 2 N2 (by omega) (by rw[I];exact vB (l:=[nm,ot]) hf O)) (by rw[I];rfl) Y⟩
 have nil:bdN k nm ot es.length=[]->zN k es.length = -1->∀ N1,N<=N1->Q none [] 0 (-1) N1:=λI Y N1 J=>Qbd (hQ none 0 N1 J (by rw[I];exact S1)) (by rw[I];rfl) Y;refine LM N _ Q λ_=>⟨_,rfl,Br.beq (λh6=>⟨_,_,_,rfl,Br.beq (λI=>⟨_,rfl,?_⟩) λI=>?_⟩) λh6=>?_⟩
 ·exact one _ _ (by unfold bdN;rw[if_pos ⟨h6,by omega⟩]) (by unfold zN;rw[if_pos ⟨h6,by omega⟩])
 ·refine⟨_,rfl,Br.beq (λh8=>by omega) λh8=>⟨_,rfl,Br.beq (λU=>by omega) λU=>?_⟩⟩;exact nil (by unfold bdN;rw[if_neg (by omega),if_neg (by omega),if_neg (by omega)]) (by unfold zN;rw[if_neg (by omega),if_neg (by omega),if_neg (by omega)])
 ·refine⟨_,rfl,Br.beq (λh8=>⟨_,_,_,rfl,Br.beq (λI=>⟨_,rfl,?_⟩) λI=>?_⟩) λh8=>?_⟩
  ·exact one _ _ (by unfold bdN;rw[if_neg (by omega),if_pos ⟨h8,by omega⟩]) (by unfold zN;rw[if_neg (by omega),if_pos ⟨h8,by omega⟩])
  ·refine⟨_,rfl,Br.beq (λU=>by omega) λU=>?_⟩;exact nil (by unfold bdN;rw[if_neg (by omega),if_neg (by omega),if_neg (by omega)]) (by unfold zN;rw[if_neg (by omega),if_neg (by omega),if_neg (by omega)])
  ·refine⟨_,rfl,Br.beq (λU=>⟨_,_,_,rfl,Br.beq (λI=>⟨_,rfl,_,rfl,?_⟩) λI=>?_⟩) λU=>?_⟩
   ·exact aa (by unfold bdN;rw[if_neg (by omega),if_neg (by omega),if_pos ⟨U,by omega⟩]) (by unfold zN;rw[if_neg (by omega),if_neg (by omega),if_pos ⟨U,by omega⟩])
   ·exact nil (by unfold bdN;rw[if_neg (by omega),if_neg (by omega),if_neg (by omega)]) (by unfold zN;rw[if_neg (by omega),if_neg (by omega),if_neg (by omega)])
   ·exact nil (by unfold bdN;rw[if_neg (by omega),if_neg (by omega),if_neg (by omega)]) (by unfold zN;rw[if_neg (by omega),if_neg (by omega),if_neg (by omega)])
theorem CM {k n0:Int} {nm ot:ByteArray} {t0 t1 r0 r1:D} {a:Option Addr} {es:List D} {c n:Nat} (hn:es.length=n) :
  Wv 142 [.dg 9 (.ag [.j k,.t nm,.t ot,.j n0,t0,t1,r0,r1,.sl a 9 es c])] (bdN k nm ot n) (zN k n):=λN Q hQ=>by
 subst hn;have one:∀(x:ByteArray) (m:Int),bdN k nm ot es.length=[x]->zN k es.length=m->((1:Nat)=([D.t x]).length/\(1:Nat)=1)/\((1:Nat)=([D.t x]).length/\(1:Nat)=1)/\∀ a1 N1,N<=N1->Fresh N N1 a1 [D.ag [D.t x]]->∀ N2,N1<=N2->Q a1 [D.t x] 1 m N2:=λx m I U=>⟨⟨rfl,rfl⟩,⟨rfl,rfl⟩,λa1 N1 Y hf N2 J=>Qbd (hQ a1 1 N2 (by omega) (by rw[I];exact vB (l:=[x]) hf J)) (by rw[I];rfl) U⟩
 have aa:bdN k nm ot es.length=[nm,ot]->zN k es.length=0->((2:Nat)=([D.t nm,D.t ot]).length/\(2:Nat)=2)/\((2:Nat)=([D.t nm,D.t ot]).length/\(2:Nat)=2)/\∀ a1 N1,N<=N1->Fresh N N1 a1 [D.ag [D.t nm,D.t ot]]->∀ N2,N1<=N2->Q a1 [D.t nm,D.t ot] 2 0 N2:=λI U=>⟨⟨rfl,rfl⟩,⟨rfl,rfl⟩,λa1 N1 Y hf N2 J=>Qbd (hQ a1 2 N2 (by omega) (by rw[I];exact vB (l:=[nm,ot]) hf J)) (by rw[I];rfl) U⟩
 have nil:bdN k nm ot es.length=[]->zN k es.length = -1->((0:Nat)=0/\(0:Nat)=0)/\((0:Nat)=0/\(0:Nat)=0)/\∀ a1 N1,N<=N1->Fresh N N1 a1 [D.ag []]->∀ N2,N1<=N2->Q a1 [] 0 (-1) N2:=λI U=>⟨⟨rfl,rfl⟩,⟨rfl,rfl⟩,λa1 N1 Y hf N2 J=>Qbd (hQ a1 0 N2 (by omega) (by rw[I];exact vB (l:=[]) hf J)) (by rw[I];rfl) U⟩
 refine G7 N _ Q λ_=>⟨_,rfl,Br.beq (λh6=>⟨_,_,_,rfl,Br.beq (λI=>⟨_,rfl,?_⟩) λI=>?_⟩) λh6=>?_⟩
 ·exact one _ _ (by unfold bdN;rw[if_pos ⟨h6,by omega⟩]) (by unfold zN;rw[if_pos ⟨h6,by omega⟩])
 ·refine⟨_,rfl,Br.beq (λh8=>by omega) λh8=>⟨_,rfl,Br.beq (λO=>by omega) λO=>?_⟩⟩;exact nil (by unfold bdN;rw[if_neg (by omega),if_neg (by omega),if_neg (by omega)]) (by unfold zN;rw[if_neg (by omega),if_neg (by omega),if_neg (by omega)])
 ·refine⟨_,rfl,Br.beq (λh8=>⟨_,_,_,rfl,Br.beq (λI=>⟨_,rfl,?_⟩) λI=>?_⟩) λh8=>?_⟩
  ·exact one _ _ (by unfold bdN;rw[if_neg (by omega),if_pos ⟨h8,by omega⟩]) (by unfold zN;rw[if_neg (by omega),if_pos ⟨h8,by omega⟩])
  ·refine⟨_,rfl,Br.beq (λO=>by omega) λO=>?_⟩;exact nil (by unfold bdN;rw[if_neg (by omega),if_neg (by omega),if_neg (by omega)]) (by unfold zN;rw[if_neg (by omega),if_neg (by omega),if_neg (by omega)])
  ·refine⟨_,rfl,Br.beq (λO=>⟨_,_,_,rfl,Br.beq (λI=>⟨_,rfl,_,rfl,?_⟩) λI=>?_⟩) λO=>?_⟩
   ·exact aa (by unfold bdN;rw[if_neg (by omega),if_neg (by omega),if_pos ⟨O,by omega⟩]) (by unfold zN;rw[if_neg (by omega),if_neg (by omega),if_pos ⟨O,by omega⟩])
   ·exact nil (by unfold bdN;rw[if_neg (by omega),if_neg (by omega),if_neg (by omega)]) (by unfold zN;rw[if_neg (by omega),if_neg (by omega),if_neg (by omega)])
   ·exact nil (by unfold bdN;rw[if_neg (by omega),if_neg (by omega),if_neg (by omega)]) (by unfold zN;rw[if_neg (by omega),if_neg (by omega),if_neg (by omega)])
theorem Wz (n:Nat)(U:n<=8796093022208)(N:Nat)(Q:QT [.row 9 0])(J:∀ c N',N<=N'->Q [] c N'):ACalls prog 167 [.row 9 0] [.sv none 0 [] 0,.j n] N Q:=by
 have O:IntKind.i64.wrap ((n:Int) - 0)=n:=by rw[Int.sub_zero];exact i64_in _ (by omega)
 refine B4 N n Q λ_=>Br.dec (λh=>by omega) λ_=>?_;rw[O];refine Br.dec (λh=>⟨⟨by omega,by omega,by omega⟩,⟨by omega,by omega,by omega⟩,λc=>⟨⟨by omega,by omega⟩,Nat.zero_le _,⟨rfl,rfl⟩,λN1 I=>J c N1 I⟩⟩) λh N1 I=>J 0 N1 I
def L6:List (List ByteArray)->List ByteArray
 | []=>[]
 | l::ls=>l++L6 ls
def IsW (l:List ByteArray)(d:D):Prop:=∃ a c,d=.sl a 0 (zA l) c
theorem IR (l m:List ByteArray):zA l++zA m=zA (l++m):=by simp[zA]
theorem Ns {ls:List (List ByteArray)}{es:List D}(hes:All2 IsW ls es)(hlen:es.length<=2199023255552)(hc:(L6 ls).length<=8796093022208)(a:Option Addr)(c:Nat):UP 160 [.sv a 0 es c] (L6 ls):=fun N Q hQ=>by
 refine AD N a es c Q fun _=>?_;have second:∀(q N':Nat),N<=N'->zm Q N 0 q a es c (es.length:Int) 0 [] q N':=fun q0 N0 hN0=>
  up hes (by omega) (fun i xs=>∀(done:List ByteArray) (q N':Nat),N<=N'->done++L6 xs=L6 ls->zm Q N (zA done).length q a es c (es.length:Int) i (zA done) q N')
   (fun i hlt hi done q N' hN' hd=>by refine vI ?_;rw[hlt];simp only[L6,nH]at hd;subst hd;exact⟨⟨rfl,rfl⟩,⟨rfl,rfl⟩,⟨rfl,rfl⟩,fun a1 N1 hN1 hf N2 hN2=>hQ _ _ _ (by omega) (vB hf hN2)⟩)
   (fun i x xs hat _ ih2 done q N' hN' hd=>by have hb:=hat.b;obtain⟨a1,c1,hr⟩:=hat.r;refine vI ?_;rw[hat.lt,oH,hr,hat.w];have hl2:=nV List.length hd;simp only[L6,oJ]at hl2;refine⟨⟨by omega,by omega⟩,_,_,_,rfl,⟨rfl,rfl⟩,by unfold zC;rw[oJ,zM,zM];omega,fun c2=>?_⟩;rw[IR];refine ih2 _ _ _ hN' ?_;rw[<-hd];simp[L6,mD]) [] q0 N0 hN0 rfl
 refine up hes (by omega) (fun i xs=>∀(t:Nat) (N':Nat),N<=N'->t+(L6 xs).length=(L6 ls).length ->
  yd Q N a es c t a es c (es.length:Int) i N') ?_ ?_ 0 N (oC _) (by simp)
 ·intro i hlt hi t N' hN' ht;refine vp ?_;rw[hlt];simp only[L6,oU]at ht;exact fun N1 hN1=>Wz t (by omega) N1 _ fun c1 N2 hN2 _ _=>second c1 N2 (by omega)
 ·intro i x xs hat _ ih2 t N' hN' ht;have hb:=hat.b;obtain⟨a1,c1,hr⟩:=hat.r;refine vp ?_;simp only[L6,oJ]at ht;rw[hat.lt,oH,hr,hat.w];have hw:IntKind.i64.wrap ((t:Int)+((zA x).length:Int))=((t+x.length:Nat):Int):=by rw[zM];rw[i64_in _ (by omega)];omega
  refine⟨⟨by omega,by omega⟩,_,_,_,rfl,?_⟩;rw[hw];exact Br.dec (fun h=>by omega) fun _=>ih2 _ _ hN' (by omega)
theorem A6 (s:ByteArray)(l:List ByteArray):(l.any λx=>decide (s=x))=decide (s∈l):=by rw[nj];simp
theorem rB (l m:List ByteArray)(hl:l.length<=2199023255552)(hm:m.length<=2199023255552)(a b:Option Addr)(c c':Nat):Tc 138 [.sv a 0 (zA l) c,.sv b 0 (zA m) c'] (sn l m):=λN Q hQ=>by
 refine DT N a _ c b _ c' Q λ_ _=>⟨⟨rfl,rfl⟩,λa1 _ N1 aa O=>?_⟩
 have ab:All2 IsW [l,m] [.sl a 0 (zA l) c,.sl b 0 (zA m) c']:=⟨_,_,rfl,⟨_,_,rfl⟩,_,_,rfl,⟨_,_,rfl⟩,rfl⟩
 have J:L6 [l,m]=l++m:=by simp[L6]
 refine Ns ab (by simp) (by rw[J,oJ];omega) a1 2 N1 _ λa2 c2 N2 ac ho _=>⟨uC O ho,λ_=>?_⟩
 rw[J];have ae:=xm (l++m);have ah:=zM (l++m);rw[oJ]at ah;refine up ae (by omega) (λi xs=>∀(done:List ByteArray) (q N':Nat),N<=N'->done.length<=i->dd done xs=sn l m ->
  yZ Q N (zA done).length q a2 (zA (l++m)) c2 ((zA (l++m)).length:Int) i (zA done) q N') ?_ ?_ [] 0 N2 (by omega) (by simp) (by unfold sn;rw[U6])
 ·intro i ai hi done q N' aj ak hd;refine tL ?_;rw[ai];simp only[dd]at hd;subst hd;exact⟨⟨rfl,rfl⟩,λN3 am=>hQ _ _ (by omega)⟩
 ·intro i x xs I _ U done q N' aj ak hd;have hb:=I.b;have hr:=I.r;have Y:=Mv (out:=done) (x:=x);refine tL ?_;rw[I.lt,oH,hr,I.w];refine⟨⟨by omega,by omega⟩,_,rfl,⟨rfl,rfl⟩,λa1 _ N1 aa _=>yV done (by omega) a1 q x N1 _ λN2 ac al=>?_⟩;rw[A6];refine Br.ndec (λh=>⟨⟨rfl,rfl⟩,BL (by omega),λc1=>?_⟩) λh=>?_
  ·rw[uD];rw[if_neg h]at Y;refine U _ _ _ (by omega) (by omega) ?_;rw[<-hd,Ct,if_neg h]
  ·refine U _ _ _ (by omega) (by omega) ?_;rw[<-hd,Ct,if_pos h]
mutual
def Tm.vc:Tm->Nat
 | .mk k _ _ _ _ _ l=>if k=1 then 1 else uB l
def uB:List Tm->Nat
 | []=>0
 | t::I=>t.vc+uB I
end
theorem DO:∀ {l:List Tm}{t:Tm},t∈l->t.vc<=uB l
 | u::us,t,h=>by
   simp only[uB];rcases oF.1 h with rfl | h
   ·omega
   ·have:=DO h;omega
mutual
theorem Tm.vc_cnt:∀ t:Tm,3*t.vc<=t.cnt
 | .mk k nm ot n ty re l=>by
   have:=Ty.cnt_pos ty
   have:=Ty.cnt_pos re
   have:=Lq l
   simp only[Tm.vc,Tm.cnt]
   split<;>omega
theorem Lq:∀ l:List Tm,3*uB l<=zj l
 | []=>oC _
 | t::I=>by
   have:=Tm.vc_cnt t
   have:=Lq I
   simp only[uB,zj];omega
end
mutual
theorem Tm.fv_len:∀ t:Tm,t.fv.length<=t.vc
 | .mk k nm ot n ty re l=>by
   simp only[Tm.fv,Tm.vc]
   split
   ·simp
   ·have:=Lc l (zN k l.length) (bdN k nm ot l.length) 0 []
    simp at this;omega
theorem Lc:∀(l:List Tm) (at_:Int) (ns:List ByteArray) (i:Nat) (out:List ByteArray),(tB l at_ ns i out).length<=out.length+uB l
 | [],_,_,_,out=>by simp[tB]
 | x::xs,at_,ns,i,out=>by
   simp only[tB,uB]
   have J:=Lc xs at_ ns (i+1) (sn out (if(i:Int)=at_ then sG ns x.fv else x.fv))
   have I:=Tm.fv_len x
   have O:(if(i:Int)=at_ then sG ns x.fv else x.fv).length<=x.vc:=by
    split
    ·exact oL (mR _ _) I
    ·exact I
   have U:(sn out (if(i:Int)=at_ then sG ns x.fv else x.fv)).length<=out.length+(if(i:Int)=at_ then sG ns x.fv else x.fv).length:=by
    unfold sn
    have a1:=GO (dd [] out) (if(i:Int)=at_ then sG ns x.fv else x.fv)
    have a2:=GO [] out
    simp at a2;omega
   omega
end
def rE:List Tm->Nat
 | []=>0
 | t::I=>t.fv.length+rE I
mutual
def Tm.wd:Tm->Nat
 | .mk k _ _ _ _ _ l=>if k=1 then 1 else max (rE l) (A5 l)
def A5:List Tm->Nat
 | []=>0
 | t::I=>max t.wd (A5 I)
end
theorem I4:∀ {l:List Tm}{n:Nat},A5 l<=n↔∀ x∈l,x.wd<=n
 | [],n=>by simp[A5]
 | t::I,n=>by simp only[A5,Nat.max_le,I4 (l:=I),oF,nT]
theorem pi {l:List Tm}{t:Tm}(h:t∈l):t.wd<=A5 l:=I4.1 (oC _) t h
theorem OY:∀(l:List Tm)(at_:Int)(ns:List ByteArray)(i:Nat)(out:List ByteArray),(tB l at_ ns i out).length<=out.length+rE l
 | [],_,_,_,out=>by simp[tB]
 | x::xs,at_,ns,i,out=>by
   simp only[tB,rE];have I:=OY xs at_ ns (i+1) (sn out (if(i:Int)=at_ then sG ns x.fv else x.fv));have J:(if(i:Int)=at_ then sG ns x.fv else x.fv).length<=x.fv.length:=by
    split
    ·exact mR _ _
    ·exact oC _
   have O:(sn out (if(i:Int)=at_ then sG ns x.fv else x.fv)).length<=out.length+(if(i:Int)=at_ then sG ns x.fv else x.fv).length:=by unfold sn;have a1:=GO (dd [] out) (if(i:Int)=at_ then sG ns x.fv else x.fv);have a2:=GO [] out;simp at a2;omega
   omega
theorem Tm.fv_wd (t:Tm):t.fv.length<=t.wd:=by
 cases t with
 | mk k nm ot n ty re l=>
 simp only[Tm.fv,Tm.wd];split
 ·simp
 ·have:=OY l (zN k l.length) (bdN k nm ot l.length) 0 []
  simp at this;omega
theorem NP:∀ l:List Tm,rE l<=uB l
 | []=>oC _
 | t::I=>by
   have:=NP I
   have:=t.fv_len
   simp only[rE,uB];omega
theorem Tm.wd_vc:∀ t:Tm,t.wd<=t.vc:=by
 refine Tm.ind λk nm ot n ty re l J=>?_;simp only[Tm.wd,Tm.vc];split
 ·exact oC _
 ·have O:=NP l;have U:A5 l<=uB l:=I4.2 λx I=>oL (J x I) (DO I);omega
theorem GX (a b:List ByteArray):(sn a b).length<=a.length+b.length:=by unfold sn;have a1:=GO (dd [] a) b;have a2:=GO [] a;simp at a2;omega
theorem QI (ns l:List ByteArray)(s:ByteArray):(sG ns l).filter (λx=>decide (x≠s))=sG (ns++[s]) l:=by unfold sG;rw[List.filter_filter];congr 1;funext x;rw[nj];simp;exact And.comm
theorem JP (l:List ByteArray):sG [] l=l:=by simp[sG]
theorem wa:∀(t:Tm)(d:D),t.Is d->t.wd<=2199023255552->UP 100 [.dg 9 d] t.fv:=by
 refine Tm.ind λk nm ot n0 ty re l ih d hd hG N Q hQ=>?_;obtain⟨t0,t1,r0,r1,a,es,c,rfl,hh,ak,al⟩:=Tm.is_mk.1 hd;have hl:=al.len;simp only[Tm.wd]at hG;refine GA N _ Q λ_=>⟨_,rfl,Br.beq (λh1=>⟨_,rfl,⟨rfl,rfl⟩,⟨rfl,rfl⟩,λa1 N1 aw hf N2 am=>?_⟩) λh1 N3 bg=>CM (n:=l.length) (by omega) N3 _ λa3 c3 N4 bh _ _ _=>?_⟩
 ·have e:(Tm.mk k nm ot n0 ty re l).fv=[nm]:=by simp[Tm.fv,h1]
  rw[e]at hQ;exact hQ _ _ _ (by omega) (vB (l:=[nm]) hf am)
 ·have e:(Tm.mk k nm ot n0 ty re l).fv=tB l (zN k l.length) (bdN k nm ot l.length) 0 []:=by simp[Tm.fv,h1]
  rw[e]at hQ;rw[if_neg h1]at hG;have bi:rE l<=2199023255552:=by omega
  have bj:A5 l<=2199023255552:=by omega
  have ax:=qx k nm ot l.length;generalize bdN k nm ot l.length=ns at hQ ax ⊢;generalize zN k l.length=at_ at hQ ⊢;generalize hy:(D.ag [.j k,.t nm,.t ot,.j n0,t0,t1,r0,r1,.sl a 9 es c])=y;have ah:y.cell 8=.sl a 9 es c:=by rw[<-hy];rfl
  have bm:=zM ns;have inner:∀(i:Nat) (x:Tm) (out:List ByteArray) (q N1:Nat),N<=N1->out.length<=2199023255552->x.fv.length<=2199023255552 ->
    (∀ c N'',N1<=N''->yC Q N a3 (zA ns) c3 at_ (zA (sn out (if(i:Int)=at_ then sG ns x.fv else x.fv))).length c (IntKind.i64.wrap (i+1)) y (zA (sn out (if(i:Int)=at_ then sG ns x.fv else x.fv))) c N'') ->
    ∀ O U,Own N N1 (.sl O 0 (zA x.fv) U)->yp Q N a3 (zA ns) c3 at_ (zA out).length q i O (zA x.fv) U 0 y (zA out) q N1:=λi x out q N1 aw ho hx hc O U h7=>by
   have fin:∀(Y:List ByteArray) (O:Option Addr) (U N':Nat),N1<=N'->Y=(if(i:Int)=at_ then sG ns x.fv else x.fv) ->
     ((zA out).length=(zA out).length/\q=q)/\∀ ac,ApA ac (zA out)->Off [ac] (.sl O 0 (zA Y) U)->∀ N3,N'<=N3->w8 N3 [ac]->ACalls prog 145 [.row 9 0] [.sv ac 0 (zA out) q,.sv O 0 (zA Y) U] N3 (λaa ao N4=>N3<=N4->Off [ac] (D.ag aa)/\(Bel N4 (D.ag aa)->yC Q N a3 (zA ns) c3 at_ aa.length ao (IntKind.i64.wrap (i+1)) y aa ao N4)):=λY O U N' ab J=>⟨⟨rfl,rfl⟩,λa9 _ _ N5 aq bc=>by
    have h5:Y.length<=2199023255552:=by
     rw[J];split
     ·exact oL (mR _ _) hx
     ·exact hx
    refine rI out Y ho h5 a9 O q U N5 _ λc8 N8 ay _=>⟨GS _,λ_=>?_⟩
    subst J;exact hc _ _ (by omega)⟩
   refine up (xm ns) (by omega) (λj xs=>∀(Y:List ByteArray) O U N',N1<=N'->Y=sG (ns.take j) x.fv->((i:Int)≠at_->j=0)->yp Q N a3 (zA ns) c3 at_ (zA out).length q i O (zA Y) U j y (zA out) q N') ?_ ?_ x.fv O U N1 (oC _) (by rw[m7,JP]) (λ_=>rfl)
   ·intro j ai hj Y O U N' ab J I;refine sS ?_;rw[ai];refine fin Y O U N' ab ?_;rw[J,ou (by omega)];split
    ·rfl
    ·rename_i ae
     have:=I ae
     have:ns=[]:=oM (by omega);rw[this,JP]
   ·intro j s xs I _ aj Y O U N' ab J hj;have hb:=I.b;have hr:=I.r;refine sS ?_;rw[I.lt];refine Br.beq (λhe=>⟨⟨by omega,by omega⟩,s,?_,λN2 am=>Iw Y ?_ O U s N2 _ λa8 c8 N8 ay _ _ _=>?_⟩) λae=>fin Y O U N' ab ?_
    ·rw[oH,hr]
    ·rw[J];exact oL (mR _ _) hx
    ·rw[I.w];refine aj _ _ _ _ (by omega) ?_ (λhc=>absurd he hc);rw[J,QI,wj I.g]
    ·rw[if_neg ae,J,hj ae,m7,JP]
  refine up al ak (λi xs=>∀(out:List ByteArray) (q N':Nat),N<=N'->out.length+rE xs<=rE l->tB xs at_ ns i out=tB l at_ ns 0 []->yC Q N a3 (zA ns) c3 at_ (zA out).length q i y (zA out) q N') ?_ ?_ [] 0 N4 (by omega) (by simp) rfl
  ·intro i ai hi out q N' ab _ he;refine rM ⟨_,_,_,ah,?_⟩;rw[ai];simp only[tB]at he;subst he;exact⟨⟨rfl,rfl⟩,⟨rfl,rfl⟩,⟨rfl,rfl⟩,λa1 N5 aq hf N6 au=>hQ _ _ _ (by omega) (vB hf au)⟩
  ·intro i x xs I _ aj out q N' ab az he;have hb:=I.b;simp only[rE]at az;have bp:=pi I.m;have bq:=GX out (if(i:Int)=at_ then sG ns x.fv else x.fv);have bt:(if(i:Int)=at_ then sG ns x.fv else x.fv).length<=x.fv.length:=by
    split
    ·exact mR _ _
    ·exact oC _
   refine rM ⟨_,_,_,ah,?_⟩;rw[I.lt];refine⟨_,_,_,ah,⟨by omega,by omega⟩,λN5 aq=>?_⟩;rw[oH];refine ih x I.m _ I.r (by omega) N5 _ λa6 c6 N6 au ba _ _=>inner i x out q N6 (by omega) (by omega) (by omega) (λc N'' h1=>?_) a6 c6 (ba.mono (by omega) (oC _));rw[I.w];exact aj _ _ _ (by omega) (by omega) (by rw[<-he];rfl)
theorem FK (t:Tm)(d:D)(h:t.Is d)(I:t.vc<=2199023255552):UP 100 [.dg 9 d] t.fv:=wa t d h (oL t.wd_vc I)
theorem BCalls.cap {f:FuncId}{full:List Sh}{args:List PV}{bx:List Bx}{N:Nat}{Q:QT full}(hc:wE prog f=true)(h:(∀ t z es n,Bx.arr t z es n∈bx->es.length<=n)->BCalls prog f full args bx N Q):BCalls prog f full args bx N Q:=
 ⟨hc,λav w0 E J O I U Y=>(h λt z es n hm=>by
  obtain⟨k,hk⟩:=oQ.1 hm;rcases I.br k _ hk (by simp)with⟨_,e1,e2⟩ | ⟨b,c,_,_,_,e,_⟩
  ·rw[e1,e2];exact oC _
  ·exact e).h av w0 E J O I U Y⟩
theorem Ie {α:Type}(p:α->Bool):∀(l:List α)(i:Int),(AR p l i = -1/\∀ x∈l,p x=false)\/∃ pre x post,l=pre++x::post/\AR p l i=i+(pre.length:Int)/\p x=true/\∀ y∈pre,p y=false
 | [],i=>.inl ⟨rfl,by simp⟩
 | x :: l,i=>by
   simp only[AR];by_cases I:p x=true
   ·exact .inr ⟨[],x,l,rfl,by simp[I],I,by simp⟩
   ·rcases Ie p l (i+1)with⟨J,O⟩ | ⟨pre,y,post,J,O,U,Y⟩
    ·refine .inl ⟨by rw[if_neg I,J],λy hy=>?_⟩;rcases oF.1 hy with rfl | hy
     ·simpa using I
     ·exact O y hy
    ·refine .inr ⟨x::pre,y,post,by rw[J];rfl,by rw[if_neg I,O];simp only[oO];omega,U,λz hz=>?_⟩;rcases oF.1 hz with rfl | hz
     ·simpa using I
     ·exact Y z hz
theorem KW (s:ByteArray)(ns:List ByteArray)(I:ns.length<=4611686018427387904)(ad:Addr)(a:Option Addr)(c:Nat):ws 137 [.str s,.pd ad 0 (.sl a 0 (zA ns) c)] (decide (s∈ns)):=λN Q J=>by refine AC N s ad _ Q ⟨_,_,_,rfl,λN1 O=>yV ns I a c s N1 _ λN2 U _ N3 Y=>Qb (J _ (by omega)) (A6 s ns).symm⟩
theorem NB (l:List ByteArray) (hl:l.length<=2199023255552) (a:Option Addr) (c:Nat) (ad:Addr) (ns:List ByteArray) (hn:ns.length<=4611686018427387904) (a1:Option Addr) (c1:Nat) :
  Dx 162 [.sv a 0 (zA l) c,.fn 137 [.pd ad 0 (.sl a1 0 (zA ns) c1)]] (AR (λx=>decide (x∈ns)) l 0):=λN Q hQ=>by
 have aa:=zM l;refine sE N a _ c ad _ Q λ_=>?_;refine up (xm l) (by omega) (λi xs=>∀(N':Nat),N<=N'->(∀ N'',N'<=N''->Q (AR (λx=>decide (x∈ns)) xs i) N'')->yE Q N a (zA l) c ad (.sl a1 0 (zA ns) c1) ((zA l).length:Int) i N') ?_ ?_ N (oC _) hQ
 ·intro i O _ N' U I;refine wX ?_;rw[O];exact λN'' h=>I _ (by omega)
 ·intro i x xs J _ Y N' U I;have hb:=J.b;have hr:=J.r;simp only[AR]at I;refine wX ?_;rw[J.lt,J.w,oH,hr];refine⟨⟨by omega,by omega⟩,x,rfl,λN1 ab=>KW x ns hn ad a1 c1 N1 _ λN2 ac _=>Br.dec (λh N3 ae=>Qi (I _ (by omega)) (by simp[h])) λh=>Y _ (by omega) λN'' h2=>Qi (I _ (by omega)) (by rw[if_neg (by simpa using h)];simp)⟩
theorem VQ (done:List D)(y s:D)(r:List D):(done++y::r).set done.length s=done++s::r:=by rw[lJ _ _ (oC _),Nat.sub_self];rfl
theorem Kz (l:List ByteArray) (hl:l.length<=2199023255552) (ns:List ByteArray) (hn:ns.length<=4611686018427387904) (c:Nat) (a1:Option Addr) (c1:Nat) (N:Nat) (Q:QT [Sh.bk 0,.sl 0,.sl 0])
  (hQ:∀ x N',N<=N'->Q x none (zA (sG ns l)) c a1 (zA ns) c1 N') :
  BCalls prog 136 [Sh.bk 0,.sl 0,.sl 0] [.sb 0 0 0 (zA l).length c,.fn 137 [.pb 1 0 0 0]] [.arr 9 0 (zA l) c,.var [.sv a1 0 (zA ns) c1]] N Q:=by
 refine BCalls.cap (by kernel_rfl) λY=>?_;have hc:=Y _ _ _ _ (ny);have aq:=zM l;refine t7 N _ _ _ _ _ _ _ Q λE _ _=>⟨⟨rfl,rfl⟩,λa2 _ ad _ N1 ae _=>NB l hl a2 c ad ns hn a1 c1 N1 _ λN2 ah _=>?_⟩
 rcases Ie (λx=>decide (x∈ns)) l 0 with⟨U,h2⟩ | ⟨pre,x,post,U,h2,h3,h4⟩
 ·rw[U];refine⟨wK,⟨rfl,rfl⟩,λN3 ai=>?_⟩;have e:sG ns l=l:=by unfold sG;rw[List.filter_eq_self];intro s hs;simpa using h2 s hs
  rw[e]at hQ;exact hQ _ _ (by omega)
 ·rw [h2,Int.zero_add];have aj:=nV List.length U;rw[oJ,oO]at aj;have aa:sG ns l=pre++sG ns post:=by rw[U];unfold sG;rw[List.filter_append,List.filter_cons_of_neg (by simpa using h3),List.filter_eq_self.2 λs hs=>by simpa using h4 s hs]
  rw [aa]at hQ;refine Br.beq (λh=>by omega) λ_=>?_;rw[i64_in _ (by omega)];have key:∀(xs done:List ByteArray) (I:List D) (j:Int) (N':Nat),N<=N'->I≠[]->done++sG ns xs=pre++sG ns post->j=((done.length+I.length:Nat):Int)->done.length+I.length+xs.length=l.length ->
    zX E Q N (zA l).length c (done.length:Int) j (zA done++(I++zA xs)) c a1 (zA ns) c1 N':=by
   intro xs
   induction xs with
   | nil=>
     intro done I j N' ak hj hd O J;have ab:=zM done;have al:=lA.2 hj;simp only[oU,mV]at J;refine wH _ _ _ _ _ _ _ _ _ _ _ _ _ ?_;rw[mK (by omega)];have e1:List.take (done.length:Int).toNat (List.take (0+(done.length:Int).toNat) (zA done++(I++zA []))++(List.replicate (((zA l).length:Int).toNat - (done.length:Int).toNat) (D.t (bytes []))++List.drop (0+(done.length:Int).toNat+(((zA l).length:Int).toNat - (done.length:Int).toNat)) (zA done++(I++zA []))))=zA done:=by rw[oH,ow,ms (by rw[nF,oJ];omega),List.take_take,Nat.min_self,ms (by omega),ou (by omega)]
     rw[e1];simp only[sG,List.filter_nil,nH]at hd;have hd:done=pre++sG ns post:=hd;have am:(zA done++(I++zA [])).length=l.length:=by simp[zA];omega
     refine⟨⟨by omega,by omega,by omega,by omega⟩,by omega,⟨by omega,by omega⟩,?_,wK,⟨by omega,rfl⟩,λN3 ai=>?_⟩
     ·rw[oJ,nF];omega
     ·rw[hd];exact hQ _ _ (by omega)
   | cons s xs ih=>
     intro done I j N' ak hj hd O J;have ab:=zM done;have al:=lA.2 hj;have ao:=zM (s::xs);simp only[oO]at J ao;refine wH _ _ _ _ _ _ _ _ _ _ _ _ _ ?_;rw[mI (by omega)];have am:(zA done++(I++zA (s::xs))).length=l.length:=by simp only[oJ];omega
     have ac:(zA done++(I++zA (s::xs))).getD (0+j.toNat) default=.t s:=by rw[O,oH,ow,oA,oR (by omega),oR (by omega)];rw[show done.length+I.length - (zA done).length - I.length=0 by omega];rfl
     refine⟨⟨by omega,by omega,by omega⟩,by omega,s,ac,λad _ N1 ae _=>KW s ns hn ad a1 c1 N1 _ λN2 ah _=>Br.ndec (λh=>⟨⟨by omega,by omega,by omega⟩,by omega,?_⟩) λh=>?_⟩
     ·rw[i64_in _ (by omega),i64_in _ (by omega),ow,oH];obtain⟨y,ys,rfl⟩:=List.exists_cons_of_ne_nil hj;have e2:(zA done++(y::ys++zA (s::xs))).set done.length (.t s)=zA (done++[s])++((ys++[.t s])++zA xs):=by rw[<-ab,nS,VQ,<-uD];simp[zA]
      rw[e2]
      have:=ih (done++[s]) (ys++[.t s]) (j+1) N2 (by omega) (by simp) (by rw[<-hd];simp[sG,h]) (by simp only[oJ,oO,oU]at O ⊢;omega) (by simp only[oJ,oO,oU]at J ⊢;omega)
      simpa using this
     ·rw[i64_in _ (by omega)]
      have:=ih done (I++[.t s]) (j+1) N2 (by omega) (by simp) (by rw[<-hd];simp[sG,h]) (by simp only[oJ,oO,oU];omega) (by simp only[oJ,oO,oU];omega)
      simpa [zA]using this
  have:=key post pre [.t x] ((pre.length:Int)+1) N2 (by omega) (by simp) rfl (by simp) (by simp;omega)
  rw[U];rw[U]at this;simpa [zA]using this
theorem wb:∀(t:Tm)(d:D),t.Is d->t.wd<=2199023255552->Tc 94 [.dg 9 d] t.fv:=by
 refine Tm.ind λk nm ot n0 ty re l ih d hd hG N Q O=>?_;obtain⟨t0,t1,r0,r1,a,es,c,rfl,hh,U,Y⟩:=Tm.is_mk.1 hd;have hl:=Y.len;simp only[Tm.wd]at hG;refine Fx N _ Q λ_=>⟨_,rfl,Br.beq (λh1=>⟨_,rfl,⟨rfl,rfl⟩,λN1 au=>?_⟩) λh1 N3 aw=>Mp (n:=l.length) (by omega) N3 _ λa3 c3 N4 ax _ _ _=>⟨_,_,_,rfl,?_⟩⟩
 ·have e:(Tm.mk k nm ot n0 ty re l).fv=[nm]:=by simp[Tm.fv,h1]
  rw[e]at O;exact O _ _ (by omega)
 ·have e:(Tm.mk k nm ot n0 ty re l).fv=tB l (zN k l.length) (bdN k nm ot l.length) 0 []:=by simp[Tm.fv,h1]
  rw[e]at O;rw[if_neg h1]at hG;have ay:rE l<=2199023255552:=by omega
  have az:A5 l<=2199023255552:=by omega
  have ai:=qx k nm ot l.length;generalize bdN k nm ot l.length=ns at O ai ⊢;generalize zN k l.length=at_ at O ⊢;refine up Y U (λi xs=>∀(out:List ByteArray) q a5 c5 N',N<=N'->out.length+rE xs<=rE l->tB xs at_ ns i out=tB l at_ ns 0 []->xG Q N at_ (zA out).length q a es c (es.length:Int) i a5 (zA ns) c5 (zA out) q N') ?_ ?_ [] 0 a3 c3 N4 (by omega) (by simp) rfl
  ·intro i aj hi out q a5 c5 N' ak aa he;refine rX ?_;rw[aj];simp only[tB]at he;subst he;exact⟨⟨rfl,rfl⟩,λN5 al=>O _ _ (by omega)⟩
  ·intro i x xs I _ ab out q a5 c5 N' ak aa he;have hb:=I.b;simp only[rE]at aa;have a6:=pi I.m;have ac:=GX out (if(i:Int)=at_ then sG ns x.fv else x.fv);have a7:(sG ns x.fv).length<=x.fv.length:=mR _ _;refine rX ?_;rw[I.lt];refine⟨⟨by omega,by omega⟩,λN5 al=>?_⟩;rw[oH,I.w];refine ih x I.m _ I.r (by omega) N5 _ λc6 N6 a8 _ _=>Br.beq (λh N7 ba=>Kz x.fv (by omega) ns (by omega) c6 a5 c5 N7 _ λx8 N8 bc _ _ _=>⟨⟨rfl,rfl⟩,λa9 _=>⟨⟨rfl,rfl⟩,λJ _ N9 am ae=>?_⟩⟩) λh=>⟨⟨rfl,rfl⟩,λa9 _=>⟨⟨rfl,rfl⟩,λJ _ N9 am ae=>?_⟩⟩
   ·refine rB out (sG ns x.fv) (by omega) (by omega) a9 J q c6 N9 _ λao aq ah _=>⟨GS _,λ_=>?_⟩
    rw[if_pos h]at ac;exact ab _ _ _ _ _ (by omega) (by omega) (by rw[<-he];simp only[tB];rw[if_pos h])
   ·refine rB out x.fv (by omega) (by omega) a9 J q c6 N9 _ λao aq ah _=>⟨GS _,λ_=>?_⟩
    rw[if_neg h]at ac;exact ab _ _ _ _ _ (by omega) (by omega) (by rw[<-he];simp only[tB];rw[if_neg h])
theorem FX (t:Tm)(d:D)(h:t.Is d)(I:t.vc<=2199023255552):Tc 94 [.dg 9 d] t.fv:=wb t d h (oL t.wd_vc I)
end Go.Proofs.YtligajflgjpdnaaGreatDoor
namespace Go.Proofs
namespace YtligajflgjpdnaaGreatDoor
open Go Go.Proofs Go.Proofs.Tryz Go.RowKit Go.Shelf Go.Sort Go.Lib
def itoaR:Go.Shelf.Ren:=⟨λx=>match x with | 171=>170 | 243=>171 | 246=>172 | 283=>173 | 284=>174 | 285=>175 | 286=>176 | 129=>178 | 317=>177 | 318=>179 | 319=>180 | 320=>181 | 337=>182 | 338=>183 | n=>n,λx=>match x with | 3=>3 | 9=>9 | 2=>2 | 4=>4 | 171=>133 | 0=>0 | 53=>134 | 37=>22 | 5=>5 | 173=>137 | 212=>139 | 51=>140 | 20=>20 | 213=>141 | 46=>103 | 232=>144 | 233=>145 | n=>n,λx=>match x with | 17=>0 | 18=>1 | 19=>2 | n=>n⟩
theorem itoaL:LaysM.n171 Tryz.prog itoaR where
 mixed:=by kernel_rfl
 f129:=Tryz.func178.trans (nV some (by kernel_rfl))
 f171:=Tryz.func170.trans (nV some (by kernel_rfl))
 f243:=Tryz.func171.trans (nV some (by kernel_rfl))
 f246:=Tryz.func172.trans (nV some (by kernel_rfl))
 f283:=Tryz.func173.trans (nV some (by kernel_rfl))
 f284:=Tryz.func174.trans (nV some (by kernel_rfl))
 f285:=Tryz.func175.trans (nV some (by kernel_rfl))
 f286:=Tryz.func176.trans (nV some (by kernel_rfl))
 f317:=Tryz.func177.trans (nV some (by kernel_rfl))
 f318:=Tryz.func179.trans (nV some (by kernel_rfl))
 f319:=Tryz.func180.trans (nV some (by kernel_rfl))
 f320:=Tryz.func181.trans (nV some (by kernel_rfl))
 f337:=Tryz.func182.trans (nV some (by kernel_rfl))
 f338:=Tryz.func183.trans (nV some (by kernel_rfl))
 t0:=Tryz.underlying0
 a0:=Tryz.isAgg0
 z0:=Tryz.sizeOf0
 v0:=Tryz.zeroValue0
 t2:=Tryz.underlying2
 a2:=Tryz.isAgg2
 z2:=Tryz.sizeOf2
 v2:=Tryz.zeroValue2
 t3:=Tryz.underlying3
 a3:=Tryz.isAgg3
 z3:=Tryz.sizeOf3
 v3:=Tryz.zeroValue3
 t4:=Tryz.underlying4
 a4:=Tryz.isAgg4
 z4:=Tryz.sizeOf4
 v4:=Tryz.zeroValue4
 t5:=Tryz.underlying5
 a5:=Tryz.isAgg5
 z5:=Tryz.sizeOf5
 v5:=Tryz.zeroValue5
 t9:=Tryz.underlying9
 a9:=Tryz.isAgg9
 z9:=Tryz.sizeOf9
 v9:=Tryz.zeroValue9
 t20:=Tryz.underlying20
 a20:=Tryz.isAgg20
 z20:=Tryz.sizeOf20
 v20:=Tryz.zeroValue20
 t37:=Tryz.underlying22
 a37:=Tryz.isAgg22
 z37:=Tryz.sizeOf22
 v37:=Tryz.zeroValue22
 t46:=Tryz.underlying103
 a46:=Tryz.isAgg103
 z46:=Tryz.sizeOf103
 v46:=Tryz.zeroValue103
 t51:=Tryz.underlying140
 a51:=Tryz.isAgg140
 z51:=Tryz.sizeOf140
 v51:=Tryz.zeroValue140
 t53:=Tryz.underlying134
 a53:=Tryz.isAgg134
 z53:=Tryz.sizeOf134
 v53:=Tryz.zeroValue134
 t171:=Tryz.underlying133
 a171:=Tryz.isAgg133
 z171:=Tryz.sizeOf133
 v171:=Tryz.zeroValue133
 t173:=Tryz.underlying137
 a173:=Tryz.isAgg137
 z173:=Tryz.sizeOf137
 v173:=Tryz.zeroValue137
 t212:=Tryz.underlying139
 a212:=Tryz.isAgg139
 z212:=Tryz.sizeOf139
 v212:=Tryz.zeroValue139
 t213:=Tryz.underlying141
 a213:=Tryz.isAgg141
 z213:=Tryz.sizeOf141
 t232:=Tryz.underlying144
 a232:=Tryz.isAgg144
 z232:=Tryz.sizeOf144
 v232:=Tryz.zeroValue144
 t233:=Tryz.underlying145
 a233:=Tryz.isAgg145
 z233:=Tryz.sizeOf145
 v233:=Tryz.zeroValue145
 g17:=by kernel_rfl
 g18:=by kernel_rfl
 g19:=by kernel_rfl
 i0:=by kernel_rfl
 i2:=by kernel_rfl
 i3:=by kernel_rfl
 i4:=by kernel_rfl
 i5:=by kernel_rfl
 i9:=by kernel_rfl
 i20:=by kernel_rfl
 i37:=by kernel_rfl
 i46:=by kernel_rfl
 i51:=by kernel_rfl
 i53:=by kernel_rfl
 i171:=by kernel_rfl
 i173:=by kernel_rfl
 i212:=by kernel_rfl
 i232:=by kernel_rfl
 i233:=by kernel_rfl
 m17:=by kernel_rfl
 m18:=by kernel_rfl
 m19:=by kernel_rfl
theorem UV {w : World}(h : GlobIs w) : Lib.TabIs prog w "internal/strconv.uint64pow10" .u64 Lib.pow10Tab := by obtain ⟨t,fz,I⟩:=h.h _ (ny);unfold Lib.TabIs World.var?;rw [itoaL.m17];have J:w.heap[itoaR.g 17]?=some (.cells (Lib.pow10Tab.map λn=>Value.int .u64 n).toArray t fz):=I;simp only [mn,J]
theorem X8 (u:Nat)(h1:u<=9223372036854775807)(N:Nat)(Q:QT [.str])(U:∀ N',N<=N'->Q ⟨(Lib.decDigits u).toArray⟩ N'):ACalls prog 170 [.str] [.int .i64 u] N Q:=
 ⟨by kernel_rfl,λav w0 hN J _=>(Any.strconv_Itoa itoaL (u:Int) (by omega) (by omega) w0 (UV J.g)).mono λe w ⟨Y,k,os,hw⟩=>by
  subst Y;subst hN;subst hw;rw[Lib.itoa_nonneg];have I:(Go.Sort.grow (w0.drewN k) os).heap.size=w0.heap.size+os.size:=by unfold Go.Sort.grow;rw[mg];rfl
  refine⟨[.str ⟨(Lib.decDigits u).toArray⟩],[],[],?_⟩;exact { q:=U _ (by rw[I];omega),v:=rfl,m:=⟨rfl,by simp,by simp,by simp,λk j b h=>by obtain⟨_,h2,_⟩:=h;simp[Env.at]at h2⟩,ok:=λp O=>by simp at O;subst O;trivial,fresh:=λk b h=>by simp[Env.at]at h,size:=by rw[I];omega,old:=λb hb=>Array.getElem?_append_left hb,fz:=λ_ _ _ _ _ _=>trivial,ku:=⟨rfl,rfl⟩ }⟩
end YtligajflgjpdnaaGreatDoor
end Go.Proofs
namespace Go.Proofs.YtligajflgjpdnaaGreatDoor
open Go Go.Proofs Go.Proofs.Tryz Go.IntWalk
def Na (f:FuncId)(args:List PV)(s:ByteArray):Prop:=∀(N:Nat) (Q:QT [.str]),(∀ N',N<=N'->Q s N')->ACalls prog f [.str] args N Q
theorem Qst {Q:QT [.str]}{a b:ByteArray}{N:Nat}(h:Q a N)(e:a=b):Q b N:=e ▸ h
def YY (u:Nat):ByteArray:=⟨(Lib.decDigits u).toArray⟩
theorem Jp (u:Nat)(h:u<=4611686018427387904):Lib.nDigits u<=20:=by
 by_cases I:1<=u
 ·have:=Lib.numDigits_eq u I (by omega);split at this<;>omega
 ·rw[Lib.nDigits_small (by omega)];omega
theorem Ky (u:Nat):(YY u).size=Lib.nDigits u:=by show(Lib.decDigits u).toArray.size=_;rw[mE,Lib.decDigits_length]
theorem E2 {a b:ByteArray}(h:a.data.toList=b.data.toList):a=b:=by cases a;cases b;simp at h;rw[h]
theorem Up (a b:ByteArray):(a++b).data.toList=a.data.toList++b.data.toList:=by simp
theorem Nm (k:Nat):bytes [118]++YY k=tO k:=E2 (by rw[Up];rfl)
theorem PQ (k:Nat)(h:k<=4611686018427387904):(tO k).size<=21:=by
 have:=Jp k h
 show(118::Lib.decDigits k).toArray.size<=21;rw[mE,oO,Lib.decDigits_length];omega
theorem EF (u:Nat)(h:u<=4611686018427387904):Na 169 [.j u] (YY u):=λN Q I=>EE N u Q λN1 J=>X8 u (by omega) N1 _ λN2 O _ Y U=>I _ (by omega)
theorem S7 (m:Nat)(s:ByteArray)(hs:∀ u,u<10->Lib.decDigits u=[UInt8.ofNat (48+u)]):(bytesOf [IntKind.u8.wrap (IntKind.i64.wrap (48+Int.tmod (m:Int) 10))]++s).data.toList=UInt8.ofNat (48+m % 10)::s.data.toList:=by
 rw[Up];have e:IntKind.u8.wrap (IntKind.i64.wrap (48+Int.tmod (m:Int) 10))=((48+m % 10:Nat):Int):=by
  have:Int.tmod (m:Int) 10=((m % 10:Nat):Int):=by rw[nu (by omega)];omega
  rw[this,i64_in _ (by omega),IntKind.wrap_u8];omega
 rw[e];have I:bytesOf [((48+m % 10:Nat):Int)]=⟨#[UInt8.ofNat (48+m % 10)]⟩:=rfl;rw[I];rfl
theorem EZ (u:Nat) (h:u<=4611686018427387904):Na 168 [.j u] (YY u):=λN Q hQ=>by
 have e1:∀ u,u<10->Lib.decDigits u=[UInt8.ofNat (48+u)]:=λu h=>by rw[Lib.decDigits,dif_pos h]
 have e2:∀ u,¬u<10->Lib.decDigits u=Lib.decDigits (u / 10)++[UInt8.ofNat (48+u % 10)]:=λu h=>by rw[Lib.decDigits,dif_neg h]
 refine D6 N u Q (Br.beq (λh0 N1 Y=>?_) λh0=>?_)
 ·have:u=0:=by omega
  subst this;refine Qst (hQ _ Y) (E2 ?_);show Lib.decDigits 0=[48];rw[e1 0 (by omega)];rfl
 ·rw [mK (by omega)]
  have key:∀(m:Nat) (s:ByteArray),m<=u->s.size+Lib.nDigits m<=20\/(m=0/\s.size<=20)->(if m=0 then []else Lib.decDigits m)++s.data.toList=Lib.decDigits u->yq Q N m false s N:=by
   intro m
   induction m using Nat.strongRecOn with
   | _ m ih=>
     intro s hm O he;refine Ca ?_;refine Br.bne (λI=>?_) λI=>?_
     ·have I:m≠0:=by omega
      have ht:Int.tmod (m:Int) 10=((m % 10:Nat):Int):=by rw[nu (by omega)];omega
      have hd:Int.tdiv (m:Int) 10=((m / 10:Nat):Int):=by rw[Int.tdiv_eq_ediv_of_nonneg (by omega)];omega
      have O:s.size+Lib.nDigits m<=20:=by rcases O with U | ⟨U,_⟩;exact U;exact absurd U I
      refine⟨by omega,?_⟩;rw[mK (by omega)];refine⟨by simp,[IntKind.u8.wrap (IntKind.i64.wrap (48+Int.tmod (m:Int) 10))],rfl,?_,by omega,?_⟩
      ·have:(bytesOf [IntKind.u8.wrap (IntKind.i64.wrap (48+Int.tmod (m:Int) 10))]).size=1:=rfl;omega
      ·rw[hd,i64_in _ (by omega)];refine ih (m / 10) (by omega) _ (by omega) ?_ ?_
       ·have U:(bytesOf [IntKind.u8.wrap (IntKind.i64.wrap (48+Int.tmod (m:Int) 10))]++s).size=1+s.size:=by rw[ByteArray.size_append];rfl
        by_cases J:m<10
        ·right
         have:=Lib.nDigits_pos m
         exact⟨by omega,by omega⟩
        ·left
         have:=Lib.nDigits_big J
         omega
       ·rw[S7 m s e1,<-he,if_neg I];by_cases J:m<10
        ·rw[if_pos (by omega),e1 m J,show m % 10=m by omega];rfl
        ·rw[if_neg (by omega),e2 m J];simp
     ·have:m=0:=by omega
      subst this;refine λN2 aa=>Qst (hQ _ aa) (E2 ?_);rw[if_pos rfl]at he;exact he.symm
  refine key u (bytes []) (oC _) (.inl ?_) ?_
  ·have:=Jp u h
   show 0+_<=_;omega
  ·rw[if_neg (by omega)];exact nH _
theorem IL (l:List ByteArray) (P:Nat->Nat->Prop) (N:Nat) (F:ByteArray->Nat->Prop) (hF:∀ N',N<=N'->F (fresh l) N')
  (step:∀(k N':Nat),N<=N'->k<=l.length+1->(∀ N'',N'<=N''->tO k∈l->P (k+1) N'')->(∀ N'',N'<=N''->tO k∉l->F (tO k) N'')->P k N'):P 1 N:=by
 have key:∀(f k:Nat) (N':Nat),N<=N'->1<=k->k+f=l.length+1->(∀ j,1<=j->j<k->tO j∈l)->qr f k l=qr l.length 1 l->P k N':=by
  intro f
  induction f with
  | zero=>
    intro k N' J aa ab I O;refine step k N' J (by omega) (λN'' Y U=>?_) λN'' Y U=>?_
    ·exfalso
     have:=Ut l (k+1) (λj h4 h5=>by
      by_cases h6:j=k
      ·subst h6;exact U
      ·exact I j h4 (by omega)) (by omega)
     omega
    ·have:=hF N'' (by omega)
     unfold fresh at this;rw[<-O]at this;exact this
  | succ f ih=>
    intro k N' J aa ab I O;simp only[qr]at O;refine step k N' J (by omega) (λN'' Y U=>?_) λN'' Y U=>?_
    ·rw[if_pos U]at O;exact ih (k+1) N'' (by omega) (by omega) (by omega) (λj h4 h5=>by
      by_cases h6:j=k
      ·subst h6;exact U
      ·exact I j h4 (by omega)) O
    ·rw[if_neg U]at O
     have:=hF N'' (by omega)
     unfold fresh at this;rw[<-O]at this;exact this
 exact key l.length 1 N (oC _) (oC _) (by omega) (λj Y h2=>by omega) rfl
theorem EN (l:List ByteArray)(hl:l.length<=8796093022208)(a:Option Addr)(c:Nat):Na 163 [.sv a 0 (zA l) c] (fresh l):=λN Q O=>by
 refine D5 N a _ c Q λ_=>?_;refine IL l (λk N'=>xi Q N a (zA l) c k N') N (λs N'=>Q s N') O λk N' U hk J I=>?_;have Y:=Jp k (by omega);have aa:=Ky k;refine BO λN1 ab=>EZ k (by omega) N1 _ λN2 ac _=>⟨by omega,λN3 ae=>?_⟩
 rw[Nm];refine yw l (by omega) a c (tO k) N3 _ λN4 ah _=>?_;simp only[FO];refine Br.dec (λh N5 ai=>I _ (by omega) h) λh=>?_;rw[i64_in _ (by omega)];exact J _ (by omega) (mO.1 h)
theorem Eb (l:List ByteArray)(hl:l.length<=8796093022208)(a:Option Addr)(c:Nat):Na 159 [.sv a 0 (zA l) c] (fresh l):=λN Q O=>by
 refine Eg N a _ c Q λ_ N1 U=>Lo N1 _ a _ c _ λ_=>?_;refine IL l (λk N'=>uO _ N1 (bytes [118]) a (zA l) c k N') N1 (λs N'=>∀ N'',N'<=N''->Q s N'') (λN' h N'' h2=>O _ (by omega)) λk N' Y hk J I=>?_;have aa:=Jp k (by omega);have ab:=Ky k;have hb:(bytes [118]).size=1:=rfl;refine Gz λN2 ac=>EF k (by omega) N2 _ λN3 ae _=>⟨by omega,λN4 ah=>?_⟩
 rw[Nm];refine yV l (by omega) a c (tO k) N4 _ λN5 ai _=>?_;rw[A6];refine Br.ndec (λh N6 aj=>?_) λh=>?_
 ·exact λ_ N7 ak=>I N7 (by omega) h _ (oC _)
 ·rw[i64_in _ (by omega)];exact J _ (by omega) h
end Go.Proofs.YtligajflgjpdnaaGreatDoor
