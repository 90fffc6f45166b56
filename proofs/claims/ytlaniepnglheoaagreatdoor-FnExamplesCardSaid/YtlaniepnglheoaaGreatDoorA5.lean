/- Parameters: what they are; the laws' sizes, copies, equality and marks on them. -/
import Derived.Test.YtlaniepnglheoaaGreatDoorA1
import Derived.Test.YtlaniepnglheoaaGreatDoorKa
set_option linter.unusedVariables false
set_option linter.unusedSimpArgs false
namespace Go.Proofs.YtlaniepnglheoaaGreatDoor
open Go Go.Proofs Go.Proofs.Tryz Go.IntWalk
variable {I es fs:aM} {N N' c c1 z:Nat} {a a1:aH} {d r0 r1 t0 t1 x:D} {e0:Tm} {g:aQ} {k m n:Int} {l:aP} {nm ot s:aG} {re t ty:Ty}
structure Pm where
 nm:aG
 ty:Ty
 dy:Bool
def Pm.Is (g:Pm)(d:D):Prop:=∃ t0 t1,d=.ag [.t g.nm,t0,t1,.lit (.bool g.dy)]/\g.nm.size<=4611686018427387904/\g.ty.Is (.ag [t0,t1])
theorem zm n a b:uE 39 [.j n,.j a,.j b] (inB n a b):=λN Q I=>by
 refine Lg N n a b Q ?_
 repeat' first|with_reducible intro _|simp only[Y1]|with_reducible refine X ?_ ?_|refine⟨_,_,_,rfl,?_⟩|refine⟨_,rfl,?_⟩|refine X0 ?_|fail
 all_goals simpa [inB, *]using I _ aA
def Ck {α:Type}(p:α->Bool):List α->Int->Int
 | [],_ => -1
 | x::xs,i=>if p x then i else Ck p xs (i+1)
theorem Aa {α} p:∀(l:List α)(i:Int),0<=i->decide (Ck p l i≥0)=l.any p
 | [],i,h=>by simp[Ck]
 | x::xs,i,h=>by
   have I:=Aa p xs (i+1) aA;rw[mC,nl]at I ⊢;simp only[Ck,lU,mB];by_cases J:p x=true
   ·simp only[J,mI,true_or,iff_true];exact h
   ·simpa [J]using I
def zA (l:List aG):aM:=l.map λs=>.t s
theorem xg:∀ l:List aG,All2 (λs d=>d=.t s) l (zA l)
 | []=>rfl
 | s::l=>⟨_,_,rfl,rfl,xg l⟩
theorem OL l(hl:l.length<=4611686018427387904) a c s:BK 222 [.sv a 0 (zA l) c,.str s] (Ck (λx=>decide (s=x)) l 0):=λN Q hQ=>by
 have O:=xg l;have U:(zA l).length<=4611686018427387904:=by rw[O.len];exact hl
 refine Bo N a _ c s Q λ_=>?_;refine up O U (λi xs=>∀(N':Nat),N<=N'->(∀ N'',N'<=N''->Q (Ck (λx=>decide (s=x)) xs i) N'')->yw Q N a (zA l) c s ((zA l).length:Int) i N') ?_ ?_ N (oC _) hQ
 ·intro i aa _ N' Y I;refine uc ?_
  repeat' first|with_reducible intro _|simp only[aa,Y1]|with_reducible refine X ?_ ?_|refine⟨_,_,_,rfl,?_⟩|refine⟨_,rfl,?_⟩|refine X0 ?_|fail
  exact I _ aA
 ·intro i x xs J _ ab N' Y I;have hb:=J.b;have hr:=J.r;simp only[Ck]at I;refine uc ?_
  repeat' first|with_reducible intro _|simp only[J.lt,J.w,oI,hr,Y1]|with_reducible refine X ?_ ?_|refine⟨_,_,_,rfl,?_⟩|refine⟨_,rfl,?_⟩|refine X0 ?_|fail
  ·rename_i h _ _;subst h;exact Qi (I _ aA) aB
  ·rename_i h;exact ab _ Y λN'' h2=>Qi (I _ h2) (by rw[if_neg (by simpa using h)];simp)
theorem xD l(hl:l.length<=4611686018427387904) a c s:uE 174 [.sv a 0 (zA l) c,.str s] (l.any λx=>decide (s=x)):=λN Q I=>by
 refine qu N a _ c s Q λ_=>?_
 repeat' first|with_reducible intro _|simp only[Y1]|with_reducible refine X ?_ ?_|refine⟨_,_,_,rfl,?_⟩|refine⟨_,rfl,?_⟩|refine X0 ?_|refine(OL l hl a c s) _ _ ?_|fail
 exact Qb (I _ aA) (Aa _ l 0 aA).symm
theorem rq s(hs:s.size<=4611686018427387904):uE 117 [.str s] (yN s):=λN Q Y=>by
 refine LU N s Q ?_;have key:=upN hs (λi=>∀ N',N<=N'->(∀ N'',N'<=N''->Q (tE s i&&FB s) N'')->xN Q N s (s.size:Int) i N') ?_ ?_
 ·exact key N (oC _) Y
 ·intro J N' O I;have hc:=xD [bytes [105,102],bytes [108,101,116],bytes [108,105,102,116],bytes [114,101,99],bytes [114,117,110]] aB;simp only[zA,List.map]at hc;refine pP ?_
  repeat' first|with_reducible intro _|simp only[J,Y1]|with_reducible refine X ?_ ?_|refine⟨_,_,_,rfl,?_⟩|refine⟨_,rfl,?_⟩|refine X0 ?_|refine(zm _ _ _) _ _ ?_|refine(hc _ _ _) _ _ ?_|fail
  all_goals(refine Qb (I _ aA) ?_;rw[E2])
  ·simp only[FB,lU,List.any_nil,Bool.or_false, *];cases decide (s=bytes [105,102])<;>cases decide (s=bytes [108,101,116])<;>cases decide (s=bytes [108,105,102,116])<;>cases decide (s=bytes [114,101,99])<;>cases decide (s=bytes [114,117,110])<;>rfl
  ·simp[FB, *]
 ·intro i hi J hw U N' O I;refine pP ?_;rw[Cy hi]at I
  repeat' first|with_reducible intro _|simp only[J,hw,oI,Y1]|with_reducible refine X ?_ ?_|refine⟨_,_,_,rfl,?_⟩|refine⟨_,rfl,?_⟩|refine X0 ?_|fail
  all_goals first
   | (refine Qb (I _ aA) ?_;unfold Cf BL;simp only[*];simp;done)
   | (refine U _ aA λN'' h=>Qb (I N'' aA) ?_;unfold Cf BL;simp only[*];simp;done)
theorem Dx:∀(t:Ty)(d:D),t.Is d->t.cnt<=1073741824->BK 126 [.dg 2 d] t.cnt:=by
 refine Ty.ind λk l ih d hd hc N Q hQ=>?_;obtain⟨a,es,c,rfl,J,O⟩:=Ty.is_mk.1 hd;simp only[Ty.cnt]at hc;refine Ea N _ Q λ_=>⟨_,_,_,rfl,?_⟩
 refine up O J (λi xs=>∀(m:Nat) (N':Nat),N<=N'->m+zI xs=1+zI l->xY Q N m a es c es.length i N') ?_ ?_ 1 N (oC _) rfl
 ·intro i U _ m N' Y hm;refine tY ?_;simp only[zI]at hm
  repeat' first|with_reducible intro _|simp only[U,Y1]|with_reducible refine X ?_ ?_|refine⟨_,_,_,rfl,?_⟩|refine⟨_,rfl,?_⟩|refine X0 ?_|fail
  exact Qi (hQ _ aA) (by simp only[Ty.cnt];omega)
 ·intro i x xs I _ aa m N' Y hm;have hb:=I.b;have ab:=ww I.m;simp only[zI]at hm;refine tY ?_
  repeat' first|with_reducible intro _|simp only[I.lt,I.w,oI,Y1]|with_reducible refine X ?_ ?_|refine⟨_,_,_,rfl,?_⟩|refine⟨_,rfl,?_⟩|refine X0 ?_|refine(ih x I.m _ I.r aA) _ _ ?_|fail
  rw[i64_in _ aA];exact aa (m+x.cnt) _ aA aA
theorem CS:∀(t:Ty)(d:D),t.Is d->t.cnt<=1073741824->BK 127 [.dg 2 d] t.dep:=by
 refine Ty.ind λk l ih d hd hc N Q hQ=>?_;obtain⟨a,es,c,rfl,J,O⟩:=Ty.is_mk.1 hd;simp only[Ty.cnt]at hc;have ab:=As l;refine DE N _ Q λ_=>⟨_,_,_,rfl,?_⟩
 refine up O J (λi xs=>∀(m:Nat) (N':Nat),N<=N'->max m (sj xs)=sj l->xI Q N m a es c es.length i N') ?_ ?_ 0 N (oC _) aA
 ·intro i U _ m N' Y hm;refine uy ?_;simp only[sj]at hm
  repeat' first|with_reducible intro _|simp only[U,Y1]|with_reducible refine X ?_ ?_|refine⟨_,_,_,rfl,?_⟩|refine⟨_,rfl,?_⟩|refine X0 ?_|fail
  rw[i64_in _ aA];exact Qi (hQ _ aA) (by simp only[Ty.dep];omega)
 ·intro i x xs I _ aa m N' Y hm;have hb:=I.b;have ac:=ww I.m;simp only[sj]at hm;refine uy ?_
  repeat' first|with_reducible intro _|simp only[I.lt,I.w,oI,Y1]|with_reducible refine X ?_ ?_|refine⟨_,_,_,rfl,?_⟩|refine⟨_,rfl,?_⟩|refine X0 ?_|refine(ih x I.m _ I.r aA) _ _ ?_|fail
  have e:(if(x.dep:Int)>(m:Int)then(x.dep:Int)else(m:Int))=((max m x.dep:Nat):Int):=by split<;>omega
  rw[e];exact aa _ _ aA aA
theorem Gl (t:Ty) d(hd:t.Is d):uE 129 [.dg 2 d] (pJ t.k t.as.length):=λN Q J=>by
 cases t with
 | mk k l=>
 obtain⟨a,es,c,rfl,U,O⟩:=Ty.is_mk.1 hd;have hl:=O.len;simp only[Ty.k,Ty.as]at J;refine A2 N _ Q λ_=>?_;cases I:inB k 1 4 with
 | false=>
   repeat' first|with_reducible intro _|simp only[I,Y1]|with_reducible refine X ?_ ?_|refine⟨_,_,_,rfl,?_⟩|refine⟨_,rfl,?_⟩|refine X0 ?_|refine(zm _ _ _) _ _ ?_|fail
   refine Qb (J _ aA) ?_;have:¬(1<=k/\k<=4):=λh=>by rw[yE.2 h]at I;cases I
   unfold pJ;rw[if_neg aA,if_neg aA,if_neg aA]
 | true=>
   have hb:=yE.1 I;have w0:IntKind.i64.wrap 0=0:=rfl;have Y:IntKind.i64.wrap 1=1:=rfl;have w2:IntKind.i64.wrap 2=2:=rfl;have w3:IntKind.i64.wrap 3=3:=rfl;have hk:k=1\/k=2\/k=3\/k=4:=aA
   rcases hk with rfl | rfl | rfl | rfl
   all_goals
    repeat' first|with_reducible intro _|simp only[I,w0,Y,w2,w3,Y1]|with_reducible refine X ?_ ?_|refine⟨_,_,_,rfl,?_⟩|refine⟨_,rfl,?_⟩|refine X0 ?_|refine(zm _ _ _) _ _ ?_|fail
    refine Qb (J _ aA) ?_;simp[pJ,hl]
theorem Hu:∀ l:aR,t8 l=!(l.any λx=>!x.form)
 | []=>rfl
 | t::ts=>by simp only[t8,lU,Hu ts];cases t.form<;>simp
theorem Gj {p l}(h:All2 Ty.Is l es)(O:es.length<=4611686018427387904) ad(hp:∀ x∈l,∀ d,x.Is d->uE 193 [.dg 2 d,.pd ad 0 (.fn 129 [])] (p x)) a c:
  uE 192 [.sv a 2 es c,.fn 193 [.pd ad 0 (.fn 129 [])]] (l.any p):=λN Q U=>by
 have hi:BK 234 [.sv a 2 es c,.fn 193 [.pd ad 0 (.fn 129 [])]] (Ck p l 0):=λN Q U=>by
  refine sH N a es c ad Q λ_=>?_;refine up h O (λi xs=>∀(N':Nat),N<=N'->(∀ N'',N'<=N''->Q (Ck p xs i) N'')->yG Q N a es c ad es.length i N') ?_ ?_ N (oC _) U
  ·intro i Y _ N' aa I;refine wW ?_
   repeat' first|with_reducible intro _|simp only[Y,Y1]|with_reducible refine X ?_ ?_|refine⟨_,_,_,rfl,?_⟩|refine⟨_,rfl,?_⟩|refine X0 ?_|fail
   exact I _ aA
  ·intro i x xs J _ ab N' aa I;have hb:=J.b;simp only[Ck]at I;refine wW ?_
   repeat' first|with_reducible intro _|simp only[J.lt,J.w,oI,Y1]|with_reducible refine X ?_ ?_|refine⟨_,_,_,rfl,?_⟩|refine⟨_,rfl,?_⟩|refine X0 ?_|refine(hp x J.m _ J.r) _ _ ?_|fail
   ·exact Qi (I _ aA) (by rw[if_pos aE])
   ·rename_i h;exact ab _ aA λN'' h2=>Qi (I _ aA) (by rw[h];simp)
 refine ux N a es c ad Q λ_=>?_
 repeat' first|with_reducible intro _|simp only[Y1]|with_reducible refine X ?_ ?_|refine⟨_,_,_,rfl,?_⟩|refine⟨_,rfl,?_⟩|refine X0 ?_|refine hi _ _ ?_|fail
 exact Qb (U _ aA) (Aa _ l 0 aA).symm
theorem Q5:∀(t:Ty)(d:D),t.Is d->uE 128 [.dg 2 d,.fn 129 []] t.form:=by
 refine Ty.ind λk l Y d hd N Q I=>?_;have O:=hd;obtain⟨a,es,c,rfl,J,U⟩:=Ty.is_mk.1 hd;refine DM N _ Q λ_=>?_;simp only[Ty.form,Hu]at I
 repeat' first|with_reducible intro _|simp only[Y1]|with_reducible refine X ?_ ?_|refine⟨_,_,_,rfl,?_⟩|refine⟨_,rfl,?_⟩|refine X0 ?_|refine(Gl _ _ O) _ _ ?_|refine(Gj U J _ (λx hx d hd=>λN Q I=>A5 N d _ Q λ_ N1 aa=>Y x hx d hd N1 _ λN2 ab ac N3 ae=>I N3 aA) _ _) _ _ ?_|fail
 ·have h:pJ (Ty.mk k l).k (Ty.mk k l).as.length=true:=aE
  exact Qb (I _ aA) (by simp only[Ty.k,Ty.as]at h;rw[h,Bool.and_true])
 ·rename_i h _ _;exact Qb (I _ aA) (by simp only[Ty.k,Ty.as]at h;rw[h,lM])
theorem xA (t:Ty) d(hd:t.Is d)(hc:t.cnt<=1073741824):uE 62 [.dg 2 d] t.valid:=λN Q I=>by
 refine DI N _ Q λ_=>?_
 repeat' first|with_reducible intro _|simp only[Y1]|with_reducible refine X ?_ ?_|refine⟨_,_,_,rfl,?_⟩|refine⟨_,rfl,?_⟩|refine X0 ?_|refine(Dx t d hd hc) _ _ ?_|refine(CS t d hd hc) _ _ ?_|refine(Q5 t d hd) _ _ ?_|fail
 ·refine Qb (I _ aA) ?_;have J:t.cnt<=30:=aA
  have O:t.dep<=8:=aA
  simp[Ty.valid, *]
 ·refine Qb (I _ aA) ?_;have O:¬t.dep<=8:=aA
  simp[Ty.valid, *]
 ·refine Qb (I _ aA) ?_;have J:¬t.cnt<=30:=aA
  simp[Ty.valid, *]
theorem ze:∀(t u:Ty)(d e:D),t.Is d->u.Is e->uE 182 [.dg 2 d,.dg 2 e] (rk t u):=by
 refine Ty.ind λk l ih u d e hd he N Q Y=>?_;cases u with
 | mk k' l'=>
 obtain⟨a,es,c,rfl,aa,ab⟩:=Ty.is_mk.1 hd;obtain⟨a',U,c',rfl,ae,O⟩:=Ty.is_mk.1 he;have hl:=ab.len;have al:=O.len;simp only[rk]at Y;have hf:uE 223 [.sv a 2 es c,.sv a' 2 U c',.fn 182 []] (qI l l'):=λN Q Y=>by
  have key:l.length=l'.length->∀(N':Nat),N<=N'->(∀ N'',N'<=N''->Q (qI l (l'.drop 0)) N'')->zY Q N a' U c' a es c es.length (0:Nat) N':=by
   intro ao;refine up ab aa (λi xs=>∀(N':Nat),N<=N'->(∀ N'',N'<=N''->Q (qI xs (l'.drop i)) N'')->zY Q N a' U c' a es c es.length i N') ?_ ?_
   ·intro i ah hi N' ai I;refine wU ?_
    repeat' first|with_reducible intro _|simp only[ah,Y1]|with_reducible refine X ?_ ?_|refine⟨_,_,_,rfl,?_⟩|refine⟨_,rfl,?_⟩|refine X0 ?_|fail
    refine Qb (I _ aE) ?_;rw[mQ aA];rfl
   ·intro i x xs J _ aj N' ai I;have hb:=J.b;have ac:i<l'.length:=aA
    have hg:l'[i]?=some l'[i]:=oH ac;have ak:l'.drop i=l'[i]::l'.drop (i+1):=ml ac;refine wU ?_;rw[ak]at I
    repeat' first|with_reducible intro _|simp only[J.lt,J.w,oI,Y1]|with_reducible refine X ?_ ?_|refine⟨_,_,_,rfl,?_⟩|refine⟨_,rfl,?_⟩|refine X0 ?_|refine(ih x J.m _ _ _ J.r (O.get hg)) _ _ ?_|fail
    ·exact Qb (I _ aA) (by simp[qI, *])
    ·exact aj _ aA λN'' h=>Qb (I N'' aA) (by simp[qI, *])
  refine sF N _ _ _ _ _ _ Q λ_ _=>?_
  repeat' first|with_reducible intro _|simp only[Y1]|with_reducible refine X ?_ ?_|refine⟨_,_,_,rfl,?_⟩|refine⟨_,rfl,?_⟩|refine X0 ?_|fail
  ·exact Qb (Y _ aE) (Ht aA)
  ·exact key aA N (oC _) Y
 refine FX N _ _ Q λ_ _=>?_
 repeat' first|with_reducible intro _|simp only[Y1]|with_reducible refine X ?_ ?_|refine⟨_,_,_,rfl,?_⟩|refine⟨_,rfl,?_⟩|refine X0 ?_|refine hf _ _ ?_|fail
 ·exact Qb (Y _ aA) (by simp[*])
 ·exact Qb (Y _ aA) (by simp[*])
theorem CT (t:Ty) d(hd:t.Is d):uE 228 [.dg 2 d] t.base:=λN Q U=>by
 cases t with
 | mk k l=>
 obtain⟨a,es,c,rfl,O,I⟩:=Ty.is_mk.1 hd;have hl:=I.len;have J:inB k 1 2=(k==1||k==2):=by rw[mC,yE];simp;omega
 refine LT N _ Q λ_=>?_
 repeat' first|with_reducible intro _|simp only[Y1]|with_reducible refine X ?_ ?_|refine⟨_,_,_,rfl,?_⟩|refine⟨_,rfl,?_⟩|refine X0 ?_|refine(zm _ _ _) _ _ ?_|fail
 all_goals(rename_i h _ _;rw[J]at h;exact Qb (U _ aA) (by simp only[Ty.base,Ty.k,Ty.as,h,hl];simp))
theorem BM s:BK 214 [.str s] (rj s):=λN Q I=>by
 refine Iz N s Q ?_
 repeat' first|with_reducible intro _|simp only[Y1]|with_reducible refine X ?_ ?_|refine⟨_,_,_,rfl,?_⟩|refine⟨_,rfl,?_⟩|refine X0 ?_|fail
 all_goals(refine Qi (I _ aE) ?_;unfold rj;(repeat' split)<;>first | rfl | contradiction)
def arI (k:Int)(nm:aG):Int:=
 if k=4 then rj nm else if k=5 then 3 else if k=7\/k=8 then 2 else if k=6\/k=9\/k=10\/k=11\/k=12\/k=13 then 1 else 0
theorem Es:BK 165 [.dg 9 (.ag [.j k,.t nm,.t ot,.j n,t0,t1,r0,r1,x])] (arI k nm):=λN Q I=>by
 refine Nj N _ Q λ_=>?_
 repeat' first|with_reducible intro _|simp only[Y1]|with_reducible refine X ?_ ?_|refine⟨_,_,_,rfl,?_⟩|refine⟨_,rfl,?_⟩|refine X0 ?_|refine(BM _) _ _ ?_|fail
 all_goals(refine Qi (I _ aA) ?_;simp[arI, *])
theorem tX n:uE 236 [.j n] (inB n 0 10006):=λN Q I=>by
 refine H9 N n Q ?_
 repeat' first|with_reducible intro _|simp only[Y1]|with_reducible refine X ?_ ?_|refine⟨_,_,_,rfl,?_⟩|refine⟨_,rfl,?_⟩|refine X0 ?_|refine(zm _ _ _) _ _ ?_|fail
 exact I _ aA
def Jk (k:Int)(nm ot:aG)(n:Int)(ty re:Ty):Bool:=
 if k=1\/k=8 then yN nm else if k=2 then inB n 0 10006 else if k=3 then inB n 0 1 else if k=4 then decide (rj nm>0)
 else if k=6 then yN nm&&ty.valid else if k=9 then yN nm&&(yN ot&&(!decide (nm=ot)&&(ty.valid&&re.valid)))else inB k 1 13
theorem Id (h:Tm.Hd nm ot ty re t0 t1 r0 r1)(hc:ty.cnt<=1073741824)(I:re.cnt<=1073741824):
  uE 196 [.dg 9 (.ag [.j k,.t nm,.t ot,.j n,t0,t1,r0,r1,x])] (Jk k nm ot n ty re):=λN Q J=>by
 refine I3 N _ Q λ_=>?_
 repeat' first|with_reducible intro _|simp only[Y1]|with_reducible refine X ?_ ?_|refine⟨_,_,_,rfl,?_⟩|refine⟨_,rfl,?_⟩|refine X0 ?_|refine(BM _) _ _ ?_|refine(rq _ h.nm) _ _ ?_|refine(rq _ h.ot) _ _ ?_|refine(tX _) _ _ ?_|refine(zm _ _ _) _ _ ?_|refine(xA _ _ h.ty hc) _ _ ?_|refine(xA _ _ h.re I) _ _ ?_|fail
 all_goals(refine Qb (J _ aA) ?_;simp[Jk, *])
theorem Nc t:rk t t=true:=(DB t t).2 rfl
def RG (k:Int)(nm ot:aG)(n:Int)(ty re:Ty)(m:Int):Bool:=
 decide (m=arI k nm)&&(Jk k nm ot n ty re&&((decide (k=1\/k=8\/k=4\/k=6\/k=9)||decide (nm=bytes []))&&((decide (k=9)||decide (ot=bytes []))&&((decide (k=2\/k=3)||decide (n=0)) &&
  ((decide (k=6\/k=9)||rk ty tZero)&&(decide (k=9)||rk re tZero))))))
theorem Ic (h:Tm.Hd nm ot ty re t0 t1 r0 r1)(hc:ty.cnt<=1073741824)(I:re.cnt<=1073741824):
  uE 131 [.dg 9 (.ag [.j k,.t nm,.t ot,.j n,t0,t1,r0,r1,.sl a 9 es c])] (RG k nm ot n ty re es.length):=λN Q J=>by
 refine La N _ Q λ_=>?_
 repeat' first|with_reducible intro _|simp only[Y1]|with_reducible refine X ?_ ?_|refine⟨_,_,_,rfl,?_⟩|refine⟨_,rfl,?_⟩|refine X0 ?_|refine Es _ _ ?_|refine(Id h hc I) _ _ ?_|refine(ze ty tZero _ _ h.ty xG) _ _ ?_|refine(ze re tZero _ _ h.re xG) _ _ ?_|refine(ze ty ty _ _ h.ty h.ty) _ _ ?_|refine(ze re re _ _ h.re h.re) _ _ ?_|fail
 all_goals first | (exfalso;omega) | (refine Qb (J _ aA) ?_;simp[RG,Nc, *];done) | (refine Qb (J _ aA) ?_;simp_all[RG,Nc];done)
theorem Y2 t:rk t tZero=t.zero:=by
 cases t with
 | mk k l => cases l<;>simp[rk,tZero,qI,Ty.zero,Ty.k,Ty.as]
             try omega
theorem Rw (h:t.zero=true):t.valid=false:=by
 cases t with
 | mk k l=>simp only[Ty.zero,Ty.k,Ty.as,oL,mG]at h;simp[Ty.valid,Ty.form,pJ,h.1]
theorem zB6 n:inB n 0 0=decide (n=0):=by rw[mC,yE,nl];omega
theorem zp (t:Ty) b:(!t.valid&&(t.zero&&b))=(t.zero&&b):=by
 cases h:t.zero with
 | false=>simp
 | true=>rw[Rw h];simp
theorem VQ k nm ot n ty re m(hm:0<=m):RG k nm ot n ty re m=(zH k nm ot n ty re&&m==IL k nm):=by
 by_cases Y:k=1\/k=2\/k=3\/k=4\/k=5\/k=6\/k=7\/k=8\/k=9\/k=10\/k=11\/k=12\/k=13
 ·rw[zBG m];have b5:inB 5 1 13=true:=rfl;have b7:inB 7 1 13=true:=rfl;have I:inB 10 1 13=true:=rfl;have J:inB 11 1 13=true:=rfl;have O:inB 12 1 13=true:=rfl;have U:inB 13 1 13=true:=rfl;rcases Y with rfl | rfl | rfl | rfl | rfl | rfl | rfl | rfl | rfl | rfl | rfl | rfl | rfl
  all_goals
   simp[RG,arI,Jk,zH,qh,zx,IL,Y2,zB6,zp,b5,b7,I,J,O,U]
   try(rw[mC];simp[and_comm,and_left_comm,and_assoc])
 ·have h1:IL k nm = -1:=by unfold IL;rw[if_neg aA,if_neg aA,if_neg aA,if_neg aA,if_neg aA]
  have h2:inB k 1 13=false:=by
   cases h:inB k 1 13 with
   | false=>rfl
   | true=>have:=yE.1 h;omega
  have h3:Jk k nm ot n ty re=false:=by unfold Jk;rw[if_neg aA,if_neg aA,if_neg aA,if_neg aA,if_neg aA,if_neg aA,h2]
  have h4:(m==IL k nm)=false:=by rw[h1,zBG];exact nX aA
  rw[h4,RG,h3];simp
theorem U3 (h:Tm.Hd nm ot ty re t0 t1 r0 r1)(hc:ty.cnt<=1073741824)(I:re.cnt<=1073741824):
  uE 131 [.dg 9 (.ag [.j k,.t nm,.t ot,.j n,t0,t1,r0,r1,.sl a 9 es c])] (zH k nm ot n ty re&&(es.length:Int)==IL k nm):=by
 rw[<-VQ _ _ _ _ _ _ _ aA];exact Ic h hc I
theorem NU:∀ l:aP,rZ l=!(l.any λx=>!x.ok)
 | []=>rfl
 | t::ts=>by simp only[rZ,lU,NU ts];cases t.ok<;>simp
theorem Gi {p}(h:All2 Tm.Is l es)(O:es.length<=4611686018427387904) ad(hp:∀ x∈l,∀ d,x.Is d->uE 195 [.dg 9 d,.pd ad 0 (.fn 131 [])] (p x)) a c:
  uE 194 [.sv a 9 es c,.fn 195 [.pd ad 0 (.fn 131 [])]] (l.any p):=λN Q U=>by
 have hi:BK 235 [.sv a 9 es c,.fn 195 [.pd ad 0 (.fn 131 [])]] (Ck p l 0):=λN Q U=>by
  refine sG N a es c ad Q λ_=>?_;refine up h O (λi xs=>∀(N':Nat),N<=N'->(∀ N'',N'<=N''->Q (Ck p xs i) N'')->yF Q N a es c ad es.length i N') ?_ ?_ N (oC _) U
  ·intro i Y _ N' aa I;refine wV ?_
   repeat' first|with_reducible intro _|simp only[Y,Y1]|with_reducible refine X ?_ ?_|refine⟨_,_,_,rfl,?_⟩|refine⟨_,rfl,?_⟩|refine X0 ?_|fail
   exact I _ aA
  ·intro i x xs J _ ab N' aa I;have hb:=J.b;simp only[Ck]at I;refine wV ?_
   repeat' first|with_reducible intro _|simp only[J.lt,J.w,oI,Y1]|with_reducible refine X ?_ ?_|refine⟨_,_,_,rfl,?_⟩|refine⟨_,rfl,?_⟩|refine X0 ?_|refine(hp x J.m _ J.r) _ _ ?_|fail
   ·exact Qi (I _ aA) (by rw[if_pos aE])
   ·rename_i h;exact ab _ aA λN'' h2=>Qi (I _ aA) (by rw[h];simp)
 refine uw N a es c ad Q λ_=>?_
 repeat' first|with_reducible intro _|simp only[Y1]|with_reducible refine X ?_ ?_|refine⟨_,_,_,rfl,?_⟩|refine⟨_,rfl,?_⟩|refine X0 ?_|refine hi _ _ ?_|fail
 exact Qb (U _ aA) (Aa _ l 0 aA).symm
theorem Q4:∀(t:Tm)(d:D),t.Is d->t.G->uE 130 [.dg 9 d,.fn 131 []] t.ok:=by
 refine Tm.ind λk nm ot n ty re l Y d hd hc N Q I=>?_;obtain⟨t0,t1,r0,r1,a,es,c,rfl,hh,J,O⟩:=Tm.is_mk.1 hd;have hl:=O.len;obtain⟨g1,g2,_,g4⟩:=hc;refine DL N _ Q λ_=>?_;simp only[Tm.ok,NU,<-hl]at I
 repeat' first|with_reducible intro _|simp only[Y1]|with_reducible refine X ?_ ?_|refine⟨_,_,_,rfl,?_⟩|refine⟨_,rfl,?_⟩|refine X0 ?_|refine(U3 hh aA aA) _ _ ?_|refine(Gi O J _ (λx U d hd=>λN Q I=>A4 N d _ Q λ_ N1 aa=>Y x U d hd (z8 g4 U) N1 _ λN2 ab ac N3 ae=>I N3 aA) _ _) _ _ ?_|fail
 ·have h:(zH k nm ot n ty re&&(es.length:Int)==IL k nm)=true:=aE
  exact Qb (I _ aA) (by rw[h,Bool.and_true])
 ·have h:(zH k nm ot n ty re&&(es.length:Int)==IL k nm)=false:=aE
  exact Qb (I _ aA) (by rw[h,lM])
theorem uU (t:Tm) d(hd:t.Is d)(hc:t.G):uE 64 [.dg 9 d] t.ok:=λN Q I=>by
 refine LV N _ Q λ_=>?_
 repeat' first|with_reducible intro _|simp only[Y1]|with_reducible refine X ?_ ?_|refine⟨_,_,_,rfl,?_⟩|refine⟨_,rfl,?_⟩|refine X0 ?_|refine(Q4 t d hd hc) _ _ ?_|fail
 exact I _ aA
theorem CU (t:Tm) d(hd:t.Is d)(hc:t.cnt<=1073741824):uE 64 [.dg 9 d] t.ok:=uU t d hd (Tm.G_cnt t hc)
theorem OQ {c1 c2 c4 c5 I J O}(h:0<=m/\m<=2):BK 175 [.dg 9 (.ag [.j k,c1,c2,.j n,c4,c5,I,J,O]),.j m] (zK k m):=λN Q U=>by
 refine qi N _ m Q λ_=>?_;rw[i64_in (m+1) aA,i64_in (m - 1) aA]
 repeat' first|with_reducible intro _|simp only[Y1]|with_reducible refine X ?_ ?_|refine⟨_,_,_,rfl,?_⟩|refine⟨_,rfl,?_⟩|refine X0 ?_|fail
 all_goals(refine Qi (U _ aA) ?_;simp[zK, *])
theorem Er d m:uE 119 [.dg 9 d,.j m] (inB m 0 2):=λN Q I=>by
 refine EY N _ m Q λ_=>?_
 repeat' first|with_reducible intro _|simp only[Y1]|with_reducible refine X ?_ ?_|refine⟨_,_,_,rfl,?_⟩|refine⟨_,rfl,?_⟩|refine X0 ?_|refine(zm _ _ _) _ _ ?_|fail
 exact I _ aA
theorem U8:∀(t:Tm)(d:D),t.Is d->∀ m:Int,uE 118 [.dg 9 d,.j m,.fn 119 []] (t.lev m):=by
 refine Tm.ind λk nm ot n ty re l ih d hd m N Q hQ=>?_;obtain⟨t0,t1,r0,r1,a,es,c,rfl,hh,U,Y⟩:=Tm.is_mk.1 hd;have hl:=Y.len;refine Fh N _ m Q λ_=>?_;cases I:inB m 0 2 with
 | false=>
   repeat' first|with_reducible intro _|simp only[I,Y1]|with_reducible refine X ?_ ?_|refine⟨_,_,_,rfl,?_⟩|refine⟨_,rfl,?_⟩|refine X0 ?_|refine(Er _ _) _ _ ?_|fail
   exact Qb (hQ _ aA) (by simp[Tm.lev,I])
 | true=>
   have hb:=yE.1 I;have key:=up Y U (λi xs=>∀(N':Nat),N<=N'->(∀ N'',N'<=N''->Q (rY xs (zK k m)) N'')->vK Q N m a es c es.length i (.ag [.j k,.t nm,.t ot,.j n,t0,t1,r0,r1,.sl a 9 es c]) N') ?_ ?_
   ·repeat' first|with_reducible intro _|simp only[I,Y1]|with_reducible refine X ?_ ?_|refine⟨_,_,_,rfl,?_⟩|refine⟨_,rfl,?_⟩|refine X0 ?_|refine(Er _ _) _ _ ?_|fail
    exact key _ aA λN'' h=>Qb (hQ N'' aA) (by simp[Tm.lev,I])
   ·intro i aa _ N' ab O;refine pQ ?_
    repeat' first|with_reducible intro _|simp only[aa,Y1]|with_reducible refine X ?_ ?_|refine⟨_,_,_,rfl,?_⟩|refine⟨_,rfl,?_⟩|refine X0 ?_|fail
    exact Qb (O _ aA) (by simp[rY])
   ·intro i x xs J _ ac N' ab O;have ae:=J.b;refine pQ ?_
    repeat' first|with_reducible intro _|simp only[J.lt,J.w,oI,Y1]|with_reducible refine X ?_ ?_|refine⟨_,_,_,rfl,?_⟩|refine⟨_,rfl,?_⟩|refine X0 ?_|refine(OQ hb) _ _ ?_|refine(ih x J.m _ J.r _) _ _ ?_|fail
    ·refine Qb (O _ aA) ?_;simp[rY, *]
    ·exact ac _ aA λN'' h=>Qb (O N'' aA) (by simp[rY, *])
theorem qQ t d(hd:t.Is d)(hc:t.G) m:uE 57 [.dg 9 d,.j m] (ut t m):=λN Q I=>by
 refine H3 N _ m Q λ_=>?_
 repeat' first|with_reducible intro _|simp only[Y1]|with_reducible refine X ?_ ?_|refine⟨_,_,_,rfl,?_⟩|refine⟨_,rfl,?_⟩|refine X0 ?_|refine(uU t d hd hc) _ _ ?_|refine(U8 t d hd m) _ _ ?_|fail
 all_goals(refine Qb (I _ aA) ?_;simp[ut, *])
theorem tW t d(hd:t.Is d)(hc:t.cnt<=1073741824) m:uE 57 [.dg 9 d,.j m] (ut t m):=qQ t d hd (Tm.G_cnt t hc) m
theorem SM (x:Tg) d(hd:x.Is d)(hc:x.ty.cnt<=1073741824):uE 116 [.dg 4 d] (!x.ok):=λN Q I=>by
 obtain⟨t0,t1,rfl,hs,J⟩:=hd;refine Iy N _ Q λ_=>?_
 repeat' first|with_reducible intro _|simp only[Y1]|with_reducible refine X ?_ ?_|refine⟨_,_,_,rfl,?_⟩|refine⟨_,rfl,?_⟩|refine X0 ?_|refine(rq _ hs) _ _ ?_|refine(xA _ _ J hc) _ _ ?_|refine(zm _ _ _) _ _ ?_|fail
 all_goals(refine Qb (I _ aA) ?_;simp[Tg.ok, *])
theorem NO:∀ l:aQ,Iu l=!(l.any λx=>!x.ok)
 | []=>rfl
 | t::ts=>by simp only[Iu,lU,NO ts];cases t.ok<;>simp
theorem pD (h:Ctx g es)(hc:∀ x∈g,x.ty.cnt<=1073741824) a c:uE 56 [.sv a 4 es c] (Ik g):=λN Q O=>by
 have hl:=h.all.len;have hi:BK 173 [.sv a 4 es c,.fn 116 []] (Ck (λx=>!x.ok) g 0):=λN Q O=>by
  refine tG N a es c Q λ_=>?_;refine up h.all h.len (λi xs=>∀(N':Nat),N<=N'->(∀ N'',N'<=N''->Q (Ck (λx=>!x.ok) xs i) N'')->zj Q N a es c es.length i N') ?_ ?_ N (oC _) O
  ·intro i U _ N' Y I;refine wC ?_
   repeat' first|with_reducible intro _|simp only[U,Y1]|with_reducible refine X ?_ ?_|refine⟨_,_,_,rfl,?_⟩|refine⟨_,rfl,?_⟩|refine X0 ?_|fail
   exact I _ aA
  ·intro i x xs J _ aa N' Y I;have hb:=J.b;simp only[Ck]at I;refine wC ?_
   repeat' first|with_reducible intro _|simp only[J.lt,J.w,oI,Y1]|with_reducible refine X ?_ ?_|refine⟨_,_,_,rfl,?_⟩|refine⟨_,rfl,?_⟩|refine X0 ?_|refine(SM x _ J.r (hc x J.m)) _ _ ?_|fail
   all_goals first
    | exact Qi (I _ aA) (by rw[if_pos (by simp[*])])
    | exact aa _ aA λN'' h2=>Qi (I _ aA) (by rw[if_neg (by simp[*])];simp)
 have ab:uE 115 [.sv a 4 es c,.fn 116 []] (g.any λx=>!x.ok):=λN Q O=>by
  refine uN N a es c Q λ_=>?_
  repeat' first|with_reducible intro _|simp only[Y1]|with_reducible refine X ?_ ?_|refine⟨_,_,_,rfl,?_⟩|refine⟨_,rfl,?_⟩|refine X0 ?_|refine hi _ _ ?_|fail
  exact Qb (O _ aA) (Aa _ g 0 aA).symm
 refine Nh N a es c Q λ_=>?_
 repeat' first|with_reducible intro _|simp only[Y1]|with_reducible refine X ?_ ?_|refine⟨_,_,_,rfl,?_⟩|refine⟨_,rfl,?_⟩|refine X0 ?_|refine ab _ _ ?_|fail
 ·exact Qb (O _ aA) (by have:(g.length:Int)<=12:=aA
                        simp[Ik,NO,this])
 ·exact Qb (O _ aA) (by have:¬(g.length:Int)<=12:=aA
                        simp[Ik,this])
theorem Dt (h:Ctx g es) a c s:BK 177 [.sv a 4 es c,.str s] (ym g s):=λN Q hQ=>by
 have hl:=h.all.len;have h1:=h.len;refine H7 N a es c s Q λ_=>?_;have key:=zBm h.all h.len (λm=>∀(N':Nat),N<=N'->(∀ N'',N'<=N''->Q (BV g s (m+1).toNat) N'')->wG Q N a es c s m N') ?_ ?_
 ·rw[i64_in _ aA];exact key N (oC _) λN' J=>Qi (hQ N' J) (by rw[ym,<-hl];congr 1;omega)
 ·intro N' J I;refine rQ ?_
  repeat' first|with_reducible intro _|simp only[Y1]|with_reducible refine X ?_ ?_|refine⟨_,_,_,rfl,?_⟩|refine⟨_,rfl,?_⟩|refine X0 ?_|fail
  ·omega
  ·exact I _ aE
 ·intro i x O U hw ih N' J I;have hb:=O.b;obtain⟨t0,t1,hd,hs,ht⟩:=O.r;have e1:((i:Int)+1).toNat=i+1:=aA
  have e2:((i:Int) - 1+1).toNat=i:=aA
  rw[e1]at I;simp only[BV,K1 O.g]at I;rw[e2]at ih;refine rQ ?_
  repeat' first|with_reducible intro _|simp only[U,hw,oI,hd,Y1]|with_reducible refine X ?_ ?_|refine⟨_,_,_,rfl,?_⟩|refine⟨_,rfl,?_⟩|refine X0 ?_|fail
  ·rename_i Y _ _;exact Qi (I _ aA) (by rw[if_pos Y])
  ·rename_i Y;exact ih _ aA λN'' h=>Qi (I N'' aA) (by rw[if_neg Y])
theorem Kh:∀(t:Ty)(d:D),t.Is d->t.cnt<=1073741824->FL 178 [.dg 2 d] t:=by
 refine Ty.ind λk l ih d hd hc N Q hQ=>?_;obtain⟨a,es,c,rfl,Y,aa⟩:=Ty.is_mk.1 hd;have hl:=aa.len;simp only[Ty.cnt]at hc;have al:=Bn l;refine H6 N _ Q λ_=>⟨_,rfl,_,_,_,rfl,?_⟩
 have key:=up aa Y (λi xs=>∀(N':Nat),N<=N'->(i=0->uD Q N a es c es.length i 0 none [] 0 k none [] 0 N')/\∀(m q:Nat) (r:aM),m=r.length->All2 Ty.Is (l.take i) r->OwnL N N' r ->
  xK Q N a es c es.length i 0 none [] 0 k m q r q N') ?_ ?_
 ·exact(key N (oC _)).1 rfl
 ·intro i ab hi N' ai;refine⟨λh0=>rP ?_,λm q r hm U ho=>u3 ?_⟩
  ·repeat' first|with_reducible intro _|simp only[ab,Y1]|with_reducible refine X ?_ ?_|refine⟨_,_,_,rfl,?_⟩|refine⟨_,rfl,?_⟩|refine X0 ?_|fail
   have:l=[]:=oV aA;subst this;exact hQ _ _ aA (wB _) yo
  ·repeat' first|with_reducible intro _|simp only[ab,Y1]|with_reducible refine X ?_ ?_|refine⟨_,_,_,rfl,?_⟩|refine⟨_,rfl,?_⟩|refine X0 ?_|fail
   rename_i a' N3 J hf N4 aj;rw[o3 aA]at U;exact hQ _ _ aA (Ty.is_mk.2 ⟨_,_,_,rfl,by have:=U.len;omega,U⟩) (BW (zW (zf ((p8 ho hf aA).mono (oC _) aj))))
 ·intro i x xs I _ ac N' ai;have hb:=I.b;have ao:=ww I.m;refine⟨λh0=>rP ?_,λm q r hm U ho=>u3 ?_⟩
  ·repeat' first|with_reducible intro _|simp only[I.lt,I.w,oI,Y1]|with_reducible refine X ?_ ?_|refine⟨_,_,_,rfl,?_⟩|refine⟨_,rfl,?_⟩|refine X0 ?_|refine(ih x I.m _ I.r aA) _ _ ?_|fail
   rename_i N2 ae d' N3 J hx O ak ah;subst h0;exact⟨by unfold zB;simp,λc2=>(ac _ aA).2 _ _ _ rfl (by rw[vw I.g];exact⟨_,_,rfl,hx,rfl⟩) (zf (O.mono aA (oC _)))⟩
  ·repeat' first|with_reducible intro _|simp only[I.lt,I.w,oI,Y1]|with_reducible refine X ?_ ?_|refine⟨_,_,_,rfl,?_⟩|refine⟨_,rfl,?_⟩|refine X0 ?_|refine(ih x I.m _ I.r aA) _ _ ?_|fail
   rename_i N2 ae d' N3 J hx O ak ah;have aq:=U.len;have au:(l.take i).length=i:=by rw[nO];omega
   refine⟨by unfold zB;simp only[oG,mE];omega,λc2=>?_⟩;exact(ac _ aA).2 _ _ _ rfl (by rw[vw I.g];exact U.snoc hx) (zg (ho.mono (oC _) ae) (zf O) aA J)
theorem OT:FL 179 [] tInt:=λN Q J=>Nn N Q λN' I=>J _ _ I (wB _) yo
theorem GB:FL 180 [] tBool:=λN Q J=>Ld N Q λN' I=>J _ _ I (wB _) yo
theorem OS t u d e(hd:t.Is d)(he:u.Is e)(I:t.cnt<=1073741824)(J:u.cnt<=1073741824):FL 184 [.dg 2 d,.dg 2 e] (wP t u):=λN Q hQ=>by
 refine Nm N _ _ Q λ_ _=>?_
 repeat' first|with_reducible intro _|simp only[Y1]|with_reducible refine X ?_ ?_|refine⟨_,_,_,rfl,?_⟩|refine⟨_,rfl,?_⟩|refine X0 ?_|refine(Kh t d hd I) _ _ ?_|refine(Kh u e he J) _ _ ?_|fail
 rename_i N1 O d1 N2 ab h1 o1 ac b1 N3 U d2 N4 Y h2 o2 ae b2 a' N5 ah hf N6 aa;exact hQ _ _ aA (Ty.is_mk.2 ⟨_,_,_,rfl,aB,_,_,rfl,h1,_,_,rfl,h2,rfl⟩)
  (BW (zW (zf ((p8 (zg ((zf o1).mono O U) (zf o2) aA Y) hf aA).mono (oC _) aa))))
theorem Kn t d(hd:t.Is d)(I:t.cnt<=1073741824):FL 225 [.dg 2 d] (xW t):=λN Q U=>by
 refine Le N _ Q λ_=>?_
 repeat' first|with_reducible intro _|simp only[Y1]|with_reducible refine X ?_ ?_|refine⟨_,_,_,rfl,?_⟩|refine⟨_,rfl,?_⟩|refine X0 ?_|refine(Kh t d hd I) _ _ ?_|fail
 rename_i N1 J d1 N2 Y h1 o1 aa b1 a' N5 ab hf N6 O;exact U _ _ aA (Ty.is_mk.2 ⟨_,_,_,rfl,aB,_,_,rfl,h1,rfl⟩)
  (BW (zW (zf ((p8 ((zf o1).mono J (oC _)) hf aA).mono (oC _) O))))
def Ev (t:Ty):Ty:=if t.k=4 then t.as.getD 0 tZero else tZero
theorem Ph t d(hd:t.Is d)(hv:t.valid=true\/t=tZero):FL 226 [.dg 2 d] (Ev t):=λN Q I=>by
 cases t with
 | mk k l=>
 obtain⟨a,es,c,rfl,aa,J⟩:=Ty.is_mk.1 hd;refine LZ N _ Q λ_=>?_;by_cases hk:k=4
 ·subst hk;rcases hv with hv | hv
  ·have hf:=Ty.form_len hv;have O:=Ty.valid_cnt hv;have U:(l.length:Int)=1:=by simpa [pJ]using hf
   obtain⟨u,rfl⟩:=E3 (l:=l) aA;obtain⟨x0,_,rfl,Y,rfl⟩:=J;simp only[Ty.cnt,zI]at O;have e:Ev (.mk 4 [u])=u:=rfl;rw[e]at I
   repeat' first|with_reducible intro _|simp only[oJ,oN,Y1]|with_reducible refine X ?_ ?_|refine⟨_,_,_,rfl,?_⟩|refine⟨_,rfl,?_⟩|refine X0 ?_|refine(Kh u _ Y aA) _ _ ?_|fail
   all_goals first | (exfalso;omega) | skip
   rename_i N1 ab d1 N2 ac h1 o1 U b1 N3 ae;exact I _ _ aA h1 (o1.mono aA aA)
  ·cases hv
 ·have e:Ev (.mk k l)=tZero:=by unfold Ev;exact if_neg hk
  rw[e]at I
  repeat' first|with_reducible intro _|simp only[Y1]|with_reducible refine X ?_ ?_|refine⟨_,_,_,rfl,?_⟩|refine⟨_,rfl,?_⟩|refine X0 ?_|fail
  all_goals first | (exfalso;omega) | skip
  exact I _ _ aA xG yo
def Dn (u:Ty):aR->Bool
 | []=>true
 | t::ts=>rk t u&&Dn u ts
def Bh (s:aG):Ty:=if s=bytes [61]then tInt else if s=bytes [60]then tInt else if s=bytes [38]then tBool else if s=bytes [124]then tBool else if s=bytes [33]then tBool else tInt
def E4 (s:aG):Ty:=if s=bytes [61]then tBool else if s=bytes [60]then tBool else if s=bytes [38]then tBool else if s=bytes [124]then tBool else if s=bytes [33]then tBool else tInt
theorem U9 {ts}(h:All2 Ty.Is ts es)(O:es.length<=4611686018427387904) a c s:
  FL 181 [.str s,.sv a 2 es c] (if Dn (Bh s) ts then E4 s else tZero):=λN Q U=>by
 have key:∀(u v:Ty) (d e:D) (N0 N1:Nat),u.Is d->v.Is e->Own N N1 e->N<=N1->Bh s=u->E4 s=v->zR Q N a es c es.length (0:Nat) 0 none [] 0 d e N1:=by
  intro u v d e N0 N1 hd he ho ae hu hv;subst hu hv;refine up h O (λi xs=>∀(N':Nat),N1<=N'->Dn (Bh s) xs=Dn (Bh s) ts->zR Q N a es c es.length i 0 none [] 0 d e N') ?_ ?_ N1 (oC _) rfl
  ·intro i aa _ N' ab Y;refine qV ?_;rw[<-Y]at U
   repeat' first|with_reducible intro _|simp only[aa,Y1]|with_reducible refine X ?_ ?_|refine⟨_,_,_,rfl,?_⟩|refine⟨_,rfl,?_⟩|refine X0 ?_|fail
   exact U _ _ aA he (ho.mono (oC _) aA)
  ·intro i x xs I _ ac N' ab Y;have hb:=I.b;refine qV ?_
   repeat' first|with_reducible intro _|simp only[I.lt,I.w,oI,Y1]|with_reducible refine X ?_ ?_|refine⟨_,_,_,rfl,?_⟩|refine⟨_,rfl,?_⟩|refine X0 ?_|refine(ze x _ _ _ I.r hd) _ _ ?_|fail
   ·rename_i J _ _;rw[<-Y,Dn,J]at U;exact U _ _ aA xG yo
   ·rename_i J;exact ac _ aA (by rw[<-Y,Dn,J,Bool.true_and])
 refine Lb N s a es c Q λ_=>?_
 repeat' first|with_reducible intro _|simp only[Y1]|with_reducible refine X ?_ ?_|refine⟨_,_,_,rfl,?_⟩|refine⟨_,rfl,?_⟩|refine X0 ?_|refine OT _ _ ?_|refine GB _ _ ?_|fail
 all_goals first
  | exact key tInt tBool _ _ 0 _ aE aE (Own.mono aE aA aA) aA (by unfold Bh;(repeat' split)<;>first | rfl | contradiction) (by unfold E4;(repeat' split)<;>first | rfl | contradiction)
  | exact key tBool tBool _ _ 0 _ aE aE (Own.mono aE aA aA) aA (by unfold Bh;(repeat' split)<;>first | rfl | contradiction) (by unfold E4;(repeat' split)<;>first | rfl | contradiction)
  | exact key tInt tInt _ _ 0 _ aE aE (Own.mono aE aA aA) aA (by unfold Bh;(repeat' split)<;>first | rfl | contradiction) (by unfold E4;(repeat' split)<;>first | rfl | contradiction)
theorem ZP {f rs args}{Q:QT rs}(hc:xt prog f=true)(O:PV.sv none z es c∈args)(I:es≠[]):ACalls prog f rs args N Q:=
 ⟨hc,λav w0 _ _ J=>by have h:=(J _ O).1.1;cases h;exact absurd rfl I⟩
theorem Xf (h:Ctx g es)(hg:g.length<=1073741824) a c N(Q:QT [.row 94 4])(U:∀ Y N',N<=N'->Q es Y N'):ACalls prog 224 [.row 94 4] [.sv a 4 es c] N Q:=by
 have hl:=h.all.len;have aa:zB [] es 56:=by unfold zB;simp only[oa];omega
 have I:(a=none->es=[])->ACalls prog 224 [.row 94 4] [.sv a 4 es c] N Q:=λhn=>by
  refine AM N a es c Q λ_=>?_
  repeat' first|with_reducible intro _|simp only[Y1]|with_reducible refine X ?_ ?_|refine⟨_,_,_,rfl,?_⟩|refine⟨_,rfl,?_⟩|refine X0 ?_|fail
  ·rename_i hi N1 O;have:es=[]:=hn (by simpa using hi);subst this;exact U _ _ O
  ·simp only[oa];exact U _ _ aA
 cases a with
 | some ad=>exact I aB
 | none=>
   by_cases J:es=[]
   ·exact I λ_=>J
   ·exact ZP (z:=4) (c:=c) (es:=es) (by kernel_rfl) aB J
theorem uJ:∀ x∈(D.sl a z es c).foot,x∈zC es\/∃ ad,a=some ad/\x=ad.block:=by
 intro x hx;cases a with
 | none=>simp only[D.foot]at hx;exact .inl hx
 | some ad=>
   simp only[D.foot]at hx;split at hx
   ·simp at hx
   ·rcases oK.1 hx with rfl | hx
    ·exact .inr ⟨ad,rfl,rfl⟩
    ·exact .inl hx
theorem VP:∀ x∈zC es,x∈(D.sl a z es c).foot:=by
 intro x I;cases a with
 | none=>simpa only[D.foot]using I
 | some ad=>
   simp only[D.foot];split
   ·rename_i h;cases es with
    | nil=>simp[zC]at I
    | cons=>simp at h
   ·exact nj _ I
theorem Sb {h}(J:Ctx g es)(U:Ctx h fs)(aa:g.length+h.length<=1073741824) a b c e N(Q:QT [.sl 4])(hQ:∀ O I Y N',N<=N'->Ctx (g++h) I->(∀ x∈(D.sl O 4 I Y).foot,x∈zC es\/x∈zC fs\/N<=x)->Q O I Y N'):ACalls prog 183 [.sl 4] [.sv a 4 es c,.sv b 4 fs e] N Q:=by
 have hl:=J.all.len;have ab:=U.all.len;have hb:zB es fs 56:=by unfold zB;simp only[oG];omega
 refine PU N a es c b fs e Q λ_ _=>?_
 repeat' first|with_reducible intro _|simp only[Y1]|with_reducible refine X ?_ ?_|refine⟨_,_,_,rfl,?_⟩|refine⟨_,rfl,?_⟩|refine X0 ?_|refine(Xf J aA _ _) _ _ ?_|fail
 rename_i O N3 ac hf N4 ae;refine hQ _ _ _ _ aA ⟨aF,J.all.app U.all⟩ λx hx=>?_;rcases uJ x hx with h1 | ⟨ad,rfl,rfl⟩
 ·rw[zF]at h1;rcases oM.1 h1 with h1 | h1
  ·exact .inl h1
  ·exact .inr (.inl h1)
 ·have:=hf.lo ad rfl
  exact .inr (.inr aA)
theorem SO (h:Ctx g es)(hg:g.length<=1073741824)(hc:∀ x∈g,x.ty.cnt<=1073741824) a c n:
  ∀(N:Nat) (Q:QT [.sl 4]),(∀ a' J c' N',N<=N'->Ctx (tn g n) J->Q a' J c' N')->ACalls prog 227 [.sl 4] [.sv a 4 es c,.j n] N Q:=λN Q hQ=>by
 have hl:=h.all.len;refine I2 N a es c n Q λ_=>?_;have key:=up h.all h.len (λi xs=>∀(r:aM) (m q:Nat) (N':Nat) (done:aQ),N<=N'->m=r.length->All2 Tg.Is done r->done.length<=i->done++sf g n xs i=tn g n->yQ Q N a es c n m q a es c es.length i r q N') ?_ ?_
 ·exact key [] 0 0 N [] (oC _) rfl rfl (oC _) rfl
 ·intro i Y hi r m q N' done aa hm O ab hd;refine qT ?_
  repeat' first|with_reducible intro _|simp only[Y,Y1]|with_reducible refine X ?_ ?_|refine⟨_,_,_,rfl,?_⟩|refine⟨_,rfl,?_⟩|refine X0 ?_|fail
  refine hQ _ _ _ _ aA ⟨by have:=O.len;omega,?_⟩;simp only[sf,o8]at hd;rwa[<-hd]
 ·intro i x xs I _ U r m q N' done aa hm O ab hd;have hb:=I.b;have ae:=O.len;obtain⟨t0,t1,he,hs,ht⟩:=I.r;simp only[sf]at hd;refine qT ?_
  repeat' first|with_reducible intro _|simp only[I.lt,I.w,oI,he,Y1]|with_reducible refine X ?_ ?_|refine⟨_,_,_,rfl,?_⟩|refine⟨_,rfl,?_⟩|refine X0 ?_|refine(CT _ _ ht) _ _ ?_|refine(Dt h a c _) _ _ ?_|refine(Kh _ _ ht (hc x I.m)) _ _ ?_|fail
  ·rename_i N2 ah x' N3 ai hx ho _ _;have ac:Hh g n x i=true:=by simp[Hh, *]
   rw[if_pos ac]at hd;refine⟨by unfold zB;simp only[oG,mE];omega,λc2=>U _ _ _ _ (done++[x]) aA rfl (O.snoc ⟨_,_,rfl,hs,Ty.is_cells hx⟩) aF (by simpa using hd)⟩
  all_goals(refine U _ _ _ _ done aA hm O aA ?_;rw[<-hd,if_neg (by simp[Hh, *])])
theorem xk {bs}(hb:xj N bs)(J:Own N N' d):Off bs d:=λa O ad I U=>by
 have:=hb a O ad I
 have:=J.lo _ U
 omega
theorem K8 {x b O U}(h1:ApA a fs)(h2:Off [a] (.sl x 4 es c))(h3:xj N [a])(h4:∀ y∈(D.sl b 4 O U).foot,y∈zC es\/y∈zC fs\/N<=y):Off [a] (.sl b 4 O U):=λY J ad I hm=>by
 have e:=oi.1 J;subst e;rcases h4 _ hm with h | h | h
 ·exact h2 Y J ad I (VP _ h)
 ·obtain⟨d,hd,hx⟩:=zJ.1 h;exact h1 ad I d hd hx
 ·have:=h3 Y J ad I
  omega
theorem Ty.valid_k (h:t.valid=true):t.k=1/\t.as=[]\/t.k=2/\t.as=[]\/(t.k=3/\∃ a b,t.as=[a,b])\/(t.k=4/\∃ a,t.as=[a]):=by
 cases t with
 | mk k l=>
   have I:=Ty.form_len h;simp only[Ty.k,Ty.as];unfold pJ at I;split at I
   ·rename_i hk;have hl:l=[]:=by simpa using I
    rcases hk with hk | hk
    ·exact .inl ⟨hk,hl⟩
    ·exact .inr (.inl ⟨hk,hl⟩)
   ·split at I
    ·rename_i hk;exact .inr (.inr (.inl ⟨hk,Qf (by simp at I;omega)⟩))
    ·split at I
     ·rename_i hk;exact .inr (.inr (.inr ⟨hk,E3 (by simp at I;omega)⟩))
     ·cases I
theorem Ty.valid_nz (h:t.valid=true):t.k≠0:=by rcases Ty.valid_k h with h | h | h | h<;>omega
theorem Sy (h:t.valid=true):rk t tZero=false/\rk tZero t=false:=by
 have I:=Ty.valid_nz h;cases t with
 | mk k l=>have I:k≠0:=I;have J:0≠k:=λh=>I h.symm;constructor<;>simp[rk,tZero,I,J]
theorem Sx (h:t.valid=true):rk t tBool=decide (t.k=2):=by
 have I:=Ty.valid_k h;cases t with
 | mk k l=>
   simp only[Ty.k,Ty.as]at I;rw[mC,DB,nl];simp only[tBool,Ty.k,Ty.mk.injEq];rcases I with⟨I,hl⟩ | ⟨I,hl⟩ | ⟨I,_⟩ | ⟨I,_⟩<;>simp[I]
   exact hl
theorem Zp (h:t.valid=true):rk t tInt=decide (t.k=1):=by
 have I:=Ty.valid_k h;cases t with
 | mk k l=>
   simp only[Ty.k,Ty.as]at I;rw[mC,DB,nl];simp only[tInt,Ty.k,Ty.mk.injEq];rcases I with⟨I,hl⟩ | ⟨I,hl⟩ | ⟨I,_⟩ | ⟨I,_⟩<;>simp[I]
   exact hl
def tyZ (e:Tm)(g:aQ)(n:Int):Ty:=(e.type g n).getD tZero
theorem PM e g n:(tyZ e g n).cnt<=30:=LQ e g n
theorem rh e g n:(e.type g n=none/\tyZ e g n=tZero)\/(e.type g n=some (tyZ e g n)/\(tyZ e g n).valid=true):=by
 cases h:e.type g n with
 | none=>exact .inl ⟨rfl,by simp[tyZ,h]⟩
 | some t=>exact .inr ⟨by simp[tyZ,h],by simpa [tyZ,h]using Tm.type_valid h⟩
def IHi (l:aP):Prop:=∀ x∈l,∀ d,x.Is d->∀ g es a c n,Pre g x n->Ctx g es->FL 58 [.sv a 4 es c,.dg 9 d,.j n] (tyZ x g n)
theorem Gq (hk:zK k n=n)(ih:IHi l)(U:All2 Tm.Is l I)(aa:I.length<=4611686018427387904)(pre:Pre g (.mk k nm ot m ty re l) n)(J:Ctx g es)(i:Nat){x}(O:l[i]?=some x) b1 b2 Y:
  FL 176 [.j i,.pd b1 0 (.sl a 4 es c),.pd b2 9 (.ag [.j k,.t nm,.t ot,.j m,t0,t1,r0,r1,.sl a1 9 I c1]),.pd Y 0 (.j n)] (tyZ x g n):=λN Q hQ=>by
 have ab:=(oD.1 O).1;have ac:=U.len;have hm:=oB O;have hp:=pre.sub hm (g':=g) aA pre.ty;rw[hk]at hp;refine A6 N i b1 _ b2 _ Y _ Q ?_;refine⟨_,_,_,rfl,_,_,_,rfl,⟨aA,aA⟩,_,rfl,?_⟩
 repeat' first|with_reducible intro _|simp only[oI,Y1]|with_reducible refine X ?_ ?_|refine⟨_,_,_,rfl,?_⟩|refine⟨_,rfl,?_⟩|refine X0 ?_|refine(ih x hm _ (U.get O) g _ _ _ n hp J) _ _ ?_|fail
 exact hQ _ _ aA aE (Own.mono aE aA aA)
theorem zB4 {e1 I}:((match yT [e0,e1,I] g n with | some ts=>wL 5 s ts | none=>none):Option Ty).getD tZero =
  if rk (tyZ e0 g n) tBool&&rk (tyZ e1 g n) (tyZ I g n)then tyZ e1 g n else tZero:=by
 rcases rh e0 g n with⟨J,z0⟩ | ⟨J,v0⟩
 ·simp only[yT,J,z0];rfl
 ·rcases rh e1 g n with⟨O,Y⟩ | ⟨O,v1⟩
  ·simp only[yT,J,O,Y];split<;>rfl
  ·rcases rh I g n with⟨U,z2⟩ | ⟨U,v2⟩
   ·simp only[yT,J,O,U,z2,(Sy v1).1,lM];rfl
   ·simp only[yT,J,O,U];rw[Sx v0];show(wL 5 s [tyZ e0 g n,tyZ e1 g n,tyZ I g n]).getD tZero=_;unfold wL;rw[if_neg aA,if_pos rfl];simp only[mL,mr];by_cases hc:(tyZ e0 g n).k=2/\rk (tyZ e1 g n) (tyZ I g n)=true
    ·rw[if_pos hc,if_pos (by simp[hc.1,hc.2])];rfl
    ·rw[if_neg hc,if_neg (by simpa using hc)];rfl
theorem zBC {e1}:((match yT [e0,e1] g n with | some ts=>wL 7 s ts | none=>none):Option Ty).getD tZero =
  if(tyZ e0 g n).k=3/\rk ((tyZ e0 g n).as.getD 0 tZero) (tyZ e1 g n)then(tyZ e0 g n).as.getD 1 tZero else tZero:=by
 rcases rh e0 g n with⟨J,z0⟩ | ⟨J,v0⟩
 ·simp only[yT,J,z0];rfl
 ·rcases rh e1 g n with⟨O,Y⟩ | ⟨O,v1⟩
  ·simp only[yT,J,O,Y];rw[if_neg]
   ·rfl
   ·rintro⟨hk,U⟩
    rcases Ty.valid_k v0 with h | h | ⟨_,a,b,I⟩ | h
    ·omega
    ·omega
    ·rw[I,DB]at U;simp only[mL]at U;subst U;have:(tyZ e0 g n).form=true:=by simp only[Ty.valid,oL]at v0;exact v0.2
     cases hz:tyZ e0 g n with
     | mk k l=>rw[hz]at I this;simp only[Ty.as]at I;subst I;simp[Ty.form,t8,pJ,tZero]at this
    ·omega
  ·simp only[yT,J,O];show(wL 7 s [tyZ e0 g n,tyZ e1 g n]).getD tZero=_;unfold wL;rw[if_neg aA,if_neg aA];simp only[mL,mr];split<;>rfl
theorem zB5 (hs:0<rj s):((match yT l g n with | some ts=>wL 4 s ts | none=>none):Option Ty).getD tZero =
  if Dn (Bh s) (l.map λe=>tyZ e g n)then E4 s else tZero:=by
 have Y:E4 s=HT s/\(Bh s=tInt/\M4 s=1\/Bh s=tBool/\M4 s=2):=by
  unfold rj at hs
  (repeat' split at hs)<;>first | omega | (subst_vars;exact⟨rfl,.inl ⟨rfl,rfl⟩⟩) | (subst_vars;exact⟨rfl,.inr ⟨rfl,rfl⟩⟩) | skip
 obtain⟨h3,I⟩:=Y
 have key:∀ l:aP,(∀ ts,yT l g n=some ts->Dn (Bh s) (l.map λe=>tyZ e g n)=Ul (M4 s) ts)/\(yT l g n=none->Dn (Bh s) (l.map λe=>tyZ e g n)=false):=by
  intro l
  induction l with
  | nil=>exact⟨λts h=>by simp[yT]at h;subst h;rfl,λh=>by simp[yT]at h⟩
  | cons e l O=>
    rcases rh e g n with⟨J,z0⟩ | ⟨J,v0⟩
    ·have:rk tZero (Bh s)=false:=by rcases I with⟨I,_⟩ | ⟨I,_⟩<;>rw[I]<;>rfl
     refine⟨λts h=>by simp[yT,J]at h,λ_=>by simp[Dn,z0,this]⟩
    ·have hk:rk (tyZ e g n) (Bh s)=decide ((tyZ e g n).k=M4 s):=by
      rcases I with⟨I,U⟩ | ⟨I,U⟩<;>rw[I,U]
      ·exact Zp v0
      ·exact Sx v0
     cases hl:yT l g n with
     | none=>exact⟨λts h=>by simp[yT,J,hl]at h,λ_=>by simp[Dn,O.2 hl]⟩
     | some us=>refine⟨λts h=>?_,λh=>by simp[yT,J,hl]at h⟩;simp only[yT,J,hl,od]at h;subst h;simp only[o9,Dn,Ul,hk,O.1 us hl]
 cases hl:yT l g n with
 | none=>rw[(key l).2 hl];rfl
 | some ts=>rw[(key l).1 ts hl,h3];show(wL 4 s ts).getD tZero=_;unfold wL YU;rw[if_pos rfl];split<;>rfl
abbrev In (k:Int)(nm ot:aG)(m:Int)(t0 t1 r0 r1:D)(a:aH)(es:aM)(c:Nat):D:=.ag [.j k,.t nm,.t ot,.j m,t0,t1,r0,r1,.sl a 9 es c]
theorem f5 (Y:IHi l)(hh:Tm.Hd nm ot ty re t0 t1 r0 r1)(h0:All2 Tm.Is l I)(J:I.length<=4611686018427387904)(pre:Pre g (.mk 5 nm ot m ty re l) n)(O:Ctx g es):
  FL 120 [.sv a 4 es c,.dg 9 (In 5 nm ot m t0 t1 r0 r1 a1 I c1),.j n] ((Tm.raw (.mk 5 nm ot m ty re l) g n).getD tZero):=λN Q hQ=>by
 have hl : l.length = 3 := by have:(l.length:Int)=3:=(yn pre.ok).ar
                              omega
 obtain⟨e0,e1,e2,rfl⟩:∃ a b c,l=[a,b,c]:=by
  match l,hl with
  | [a,b,c],_=>exact⟨a,b,c,rfl⟩
 have U:(Tm.raw (.mk 5 nm ot m ty re [e0,e1,e2]) g n).getD tZero=if rk (tyZ e0 g n) tBool&&rk (tyZ e1 g n) (tyZ e2 g n)then tyZ e1 g n else tZero:=by rw[<-zB4 (s:=nm)];simp only[Tm.raw];rfl
 rw[U]at hQ;have hn:zK 5 n=n:=by simp[zK]
 refine zZ N a es c _ n Q λ_ _=>⟨_,rfl,?_⟩
 repeat' first|with_reducible intro _|simp only[Y1]|with_reducible refine X ?_ ?_|refine⟨_,_,_,rfl,?_⟩|refine⟨_,rfl,?_⟩|refine X0 ?_|refine(Gq hn Y h0 J pre O 1 rfl _ _ _) _ _ ?_|refine(Gq hn Y h0 J pre O 2 rfl _ _ _) _ _ ?_|refine(Gq hn Y h0 J pre O 0 rfl _ _ _) _ _ ?_|refine GB _ _ ?_|refine(ze (tyZ e0 g n) tBool _ _ aE aE) _ _ ?_|refine(ze (tyZ e1 g n) (tyZ e2 g n) _ _ aE aE) _ _ ?_|(((with_reducible refine And.intro ?_ ?_);· exact xk aE aE))|fail
 all_goals first | (exfalso;omega) | skip
 all_goals first
  | exact hQ _ _ aA (by rw[if_pos (by simp[*])];assumption) (Own.mono aE aA aA)
  | exact hQ _ _ aA (by rw[if_neg (by simp[*])];exact xG) yo
def R6 (z0 I:Ty):Ty:=if z0.k=3/\rk (z0.as.getD 0 tZero) I then z0.as.getD 1 tZero else tZero
theorem f7 {O}(ih:IHi l)(hh:Tm.Hd nm ot ty re t0 t1 r0 r1)(h0:All2 Tm.Is l O)(U:O.length<=4611686018427387904)(pre:Pre g (.mk 7 nm ot m ty re l) n)(Y:Ctx g es):
  FL 120 [.sv a 4 es c,.dg 9 (In 7 nm ot m t0 t1 r0 r1 a1 O c1),.j n] ((Tm.raw (.mk 7 nm ot m ty re l) g n).getD tZero):=λN Q hQ=>by
 have hl : l.length = 2 := by have:(l.length:Int)=2:=(yn pre.ok).ar
                              omega
 obtain⟨e0,e1,rfl⟩:=Qf hl;have aa:(Tm.raw (.mk 7 nm ot m ty re [e0,e1]) g n).getD tZero=R6 (tyZ e0 g n) (tyZ e1 g n):=by unfold R6;rw[<-zBC (s:=nm)];simp only[Tm.raw];rfl
 rw[aa]at hQ;have hn:zK 7 n=n:=by simp[zK]
 refine zZ N a es c _ n Q λ_ _=>⟨_,rfl,?_⟩
 repeat' first|with_reducible intro _|simp only[Y1]|with_reducible refine X ?_ ?_|refine⟨_,_,_,rfl,?_⟩|refine⟨_,rfl,?_⟩|refine X0 ?_|refine(Gq hn ih h0 U pre Y 0 rfl _ _ _) _ _ ?_|refine(Gq hn ih h0 U pre Y 1 rfl _ _ _) _ _ ?_|(((with_reducible refine And.intro ?_ ?_);· exact xk aE aE))|fail
 all_goals first | (exfalso;omega) | skip
 rename_i ac al _ _ _ _ _ _ _ _ _ _ _ _ _ _ ae ao _ _;have I:=rh e0 g n;generalize tyZ e0 g n=z0 at *;cases z0 with
 | mk k0 l0=>
 obtain⟨a2,aq,c2,rfl,au,ah⟩:=Ty.is_mk.1 ac;by_cases J:k0=3
 ·subst J;have I:(Ty.mk 3 l0).valid=true:=by
   rcases I with⟨_,I⟩ | ⟨_,I⟩
   ·cases I
   ·exact I
  have ai:=Ty.valid_cnt I;rcases Ty.valid_k I with⟨J,_⟩ | ⟨J,_⟩ | ⟨_,u,v,ab⟩ | ⟨J,_⟩
  ·cases J
  ·cases J
  ·simp only[Ty.as]at ab;subst ab;obtain⟨x0,_,rfl,aj,x1,_,rfl,ak,rfl⟩:=ah;simp only[Ty.cnt,zI]at ai;have q1:rk u (tyZ e1 g n)=true->R6 (.mk 3 [u,v]) (tyZ e1 g n)=v:=λh=>if_pos ⟨rfl,h⟩;have q2:rk u (tyZ e1 g n)=false->R6 (.mk 3 [u,v]) (tyZ e1 g n)=tZero:=λh=>if_neg λhc=>by rw[show(Ty.mk 3 [u,v]).as.getD 0 tZero=u from rfl,h]at hc;cases hc.2
   repeat' first|with_reducible intro _|simp only[oJ,oN,Y1]|with_reducible refine X ?_ ?_|refine⟨_,_,_,rfl,?_⟩|refine⟨_,rfl,?_⟩|refine X0 ?_|refine(ze u (tyZ e1 g n) _ _ aj ae) _ _ ?_|refine(Kh v _ ak aA) _ _ ?_|fail
   all_goals first | (exfalso;omega) | skip
   all_goals first
    | exact hQ _ _ aA (by rw[q1 aE];assumption) (Own.mono aE aA aA)
    | exact hQ _ _ aA (by rw[q2 aE];exact xG) yo
  ·cases J
 ·repeat' first|with_reducible intro _|simp only[Y1]|with_reducible refine X ?_ ?_|refine⟨_,_,_,rfl,?_⟩|refine⟨_,rfl,?_⟩|refine X0 ?_|fail
  all_goals first | (exfalso;omega) | skip
  exact hQ _ _ aA (by rw[show R6 (.mk k0 l0) (tyZ e1 g n)=tZero from if_neg λh=>J h.1];exact xG) yo
def Vd (t z:Ty):Ty:=if z.k=0 then tZero else wP t z
theorem f6 (ih:IHi l)(hh:Tm.Hd nm ot ty re t0 t1 r0 r1)(h0:All2 Tm.Is l I)(ae:I.length<=4611686018427387904)(pre:Pre g (.mk 6 nm ot m ty re l) n)(aa:Ctx g es):
  FL 120 [.sv a 4 es c,.dg 9 (In 6 nm ot m t0 t1 r0 r1 a1 I c1),.j n] ((Tm.raw (.mk 6 nm ot m ty re l) g n).getD tZero):=λN Q hQ=>by
 have hl : l.length = 1 := by have:(l.length:Int)=1:=(yn pre.ok).ar
                              omega
 obtain⟨e0,rfl⟩:=E3 hl;obtain⟨d0,_,rfl,h0,rfl⟩:=h0;have ac:=pre.len1;have ah:1<=(Tm.mk 6 nm ot m ty re [e0]).cnt:=by simp only[Tm.cnt];omega
 have hv:=Ty.valid_cnt ((yn pre.ok).vt (.inl rfl));have hp:=pre.sub (x:=e0) aB (g':=g++[⟨nm,ty,n⟩]) aB (AI pre.ty (show ty.cnt<=64 by omega));rw[show zK 6 n=n by simp[zK]]at hp;have hc:=PM e0 (g++[⟨nm,ty,n⟩]) n;have hz:=rh e0 (g++[⟨nm,ty,n⟩]) n;have J:(Tm.raw (.mk 6 nm ot m ty re [e0]) g n).getD tZero=Vd ty (tyZ e0 (g++[⟨nm,ty,n⟩]) n):=by
  have:Tm.raw (.mk 6 nm ot m ty re [e0]) g n=(match e0.type (g++[⟨nm,ty,n⟩]) n with | some b=>some (wP ty b) | none=>none):=by simp only[Tm.raw,tU];rfl
  rw[this];unfold Vd;rcases hz with⟨h1,h2⟩ | ⟨h1,h2⟩
  ·rw[h1,h2];rfl
  ·rw[h1,if_neg (Ty.valid_nz h2)];rfl
 rw[J]at hQ;have O:Ctx [⟨nm,ty,n⟩] [.ag [.t nm,t0,t1,.j n]]:=⟨aB,_,_,rfl,⟨_,_,rfl,hh.nm,hh.ty⟩,rfl⟩
 refine zZ N a es c _ n Q λ_ _=>⟨_,rfl,?_⟩
 repeat' first|with_reducible intro _|simp only[oJ,oN,Y1]|with_reducible refine X ?_ ?_|refine⟨_,_,_,rfl,?_⟩|refine⟨_,rfl,?_⟩|refine X0 ?_|refine(Sb aa O aF _ _ _ _) _ _ ?_|refine(ih e0 nW d0 h0 (g++[⟨nm,ty,n⟩]) _ _ _ n hp aE) _ _ ?_|(((with_reducible refine And.intro ?_ ?_);· exact K8 aE aE aE aE))|fail
 all_goals first | (exfalso;omega) | skip
 rename_i U ai _ _;generalize tyZ e0 (g++[⟨nm,ty,n⟩]) n=z0 at *;cases z0 with
 | mk Y l0=>
 have ab:=U;obtain⟨a2,aj,c2,rfl,ak,al⟩:=Ty.is_mk.1 U
 repeat' first|with_reducible intro _|simp only[Y1]|with_reducible refine X ?_ ?_|refine⟨_,_,_,rfl,?_⟩|refine⟨_,rfl,?_⟩|refine X0 ?_|refine(OS ty (.mk Y l0) _ _ hh.ty ab aA aA) _ _ ?_|fail
 all_goals first
  | exact hQ _ _ aA (by rw[show Vd ty (.mk Y l0)=tZero from if_pos aE];exact xG) yo
  | exact hQ _ _ aA (by rw[show Vd ty (.mk Y l0)=wP ty (.mk Y l0)from if_neg aE];assumption) (Own.mono aE aA aA)
def Ve (e1:Tm)(g:aQ)(nm:aG)(n:Int)(z:Ty):Ty:=if z.k=0 then tZero else tyZ e1 (g++[⟨nm,z,n⟩]) n
theorem f8 {J}(ih:IHi l)(hh:Tm.Hd nm ot ty re t0 t1 r0 r1)(h0:All2 Tm.Is l J)(ae:J.length<=4611686018427387904)(pre:Pre g (.mk 8 nm ot m ty re l) n)(O:Ctx g es):
  FL 120 [.sv a 4 es c,.dg 9 (In 8 nm ot m t0 t1 r0 r1 a1 J c1),.j n] ((Tm.raw (.mk 8 nm ot m ty re l) g n).getD tZero):=λN Q U=>by
 have hl : l.length = 2 := by have:(l.length:Int)=2:=(yn pre.ok).ar
                              omega
 obtain⟨e0,e1,rfl⟩:=Qf hl;have Y:=h0;obtain⟨d0,_,rfl,h0,d1,_,rfl,h1,rfl⟩:=h0;have aj:=pre.len1;have ak:1<=(Tm.mk 8 nm ot m ty re [e0,e1]).cnt:=by simp only[Tm.cnt];omega
 have hz:=rh e0 g n;have hc:=PM e0 g n;have aa:(Tm.raw (.mk 8 nm ot m ty re [e0,e1]) g n).getD tZero=Ve e1 g nm n (tyZ e0 g n):=by
  have:Tm.raw (.mk 8 nm ot m ty re [e0,e1]) g n=(match e0.type g n with | some b=>e1.type (g++[⟨nm,b,n⟩]) n | none=>none):=by simp only[Tm.raw,tU];rfl
  rw[this];unfold Ve;rcases hz with⟨h1,h2⟩ | ⟨h1,h2⟩
  ·rw[h1,h2];rfl
  ·rw[h1,if_neg (Ty.valid_nz h2)];rfl
 rw[aa]at U;have hn:zK 8 n=n:=by simp[zK]
 refine zZ N a es c _ n Q λ_ _=>⟨_,rfl,?_⟩
 repeat' first|with_reducible intro _|simp only[oJ,oN,Y1]|with_reducible refine X ?_ ?_|refine⟨_,_,_,rfl,?_⟩|refine⟨_,rfl,?_⟩|refine X0 ?_|refine(Gq hn ih Y ae pre O 0 rfl _ _ _) _ _ ?_|(((with_reducible refine And.intro ?_ ?_);· exact xk aE aE))|fail
 all_goals first | (exfalso;omega) | skip
 rename_i ab al _ _;generalize tyZ e0 g n=z0 at *;cases z0 with
 | mk I l0=>
 have ah:=ab;obtain⟨a2,ai,c2,rfl,ao,aq⟩:=Ty.is_mk.1 ab;by_cases hk:I=0
 ·have q:Ve e1 g nm n (.mk I l0)=tZero:=if_pos hk;rw[q]at U
  repeat' first|with_reducible intro _|simp only[Y1]|with_reducible refine X ?_ ?_|refine⟨_,_,_,rfl,?_⟩|refine⟨_,rfl,?_⟩|refine X0 ?_|fail
  all_goals first | (exfalso;omega) | exact U _ _ aA xG yo
 ·have q:Ve e1 g nm n (.mk I l0)=tyZ e1 (g++[⟨nm,.mk I l0,n⟩]) n:=if_neg hk;rw[q]at U;have hp:=pre.sub (x:=e1) aB (g':=g++[⟨nm,.mk I l0,n⟩]) aB (AI pre.ty (oR hc aA));rw[hn]at hp;have ac:Ctx [⟨nm,.mk I l0,n⟩] [.ag [.t nm,.j I,.sl a2 2 ai c2,.j n]]:=⟨aB,_,_,rfl,⟨_,_,rfl,hh.nm,ah⟩,rfl⟩
  repeat' first|with_reducible intro _|simp only[oJ,oN,Y1]|with_reducible refine X ?_ ?_|refine⟨_,_,_,rfl,?_⟩|refine⟨_,rfl,?_⟩|refine X0 ?_|refine(Sb O ac aF _ _ _ _) _ _ ?_|refine(ih e1 aB d1 h1 (g++[⟨nm,.mk I l0,n⟩]) _ _ _ n hp aE) _ _ ?_|(((with_reducible refine And.intro ?_ ?_);· exact K8 aE aE aE aE))|fail
  all_goals first | (exfalso;omega) | skip
  exact U _ _ aA aE (Own.mono aE aA aA)
theorem zB3 (I:Tm.Hd nm ot ty re t0 t1 r0 r1)(J:(wP ty re).Is x) n:
  Ctx [⟨nm,wP ty re,n⟩,⟨ot,ty,n⟩] [.ag [.t nm,D.cell x 0,D.cell x 1,.j n],.ag [.t ot,t0,t1,.j n]]:=
 ⟨aB,_,_,rfl,⟨_,_,rfl,I.nm,Ty.is_cells J⟩,_,_,rfl,⟨_,_,rfl,I.ot,I.ty⟩,rfl⟩
theorem f9 (ih:IHi l)(U:Tm.Hd nm ot ty re t0 t1 r0 r1)(Y:All2 Tm.Is l I)(ae:I.length<=4611686018427387904)(pre:Pre g (.mk 9 nm ot m ty re l) n)(aa:Ctx g es):
  FL 120 [.sv a 4 es c,.dg 9 (In 9 nm ot m t0 t1 r0 r1 a1 I c1),.j n] ((Tm.raw (.mk 9 nm ot m ty re l) g n).getD tZero):=λN Q hQ=>by
 have hl : l.length = 1 := by have:(l.length:Int)=1:=(yn pre.ok).ar
                              omega
 obtain⟨e0,rfl⟩:=E3 hl;obtain⟨d0,_,rfl,Y,rfl⟩:=Y;have ac:=pre.len1;have ah:1<=(Tm.mk 9 nm ot m ty re [e0]).cnt:=by simp only[Tm.cnt];omega
 have hv:=Ty.valid_cnt ((yn pre.ok).vt (.inr rfl));have J:=(yn pre.ok).vr rfl;have hr:=Ty.valid_cnt J;have ab:=AI (x:=⟨nm,wP ty re,n⟩) pre.ty (show(wP ty re).cnt<=64 by simp only[wP,Ty.cnt,zI];omega);have hp:=pre.sub (x:=e0) aB (g':=(g++[⟨nm,wP ty re,n⟩])++[⟨ot,ty,n⟩]) aB (AI ab (show ty.cnt<=64 by omega));rw[show zK 9 n=n by simp[zK],oP,lS]at hp;have hz:=rh e0 (g++[⟨nm,wP ty re,n⟩,⟨ot,ty,n⟩]) n;have O:(Tm.raw (.mk 9 nm ot m ty re [e0]) g n).getD tZero=if rk (tyZ e0 (g++[⟨nm,wP ty re,n⟩,⟨ot,ty,n⟩]) n) re then wP ty re else tZero:=by
  have:Tm.raw (.mk 9 nm ot m ty re [e0]) g n=(match e0.type ((g++[⟨nm,wP ty re,n⟩])++[⟨ot,ty,n⟩]) n with | some b=>if rk b re then some (wP ty re)else none | none=>none):=by simp only[Tm.raw,tU];rfl
  rw[this,oP,lS];rcases hz with⟨h1,h2⟩ | ⟨h1,h2⟩
  ·rw[h1,h2,(Sy J).2];rfl
  ·rw[h1];dsimp only;split<;>rfl
 rw[O]at hQ;refine zZ N a es c _ n Q λ_ _=>⟨_,rfl,?_⟩
 repeat' first|with_reducible intro _|simp only[oJ,oN,Y1]|with_reducible refine X ?_ ?_|refine⟨_,_,_,rfl,?_⟩|refine⟨_,rfl,?_⟩|refine X0 ?_|refine(OS ty re _ _ U.ty U.re aA aA) _ _ ?_|refine(Sb aa (h:=[⟨nm,wP ty re,n⟩,⟨ot,ty,n⟩]) (zB3 U aE n) aF _ _ _ _) _ _ ?_|refine(ih e0 nW d0 Y (g++[⟨nm,wP ty re,n⟩,⟨ot,ty,n⟩]) _ _ _ n hp aE) _ _ ?_|refine(ze (tyZ e0 (g++[⟨nm,wP ty re,n⟩,⟨ot,ty,n⟩]) n) re _ _ aE U.re) _ _ ?_|(((with_reducible refine And.intro ?_ ?_);· exact K8 aE aE aE aE))|fail
 all_goals first | (exfalso;omega) | skip
 all_goals first
  | exact hQ _ _ aA (by rw[if_pos aE];assumption) (Own.mono aE aA aA)
  | exact hQ _ _ aA (by rw[if_neg (by simp[*])];exact xG) yo
def stZ (k:Int)(z:Ty):Ty:=if k=10 then(if z.k=0 then tZero else xW z)else if k=13 then(if z.base then xW z else tZero)else Ev z
theorem zAW:((match e0.type g n with | some t=>xV k t | none=>none):Option Ty).getD tZero=stZ k (tyZ e0 g n):=by
 rcases rh e0 g n with⟨I,J⟩ | ⟨I,J⟩
 ·rw[I,J];have:stZ k tZero=tZero:=by
   unfold stZ;split
   ·rfl
   ·split<;>rfl
  exact this.symm
 ·rw[I];dsimp only
  have:=Ty.valid_nz J
  unfold stZ xV Ev;rw[if_neg this]
  (repeat' split)<;>rfl
theorem fS {aa}(hk:k=10\/k=11\/k=12\/k=13)(ih:IHi l)(hh:Tm.Hd nm ot ty re t0 t1 r0 r1)(h0:All2 Tm.Is l aa)(ao:aa.length<=4611686018427387904)(pre:Pre g (.mk k nm ot m ty re l) n)(Y:Ctx g es):
  FL 185 [.sv a 4 es c,.dg 9 (In k nm ot m t0 t1 r0 r1 a1 aa c1),.j n] ((Tm.raw (.mk k nm ot m ty re l) g n).getD tZero):=λN Q O=>by
 have hl:l.length=1:=by
  have ai:=(yn pre.ok).ar;have:(l.length:Int)=1:=by rw[ai];rcases hk with rfl | rfl | rfl | rfl<;>rfl
  omega
 obtain⟨e0,rfl⟩:=E3 hl;obtain⟨d0,_,rfl,h0,rfl⟩:=h0;have al:=pre.len1;have aq:=pre.lv;have ab:=Ao g n g 0;have aj:∀ x∈g,x.ty.cnt<=1073741824:=λx hx=>oR (pre.ty x hx) aA;have ac:(Tm.raw (.mk k nm ot m ty re [e0]) g n).getD tZero=stZ k (tyZ e0 (if k=12 then tn g n else g) (zK k n)):=by rw[<-zAW];simp only[Tm.raw,tU];rw[if_neg aA,if_neg aA,if_neg aA,if_neg aA,if_neg aA,if_neg aA,if_pos hk];rfl
 rw[ac]at O;have hp:=pre.sub (x:=e0) aB (g':=if k=12 then tn g n else g) (by split<;>simp[tn];omega) (by split;exact λy hy=>pre.ty y (ab.1 y hy);exact pre.ty);have U:∀ es a c,Ctx (if k=12 then tn g n else g) es->FL 58 [.sv a 4 es c,.dg 9 d0,.j (zK k n)] (tyZ e0 (if k=12 then tn g n else g) (zK k n)):=λes a c hc=>ih e0 nW d0 h0 _ es a c _ hp hc;have hz:=rh e0 (if k=12 then tn g n else g) (zK k n);have au:=PM e0 (if k=12 then tn g n else g) (zK k n);generalize tyZ e0 (if k=12 then tn g n else g) (zK k n)=z0 at *;have ae:z0.valid=true\/z0=tZero:=hz.elim (λh=>.inr h.2) λh=>.inl h.2;refine Fj N a es c _ n Q λ_ _=>⟨_,rfl,?_⟩
 rw[i64_in (n+1) aA,i64_in (n - 1) aA];cases z0 with
 | mk J l0=>
 rcases hk with rfl | rfl | rfl | rfl
 ·have I:=U es a c Y;rw[show zK 10 n=n+1 by simp[zK]]at I
  repeat' first|with_reducible intro _|simp only[oJ,oN,Y1]|with_reducible refine X ?_ ?_|refine⟨_,_,_,rfl,?_⟩|refine⟨_,rfl,?_⟩|refine X0 ?_|refine I _ _ ?_|fail
  all_goals first | (exfalso;omega) | skip
  rename_i ah aw _ _;have ak:=ah;obtain⟨a2,ax,c2,rfl,ay,az⟩:=Ty.is_mk.1 ah;have q:stZ 10 (.mk J l0)=if J=0 then tZero else xW (.mk J l0):=rfl
  rw[q]at O
  repeat' first|with_reducible intro _|simp only[Y1]|with_reducible refine X ?_ ?_|refine⟨_,_,_,rfl,?_⟩|refine⟨_,rfl,?_⟩|refine X0 ?_|refine(Kn (.mk J l0) _ ak aA) _ _ ?_|fail
  all_goals first
   | exact O _ _ aA (by rw[if_neg aE];assumption) (Own.mono aE aA aA)
   | exact O _ _ aA (by rw[if_pos aE];exact xG) yo
 ·have I:=U es a c Y;rw[show zK 11 n=n - 1 by simp[zK]]at I;have q:stZ 11 (.mk J l0)=Ev (.mk J l0):=rfl;rw[q]at O
  repeat' first|with_reducible intro _|simp only[oJ,oN,Y1]|with_reducible refine X ?_ ?_|refine⟨_,_,_,rfl,?_⟩|refine⟨_,rfl,?_⟩|refine X0 ?_|refine I _ _ ?_|refine(Ph (.mk J l0) _ aE ae) _ _ ?_|fail
  all_goals first | (exfalso;omega) | skip
  exact O _ _ aA aE (Own.mono aE aA aA)
 ·rw[if_pos rfl,show zK 12 n=n by simp[zK]]at U;have q:stZ 12 (.mk J l0)=Ev (.mk J l0):=rfl;rw[q]at O
  repeat' first|with_reducible intro _|simp only[oJ,oN,Y1]|with_reducible refine X ?_ ?_|refine⟨_,_,_,rfl,?_⟩|refine⟨_,rfl,?_⟩|refine X0 ?_|refine(SO Y aA aj _ _ n) _ _ ?_|refine(U _ _ _ aE) _ _ ?_|refine(Ph (.mk J l0) _ aE ae) _ _ ?_|fail
  all_goals first | (exfalso;omega) | skip
  exact O _ _ aA aE (Own.mono aE aA aA)
 ·have I:=U es a c Y;rw[show zK 13 n=n by simp[zK]]at I;have q:stZ 13 (.mk J l0)=if(Ty.mk J l0).base then xW (.mk J l0)else tZero:=rfl
  rw[q]at O
  repeat' first|with_reducible intro _|simp only[oJ,oN,Y1]|with_reducible refine X ?_ ?_|refine⟨_,_,_,rfl,?_⟩|refine⟨_,rfl,?_⟩|refine X0 ?_|refine I _ _ ?_|refine(CT (.mk J l0) _ aE) _ _ ?_|refine(Kn (.mk J l0) _ aE aA) _ _ ?_|fail
  all_goals first | (exfalso;omega) | skip
  all_goals first
   | exact O _ _ aA (by rw[if_pos aE];assumption) (Own.mono aE aA aA)
   | exact O _ _ aA (by rw[if_neg (by simp[*])];exact xG) yo
theorem f4 (ih:IHi l)(hh:Tm.Hd nm ot ty re t0 t1 r0 r1)(h0:All2 Tm.Is l I)(U:I.length<=4611686018427387904)(pre:Pre g (.mk 4 nm ot m ty re l) n)(ac:Ctx g es):
  FL 120 [.sv a 4 es c,.dg 9 (In 4 nm ot m t0 t1 r0 r1 a1 I c1),.j n] ((Tm.raw (.mk 4 nm ot m ty re l) g n).getD tZero):=λN Q hQ=>by
 have al:=pre.len1;have aq:=h0.len;have au:=(yn pre.ok).ar;have ao:=tT 4 nm;have ae:0<rj nm:=by
  have:=(yn pre.ok).f
  simp only[zH,zx,oL]at this
  have:=this.2.2.2.2.2
  simp at this;exact this.1
 have Y:(Tm.raw (.mk 4 nm ot m ty re l) g n).getD tZero=if Dn (Bh nm) (l.map λe=>tyZ e g n)then E4 nm else tZero:=by rw[<-zB5 ae];simp only[Tm.raw];rfl
 rw[Y]at hQ;have hn:zK 4 n=n:=by simp[zK]
 have key:yv Q N 0 0 I.length (0:Nat) (In 4 nm ot m t0 t1 r0 r1 a1 I c1) 0 none [] 0 a es c n [] 0 N:=by
  refine up h0 U (λi xs=>∀(r:aM) (q p:Nat) (N':Nat) (ts:aR),N<=N'->p=r.length->All2 Ty.Is ts r->ts.length=i->(∀ b∈zC r,N<=b)->ts++(xs.map λe=>tyZ e g n)=(l.map λe=>tyZ e g n) ->
   yv Q N p q I.length i (In 4 nm ot m t0 t1 r0 r1 a1 I c1) 0 none [] 0 a es c n r q N') ?_ ?_ [] 0 0 N [] (oC _) rfl rfl rfl (by simp[zC]) rfl
  ·intro i ah hi r q p N' ts ai hp hr aa ab J;have aj:=hr.len;simp only[lC,o8]at J;rw[<-J]at hQ;refine sT ?_
   repeat' first|with_reducible intro _|simp only[ah,Y1]|with_reducible refine X ?_ ?_|refine⟨_,_,_,rfl,?_⟩|refine⟨_,rfl,?_⟩|refine X0 ?_|refine(U9 hr aA _ _ nm) _ _ ?_|(((with_reducible refine And.intro ?_ ?_);· exact xk aE aE))|fail
   exact hQ _ _ aA aE (Own.mono aE aA aA)
  ·intro i x xs O _ ak r q p N' ts ai hp hr aa ab J;have hb:=O.b;have aj:=hr.len;refine sT ?_
   repeat' first|with_reducible intro _|simp only[O.lt,O.w,oI,Y1]|with_reducible refine X ?_ ?_|refine⟨_,_,_,rfl,?_⟩|refine⟨_,rfl,?_⟩|refine X0 ?_|refine(Gq hn ih h0 U pre ac i O.g _ _ _) _ _ ?_|(((with_reducible refine And.intro ?_ ?_);· exact xk aE aE))|fail
   all_goals first | (exfalso;omega) | skip
   rename_i hd ho _ _;refine⟨by unfold zB;simp only[oG,mE];omega,λc2=>ak _ _ _ _ (ts++[tyZ x g n]) aA rfl (hr.snoc hd) (by simp[aa]) (λb hb=>?_) (by simpa using J)⟩;rw[zF]at hb;rcases oM.1 hb with hb | hb
   ·exact ab b hb
   ·simp only[zC,o8]at hb
    have:=ho.lo b hb
    omega
 refine zZ N a es c _ n Q λ_ _=>⟨_,rfl,?_⟩
 repeat' first|with_reducible intro _|simp only[Y1]|with_reducible refine X ?_ ?_|refine⟨_,_,_,rfl,?_⟩|refine⟨_,rfl,?_⟩|refine X0 ?_|fail
 all_goals first | (exfalso;omega) | exact key
theorem f1 {U}(pre:Pre g (.mk 1 nm ot m ty re l) n)(I:Ctx g es):
  FL 120 [.sv a 4 es c,.dg 9 (In 1 nm ot m t0 t1 r0 r1 a1 U c1),.j n] ((Tm.raw (.mk 1 nm ot m ty re l) g n).getD tZero):=λN Q J=>by
 have aa:=I.all.len;have O:Tm.raw (.mk 1 nm ot m ty re l) g n=EV g nm n:=by simp[Tm.raw]
 rw[O]at J;refine zZ N a es c _ n Q λ_ _=>⟨_,rfl,?_⟩
 rcases HK g nm g.length with hlx | hlx
 ·have hlx:ym g nm = -1:=hlx;have:EV g nm n=none:=by simp[EV,hlx]
  rw[this]at J
  repeat' first|with_reducible intro _|simp only[hlx,Y1]|with_reducible refine X ?_ ?_|refine⟨_,_,_,rfl,?_⟩|refine⟨_,rfl,?_⟩|refine X0 ?_|refine(Dt I a c nm) _ _ ?_|fail
  all_goals first | (exfalso;omega) | skip
  exact J _ _ aA xG yo
 ·have hlx:0<=ym g nm/\ym g nm<g.length:=hlx;have hg:g[(ym g nm).toNat]?=some g[(ym g nm).toNat]:=oH aA;have hx:=I.all.get hg;have Y:g.getD (ym g nm).toNat tg0=g[(ym g nm).toNat]:=K1 hg;obtain⟨u0,u1,hd,hs,ht⟩:=hx;have hm:g[(ym g nm).toNat]∈g:=mN _;have ab:=pre.ty _ hm;have:EV g nm n=if g[(ym g nm).toNat].lv=n then some g[(ym g nm).toNat].ty else none:=by rw[EV,if_neg aA,Y]
  rw[this]at J;generalize g[(ym g nm).toNat]=x at *
  repeat' first|with_reducible intro _|simp only[hd,Y1]|with_reducible refine X ?_ ?_|refine⟨_,_,_,rfl,?_⟩|refine⟨_,rfl,?_⟩|refine X0 ?_|refine(Dt I a c nm) _ _ ?_|refine(Kh _ _ ht aA) _ _ ?_|fail
  all_goals first | (exfalso;omega) | skip
  ·rw[if_pos aE]at J;exact J _ _ aA aE (Own.mono aE aA aA)
  ·rw[if_neg aE]at J;exact J _ _ aA xG yo
theorem Q6 {e}(he:e.Is d)(Y:match e with | .mk _ _ _ _ _ _ l=>IHi l) a c(pre:Pre g e n)(O:Ctx g es):
  FL 120 [.sv a 4 es c,.dg 9 d,.j n] ((e.raw g n).getD tZero):=by
 cases e with
 | mk k nm ot m ty re l=>
 dsimp only at Y;obtain⟨t0,t1,r0,r1,a1,ab,c1,rfl,hh,I,J⟩:=Tm.is_mk.1 he;have nd:=yn pre.ok;have ac:=nd.ar;have aa:=Gd (k:=k) (nm:=nm) aA;rcases aa with rfl | rfl | rfl | rfl | rfl | rfl | rfl | rfl | rfl | h | h | h | h
 ·exact f1 pre O
 ·intro N Q hQ;have U:Tm.raw (.mk 2 nm ot m ty re l) g n=some tInt:=by simp[Tm.raw]
  rw[U]at hQ;refine zZ N a es c _ n Q λ_ _=>⟨_,rfl,?_⟩
  repeat' first|with_reducible intro _|simp only[Y1]|with_reducible refine X ?_ ?_|refine⟨_,_,_,rfl,?_⟩|refine⟨_,rfl,?_⟩|refine X0 ?_|refine OT _ _ ?_|fail
  all_goals first | (exfalso;omega) | skip
  exact hQ _ _ aA aE (Own.mono aE aA aA)
 ·intro N Q hQ;have U:Tm.raw (.mk 3 nm ot m ty re l) g n=some tBool:=by simp[Tm.raw]
  rw[U]at hQ;refine zZ N a es c _ n Q λ_ _=>⟨_,rfl,?_⟩
  repeat' first|with_reducible intro _|simp only[Y1]|with_reducible refine X ?_ ?_|refine⟨_,_,_,rfl,?_⟩|refine⟨_,rfl,?_⟩|refine X0 ?_|refine GB _ _ ?_|fail
  all_goals first | (exfalso;omega) | skip
  exact hQ _ _ aA aE (Own.mono aE aA aA)
 ·exact f4 Y hh J I pre O
 ·exact f5 Y hh J I pre O
 ·exact f6 Y hh J I pre O
 ·exact f7 Y hh J I pre O
 ·exact f8 Y hh J I pre O
 ·exact f9 Y hh J I pre O
 all_goals
  intro N Q hQ;have hk:k=10\/k=11\/k=12\/k=13:=aA
  refine zZ N a es c _ n Q λ_ _=>⟨_,rfl,?_⟩
  repeat' first|with_reducible intro _|simp only[Y1]|with_reducible refine X ?_ ?_|refine⟨_,_,_,rfl,?_⟩|refine⟨_,rfl,?_⟩|refine X0 ?_|refine(fS hk Y hh J I pre O) _ _ ?_|fail
  all_goals first | (exfalso;omega) | skip
  exact hQ _ _ aA aE (Own.mono aE aA aA)
theorem Yv e g n:tyZ e g n=if((e.raw g n).getD tZero).valid then(e.raw g n).getD tZero else tZero:=by
 rw[tyZ,Tm.type_eq];cases e.raw g n with
 | none=>rfl
 | some t=>simp only[vld,nA];split<;>rfl
theorem Xj:∀(e:Tm),∀ d,e.Is d->∀ g es a c n,Pre g e n->Ctx g es->FL 58 [.sv a 4 es c,.dg 9 d,.j n] (tyZ e g n):=by
 refine Tm.ind λk nm ot m ty re l O d hd g es a c n pre I N Q J=>?_;have hs:=Q6 hd O a c pre I;rw[Yv]at J;have hc:((Tm.raw (.mk k nm ot m ty re l) g n).getD tZero).cnt<=64:=by
  cases h:Tm.raw (.mk k nm ot m ty re l) g n with
  | none=>simp[tZero,Ty.cnt,zI]
  | some t=>simpa using Tp pre h
 generalize (Tm.raw (.mk k nm ot m ty re l) g n).getD tZero=z at *;refine Np N a es c _ n Q λ_ _=>?_
 repeat' first|with_reducible intro _|simp only[Y1]|with_reducible refine X ?_ ?_|refine⟨_,_,_,rfl,?_⟩|refine⟨_,rfl,?_⟩|refine X0 ?_|refine hs _ _ ?_|refine(xA z _ aE aA) _ _ ?_|fail
 all_goals first
  | exact J _ _ aA (by rw[if_pos aE];assumption) (Own.mono aE aA aA)
  | exact J _ _ aA (by rw[if_neg (by simp[*])];exact xG) yo
def zBz f args(o:Option Ty):=∀(N:Nat) (Q:QT [.ag 2,.bool]),(∀ d N',N<=N'->(o.getD tZero).Is d->Own N N' d->Q d o.isSome N')->ACalls prog f [.ag 2,.bool] args N Q
theorem CV (I:Ctx g es)(hg:∀ x∈g,x.ty.cnt<=1073741824){e}(he:e.Is d)(hc:e.cnt<=1048576000 / 2) a c n:
  zBz 24 [.sv a 4 es c,.dg 9 d,.j n] (ui g e n):=λN Q J=>by
 refine LY N a es c d n Q λ_ _=>?_;cases U:Ik g with
 | false=>
   rw[ui,if_neg (by simp[U])]at J
   repeat' first|with_reducible intro _|simp only[U,Y1]|with_reducible refine X ?_ ?_|refine⟨_,_,_,rfl,?_⟩|refine⟨_,rfl,?_⟩|refine X0 ?_|refine(pD I hg a c) _ _ ?_|fail
   exact J _ _ aA xG yo
 | true=>
   cases Y:ut e n with
   | false=>
     rw[ui,if_neg (by simp[Y])]at J
     repeat' first|with_reducible intro _|simp only[U,Y,Y1]|with_reducible refine X ?_ ?_|refine⟨_,_,_,rfl,?_⟩|refine⟨_,rfl,?_⟩|refine X0 ?_|refine(pD I hg a c) _ _ ?_|refine(tW e d he aA n) _ _ ?_|fail
     exact J _ _ aA xG yo
   | true=>
     rw[ui,if_pos ⟨U,Y⟩]at J;have hz:=rh e g n
     repeat' first|with_reducible intro _|simp only[U,Y,Y1]|with_reducible refine X ?_ ?_|refine⟨_,_,_,rfl,?_⟩|refine⟨_,rfl,?_⟩|refine X0 ?_|refine(pD I hg a c) _ _ ?_|refine(tW e d he aA n) _ _ ?_|refine(Xj e d he g es a c n (zAE U Y hc) I) _ _ ?_|fail
     rename_i hd ho _ _;rcases hz with⟨h3,h4⟩ | ⟨h3,h4⟩
     ·rw[h3]at J;rw[h4]at hd;obtain⟨a2,aa,c2,rfl,ab,ac⟩:=Ty.is_mk.1 hd
      repeat' first|with_reducible intro _|simp only[Y1]|with_reducible refine X ?_ ?_|refine⟨_,_,_,rfl,?_⟩|refine⟨_,rfl,?_⟩|refine X0 ?_|fail
      exact J _ _ aA hd (Own.mono aE aA aA)
     ·rw[h3]at J;have O:=Ty.valid_nz h4;generalize tyZ e g n=z at *;cases z with
      | mk k0 l0=>
      have ae:=hd;obtain⟨a2,aa,c2,rfl,ab,ac⟩:=Ty.is_mk.1 hd
      repeat' first|with_reducible intro _|simp only[Y1]|with_reducible refine X ?_ ?_|refine⟨_,_,_,rfl,?_⟩|refine⟨_,rfl,?_⟩|refine X0 ?_|fail
      have O:(bne k0 0)=true:=by simpa [Ty.k]using O
      rw[O];exact J _ _ aA ae (Own.mono aE aA aA)
mutual
def Tm.sz:Tm->Nat
 | .mk _ _ _ _ _ _ l=>1+zQ l
def zQ:aP->Nat
 | []=>0
 | t::ts=>t.sz+zQ ts
end
mutual
theorem Tm.sz_cnt:∀ t:Tm,t.sz<=t.cnt
 | .mk _ _ _ _ ty re l=>by simp only[Tm.sz,Tm.cnt];have:=Hn l;omega
theorem Hn:∀ l:aP,zQ l<=xC l
 | []=>oC _
 | t::ts=>by simp only[zQ,xC];have:=t.sz_cnt;have:=Hn ts;omega
end
def zA0 (k:Int):Bool:=inB k 1 5||k==8
mutual
def Tm.isB:Tm->Bool
 | .mk k _ _ _ _ _ l=>zBx l&&zA0 k
def zBx:aP->Bool
 | []=>true
 | t::ts=>t.isB&&zBx ts
end
def Tm.vd (t:Tm):Bool:=decide (t.sz<=80)&&decide (t.dp<=20)&&t.ok
theorem Cb:∀(t:Tm)(d:D),t.Is d->∀ n:Int,0<=n->n<=1000->BK 85 [.dg 9 d,.j n] (if(t.sz:Int)<=n then n - t.sz else -1):=by
 refine Tm.ind λk nm ot n0 ty re l ih d hd n ae ah N Q hQ=>?_;obtain⟨t0,t1,r0,r1,a,es,c,rfl,hh,U,Y⟩:=Tm.is_mk.1 hd;refine Lu N _ n Q λ_=>?_;have key:=up Y U (λi xs=>∀(m:Int) (N':Nat),N<=N' -> -1<=m->m<=1000->(∀ N'',N'<=N''->Q (if m<0 then -1 else if(zQ xs:Int)<=m then m - zQ xs else -1) N'') ->
  vX Q N m i (.ag [.j k,.t nm,.t ot,.j n0,t0,t1,r0,r1,.sl a 9 es c]) N') ?_ ?_
 ·rw[i64_in _ aA];refine key (n - 1) N (oC _) aA aA λN' O=>Qi (hQ N' O) ?_;simp only[Tm.sz]
  (repeat' split)<;>omega
 ·intro i aa _ m N' O h1 h2 J;refine pi ?_
  repeat' first|with_reducible intro _|simp only[aa,Y1]|with_reducible refine X ?_ ?_|refine⟨_,_,_,rfl,?_⟩|refine⟨_,rfl,?_⟩|refine X0 ?_|fail
  refine Qi (J _ aE) ?_;simp only[zQ]
  (repeat' split)<;>omega
 ·intro i x xs I _ ab m N' O h1 h2 J;have hb:=I.b;refine pi ?_
  repeat' first|with_reducible intro _|simp only[I.lt,I.w,oI,Y1]|with_reducible refine X ?_ ?_|refine⟨_,_,_,rfl,?_⟩|refine⟨_,rfl,?_⟩|refine X0 ?_|refine(ih x I.m _ I.r m aA aA) _ _ ?_|fail
  ·refine ab _ _ aA (by split<;>omega) (by split<;>omega) λN'' ac=>Qi (J N'' aA) ?_;simp only[zQ]
   (repeat' split)<;>omega
  ·refine Qi (J _ aE) ?_;rw[if_pos aA];omega
theorem If:∀(t:Tm)(d:D),t.Is d->t.cnt<=1073741824->BK 86 [.dg 9 d] t.dp:=by
 refine Tm.ind λk nm ot n0 ty re l ih d hd hc N Q hQ=>?_;obtain⟨t0,t1,r0,r1,a,es,c,rfl,hh,J,U⟩:=Tm.is_mk.1 hd;refine I7 N _ Q λ_=>?_;simp only[Tm.cnt]at hc;have ab:=C9 l;have key:=up U J (λi xs=>∀(m:Nat) (N':Nat),N<=N'->max m (uh xs)=uh l->wj Q N (m:Int) i (.ag [.j k,.t nm,.t ot,.j n0,t0,t1,r0,r1,.sl a 9 es c]) N') ?_ ?_
 ·exact key 0 N (oC _) aA
 ·intro i Y _ m N' O hm;simp only[uh]at hm;refine qZ ?_
  repeat' first|with_reducible intro _|simp only[Y,Y1]|with_reducible refine X ?_ ?_|refine⟨_,_,_,rfl,?_⟩|refine⟨_,rfl,?_⟩|refine X0 ?_|fail
  rw[i64_in _ aA];refine Qi (hQ _ (oR O aE)) ?_;simp only[Tm.dp];omega
 ·intro i x xs I _ aa m N' O hm;have hb:=I.b;have ac:=t6 I.m;simp only[uh]at hm;refine qZ ?_
  repeat' first|with_reducible intro _|simp only[I.lt,I.w,oI,Y1]|with_reducible refine X ?_ ?_|refine⟨_,_,_,rfl,?_⟩|refine⟨_,rfl,?_⟩|refine X0 ?_|refine(ih x I.m _ I.r aA) _ _ ?_|refine(Eu _ _) _ _ ?_|fail
  have e:max (m:Int) (x.dp:Int)=((max m x.dp:Nat):Int):=aA
  rw[e];exact aa _ _ aA aA
theorem sP (t:Tm) d(hd:t.Is d)(hc:t.cnt<=1073741824):uE 40 [.dg 9 d] t.vd:=λN Q I=>by
 refine DR N _ Q λ_=>?_;by_cases O:t.sz<=80
 ·have J:((t.sz:Int)<=80):=aA
  repeat' first|with_reducible intro _|simp only[if_pos J,Y1]|with_reducible refine X ?_ ?_|refine⟨_,_,_,rfl,?_⟩|refine⟨_,rfl,?_⟩|refine X0 ?_|refine(Cb t d hd _ aA aA) _ _ ?_|refine(If t d hd hc) _ _ ?_|refine(CX t d hd hc) _ _ ?_|fail
  all_goals first | omega | skip
  ·have U:t.dp<=20:=aA
   refine Qb (I _ aA) ?_;simp[Tm.vd, *]
  ·have U:¬t.dp<=20:=aA
   refine Qb (I _ aA) ?_;simp[Tm.vd, *]
 ·have J:¬((t.sz:Int)<=80):=aA
  repeat' first|with_reducible intro _|simp only[if_neg J,Y1]|with_reducible refine X ?_ ?_|refine⟨_,_,_,rfl,?_⟩|refine⟨_,rfl,?_⟩|refine X0 ?_|refine(Cb t d hd _ aA aA) _ _ ?_|fail
  all_goals first | omega | skip
  refine Qb (I _ aA) ?_;simp[Tm.vd, *]
theorem xi l(hl:l.length<=4611686018427387904) a c s:BK 210 [.sv a 0 (zA l) c,.str s] (Ck (λx=>decide (x=s)) l 0):=λN Q hQ=>by
 have O:=xg l;have U:(zA l).length<=4611686018427387904:=by rw[O.len];exact hl
 refine I8 N a _ c s Q λ_=>?_;refine up O U (λi xs=>∀(N':Nat),N<=N'->(∀ N'',N'<=N''->Q (Ck (λx=>decide (x=s)) xs i) N'')->wk Q N a (zA l) c s i N') ?_ ?_ N (oC _) hQ
 ·intro i aa _ N' Y I;refine qa ?_
  repeat' first|with_reducible intro _|simp only[aa,Y1]|with_reducible refine X ?_ ?_|refine⟨_,_,_,rfl,?_⟩|refine⟨_,rfl,?_⟩|refine X0 ?_|fail
  exact I _ aA
 ·intro i x xs J _ ab N' Y I;have hb:=J.b;have hr:=J.r;simp only[Ck]at I;refine qa ?_
  repeat' first|with_reducible intro _|simp only[J.lt,J.w,oI,hr,Y1]|with_reducible refine X ?_ ?_|refine⟨_,_,_,rfl,?_⟩|refine⟨_,rfl,?_⟩|refine X0 ?_|fail
  ·rename_i h _ _;subst h;exact Qi (I _ aA) aB
  ·rename_i h;exact ab _ Y λN'' h2=>Qi (I _ h2) (by rw[if_neg (by simpa using h)];simp)
theorem uO l s:zA l++[.t s]=zA (l++[s]):=by simp[zA]
theorem zG l:(zA l).length=l.length:=by simp[zA]
theorem Kf:∀(t:Tm)(d:D),t.Is d->t.cnt<=1073741824->BK 121 [.dg 9 d] t.sz:=by
 refine Tm.ind λk nm ot n0 ty re l ih d hd hc N Q hQ=>?_;obtain⟨t0,t1,r0,r1,a,es,c,rfl,hh,J,O⟩:=Tm.is_mk.1 hd;simp only[Tm.cnt]at hc;have ab:=Hn l;refine DK N _ Q λ_=>⟨_,_,_,rfl,?_⟩
 refine up O J (λi xs=>∀(m:Nat) (N':Nat),N<=N'->m+zQ xs=1+zQ l->xu Q N m a es c es.length i N') ?_ ?_ 1 N (oC _) rfl
 ·intro i U _ m N' Y hm;refine vh ?_;simp only[zQ]at hm
  repeat' first|with_reducible intro _|simp only[U,Y1]|with_reducible refine X ?_ ?_|refine⟨_,_,_,rfl,?_⟩|refine⟨_,rfl,?_⟩|refine X0 ?_|fail
  exact Qi (hQ _ aA) (by simp only[Tm.sz];omega)
 ·intro i x xs I _ aa m N' Y hm;have hb:=I.b;have ac:=t6 I.m;simp only[zQ]at hm;refine vh ?_
  repeat' first|with_reducible intro _|simp only[I.lt,I.w,oI,Y1]|with_reducible refine X ?_ ?_|refine⟨_,_,_,rfl,?_⟩|refine⟨_,rfl,?_⟩|refine X0 ?_|refine(ih x I.m _ I.r aA) _ _ ?_|fail
  rw[i64_in _ aA];exact aa (m+x.sz) _ aA aA
theorem IZ:∀(t:Tm)(d:D),t.Is d->t.cnt<=1073741824->BK 122 [.dg 9 d] t.dp:=by
 refine Tm.ind λk nm ot n0 ty re l ih d hd hc N Q hQ=>?_;obtain⟨t0,t1,r0,r1,a,es,c,rfl,hh,J,O⟩:=Tm.is_mk.1 hd;simp only[Tm.cnt]at hc;have ab:=C9 l;refine Ix N _ Q λ_=>⟨_,_,_,rfl,?_⟩
 refine up O J (λi xs=>∀(m:Nat) (N':Nat),N<=N'->max m (uh xs)=uh l->wg Q N m a es c es.length i N') ?_ ?_ 0 N (oC _) aA
 ·intro i U _ m N' Y hm;refine qS ?_;simp only[uh]at hm
  repeat' first|with_reducible intro _|simp only[U,Y1]|with_reducible refine X ?_ ?_|refine⟨_,_,_,rfl,?_⟩|refine⟨_,rfl,?_⟩|refine X0 ?_|fail
  rw[i64_in _ aA];exact Qi (hQ _ aA) (by simp only[Tm.dp];omega)
 ·intro i x xs I _ aa m N' Y hm;have hb:=I.b;have ac:=t6 I.m;simp only[uh]at hm;refine qS ?_
  repeat' first|with_reducible intro _|simp only[I.lt,I.w,oI,Y1]|with_reducible refine X ?_ ?_|refine⟨_,_,_,rfl,?_⟩|refine⟨_,rfl,?_⟩|refine X0 ?_|refine(ih x I.m _ I.r aA) _ _ ?_|fail
  have e:(if(x.dp:Int)>(m:Int)then(x.dp:Int)else(m:Int))=((max m x.dp:Nat):Int):=by split<;>omega
  rw[e];exact aa (max m x.dp) _ aA aA
theorem sN (t:Tm) d(hd:t.Is d)(hc:t.cnt<=1073741824):uE 59 [.dg 9 d] t.vd:=λN Q I=>by
 refine DH N _ Q λ_=>?_
 repeat' first|with_reducible intro _|simp only[Y1]|with_reducible refine X ?_ ?_|refine⟨_,_,_,rfl,?_⟩|refine⟨_,rfl,?_⟩|refine X0 ?_|refine(CU t d hd hc) _ _ ?_|refine(Kf t d hd hc) _ _ ?_|refine(IZ t d hd hc) _ _ ?_|fail
 ·have J:t.sz<=80:=aA
  refine Qb (I _ aA) ?_;have:decide ((t.dp:Int)<=20)=decide (t.dp<=20):=by rw[mC,nl,nl];omega
  simp[Tm.vd, *]
 ·have J:¬t.sz<=80:=aA
  refine Qb (I _ aA) ?_;simp[Tm.vd, *]
 ·refine Qb (I _ aA) ?_;simp[Tm.vd, *]
inductive Wf:Ty->Prop
 | int:Wf tInt
 | bool:Wf tBool
 | fn {a b:Ty}:Wf a->Wf b->Wf (wP a b)
 | code {a:Ty}:Wf a->Wf (xW a)
theorem E5 {N1 N2}(I:OwnL N1 N2 es)(J:OwnL N N1 fs)(hN:N<=N1)(O:N1<=N2):OwnL N N2 (es++fs):=by
 refine⟨?_,xB I.fl J.fl,λb hb=>?_,λb hb=>?_⟩
 ·rw[zF,nV];refine⟨I.nd,J.nd,λa U b hb Y=>?_⟩
  have:=I.lo a U;have:=J.hi b hb;omega
 ·rw[zF]at hb;rcases oM.1 hb with hb | hb
  ·have:=I.lo b hb;omega
  ·exact J.lo b hb
 ·rw[zF]at hb;rcases oM.1 hb with hb | hb
  ·exact I.hi b hb
  ·have:=J.hi b hb;omega
theorem P6 (h:(zC es).Nodup)(I:∀ ad,a=some ad->ad.block∉zC es):(D.sl a z es c).foot.Nodup:=by
 cases a with
 | none=>simpa only[D.foot]using h
 | some ad=>
   simp only[D.foot];split
   ·exact mR
   ·exact mA.2 ⟨I ad rfl,h⟩
theorem QD {N0 N1 N2 N3 hd r xs l0 l1 l2 l3 ds}(h1:OwnL N0 N1 (hd++r))(J:OwnL N1 N2 (xs++es))(hf:Fresh N0 N3 a ds)(g1:N0<=N1)(g2:N1<=N2)(g3:N2<=N3)(d1:∀ ad,a=some ad->ad.block∉zC (hd++r))(d2:∀ ad,a=some ad->ad.block∉zC (xs++es)):OwnL N0 N3 (hd++(r++[.ag (.lit l0::.lit l1::.lit l2::.lit l3::(xs++[.sl a 9 es c]))])):=by
 have ah:=h1.nd;have I:=J.nd;rw[zF]at ah I;have e:zC (hd++(r++[.ag (.lit l0::.lit l1::.lit l2::.lit l3::(xs++[.sl a 9 es c]))]))=zC (hd++r)++(zC xs++(D.sl a 9 es c).foot):=by simp only[zF,zC,D.foot,oa,o8,oP]
 have aa:=h1.fl;have ab:=J.fl;have O:∀ b,b∈(D.sl a 9 es c).foot->b∈zC (xs++es)\/∃ ad,a=some ad/\b=ad.block:=λb hb=>by
  rcases uJ b hb with h | h
  ·left;rw[zF];exact nS _ h
  ·exact .inr h
 refine⟨?_,?_,λb hb=>?_,λb hb=>?_⟩
 ·rw[e,nV];refine⟨h1.nd,?_,λx hx y hy U=>?_⟩
  ·rw[nV]at I ⊢;refine⟨I.1,P6 I.2.1 λad h hc=>d2 ad h (by rw[zF];exact nS _ hc),λx hx y hy U=>?_⟩;subst U;rcases uJ x hy with h | ⟨ad,Y,h'⟩
   ·exact I.2.2 x hx x h rfl
   ·subst h';exact d2 ad Y (by rw[zF];exact o5 _ hx)
  ·subst U;have aj:=h1.hi x hx;rcases oM.1 hy with h | h
   ·have:=J.lo x (by rw[zF];exact o5 _ h);omega
   ·rcases O x h with h | ⟨ad,Y,h'⟩
    ·have:=J.lo x h;omega
    ·subst h';exact d1 ad Y hx
 ·have ac:wK xs/\wK es:=by
   have:∀(u v:aM),wK (u++v)->wK u/\wK v:=by
    intro u
    induction u with
    | nil=>intro v h;exact⟨trivial,h⟩
    | cons y u ih=>intro v h;obtain⟨g1,g2⟩:=ih v h.2;exact⟨⟨h.1,g1⟩,g2⟩
   exact this _ _ ab
  have ae:wK hd/\wK r:=by
   have:∀(u v:aM),wK (u++v)->wK u/\wK v:=by
    intro u
    induction u with
    | nil=>intro v h;exact⟨trivial,h⟩
    | cons y u ih=>intro v h;obtain⟨g1,g2⟩:=ih v h.2;exact⟨⟨h.1,g1⟩,g2⟩
   exact this _ _ aa
  refine xB ae.1 (xB ae.2 ⟨?_,trivial⟩);have ai:D.Flat0 (.sl a 9 es c):=⟨λad h=>hf.off ad h,ac.2⟩
  exact⟨trivial,trivial,trivial,trivial,xB ac.1 ⟨ai,trivial⟩⟩
 ·rw[e]at hb;rcases oM.1 hb with h | h
  ·exact h1.lo b h
  ·rcases oM.1 h with h | h
   ·have:=J.lo b (by rw[zF];exact o5 _ h);omega
   ·rcases O b h with h | ⟨ad,Y,h'⟩
    ·have:=J.lo b h;omega
    ·subst h';exact hf.lo ad Y
 ·rw[e]at hb;rcases oM.1 hb with h | h
  ·have:=h1.hi b h;omega
  ·rcases oM.1 h with h | h
   ·have:=J.hi b (by rw[zF];exact o5 _ h);omega
   ·rcases O b h with h | ⟨ad,Y,h'⟩
    ·have:=J.hi b h;omega
    ·subst h';exact hf.hi ad Y
theorem U5:∀(t:Tm) (d:D),t.Is d->t.cnt<=1073741824->∀(N:Nat) (Q:QT [.pk,.i,.str,.str,.i,.dc,.dc,.dc,.dc,.row 35 9]),
  (match t with | .mk k nm ot n ty re l=>∀ x4 x5 x6 x7 Y c' N',N<=N'->Tm.Hd nm ot ty re x4 x5 x6 x7->All2 Tm.Is l Y->OwnL N N' ([x4,x5,x6,x7]++Y)->Q k nm ot n x4 x5 x6 x7 Y c' N') ->
  ACalls prog 45 [.pk,.i,.str,.str,.i,.dc,.dc,.dc,.dc,.row 35 9] [.dg 9 d] N Q:=by
 refine Tm.ind λk nm ot n0 ty re l ih d hd hc N Q hQ=>?_;obtain⟨t0,t1,r0,r1,a,es,c,rfl,hh,ab,ac⟩:=Tm.is_mk.1 hd;have hl:=ac.len;simp only[Tm.cnt]at hc;have a7:=tz l;simp only at hQ;refine DX N _ Q λ_=>?_
 repeat' first|with_reducible intro _|simp only[Y1]|with_reducible refine X ?_ ?_|refine⟨_,_,_,rfl,?_⟩|refine⟨_,rfl,?_⟩|refine X0 ?_|refine(zL _ _ hh.ty aA) _ _ ?_|refine(zL _ _ hh.re aA) _ _ ?_|fail
 rename_i N1 ah O N2 a8 hx ai _ _ N3 aj y N4 ba hy ak _ _;have al:Tm.Hd nm ot ty re (O.cell 0) (O.cell 1) (y.cell 0) (y.cell 1):=⟨hh.nm,hh.ot,Ty.is_cells hx,Ty.is_cells hy⟩
 have ao:OwnL N N4 ([O.cell 0,O.cell 1,y.cell 0,y.cell 1]++[]):=by have h:=zg ((rV hx ai).mono ah (oC _)) ((rV hy ak).mono aj (oC _)) aA aA;exact h
 refine up ac ab (λi xs=>∀(done:aM) (q N':Nat),N4<=N'->All2 Tm.Is (l.take i) done->done.length=i->OwnL N N' ([O.cell 0,O.cell 1,y.cell 0,y.cell 1]++done) ->
  xv Q N i (.ag [.j k,.t nm,.t ot,.j n0,t0,t1,r0,r1,.sl a 9 es c]) 0 (bytes []) (bytes []) 0 0 none [] 0 0 none [] 0 none [] 0 k nm ot n0 (O.cell 0) (O.cell 1) (y.cell 0) (y.cell 1) done.length q done q N') ?_ ?_ [] 0 N4 (oC _) rfl rfl ao
 ·intro i aq hi done q N' au hd ae ho;refine vl ⟨_,_,_,rfl,?_⟩;rw[o3 aA]at hd;rw[aq];exact⟨⟨rfl,rfl⟩,λN5 aa=>hQ _ _ _ _ _ _ _ aA al hd (ho.mono (oC _) aa)⟩
 ·intro i x xs I _ aw done q N' au hd ae ho;have hb:=I.b;have ax:=t6 I.m;refine vl ⟨_,_,_,rfl,?_⟩;rw[I.lt];refine⟨_,_,_,rfl,⟨aA,aA⟩,λN5 aa=>?_⟩;rw[oI,I.w];refine ih x I.m _ I.r aA _ _ ?_;cases x with
  | mk k2 bb bc n2 bg bh l2=>
    intro x4 x5 x6 x7 bi c2 N6 bj ay U az _ _;have bm:=U.len;have a6:=tz l2;simp only[Tm.cnt]at ax;refine⟨⟨rfl,rfl⟩,λa2 N7 bp hf=>⟨⟨rfl,rfl⟩,by unfold zB;rw[oG];simp only[oJ,oN];omega,λc3=>?_⟩⟩;refine aw _ _ _ aA (by rw[vw I.g];exact hd.snoc (Tm.is_mk.2 ⟨_,_,_,_,_,_,_,rfl,ay,aA,U⟩)) (by simp[ae]) ?_;refine QD (hd:=[O.cell 0,O.cell 1,y.cell 0,y.cell 1]) (xs:=[x4,x5,x6,x7]) (ho.mono (oC _) aa) az hf aA aA aA ?_ ?_
    ·intro ad h hc;have J:=hf.ap ad h;simp only[oK,mc,D.foot,nP,false_imp_iff,implies_true,and_true]at J;simp only[oq,oa,zC,oM]at hc;obtain⟨_,_,_,_,_,g1,g2,g3,g4,g5⟩:=J;rcases hc with hc | hc | hc | hc | hc
     ·exact g1 hc
     ·exact g2 hc
     ·exact g3 hc
     ·exact g4 hc
     ·exact g5 hc
    ·intro ad h hc;have J:=hf.ap ad h;simp only[oK,mc,D.foot,nP,false_imp_iff,implies_true,and_true]at J;simp only[oq,oa,zC,oM]at hc;obtain⟨g5,g1,g2,g3,g4,_⟩:=J;rcases hc with hc | hc | hc | hc | hc
     ·exact g1 hc
     ·exact g2 hc
     ·exact g3 hc
     ·exact g4 hc
     ·exact g5 hc
theorem Tc (h:OwnL N N' es):OwnL N N' (.sl none 2 [] 0::es):=
 ⟨by simpa only[zC,D.foot,oa]using h.nd,⟨⟨aB,trivial⟩,h.fl⟩,by simpa only[zC,D.foot,oa]using h.lo,by simpa only[zC,D.foot,oa]using h.hi⟩
theorem F9 k(Y:All2 Tm.Is l es)(ao:es.length<=1073741824)(hc:∀ x∈l,x.cnt<=1073741824) a c N(Q:QT [.ag 9])(hQ:∀ d' N',N<=N'->(Tm.mk k (bytes []) (bytes []) 0 (.mk 0 []) (.mk 0 []) l).Is d'->Own N N' d'->Q d' N'):
  ACalls prog 141 [.ag 9] [.j k,.sv a 9 es c] N Q:=by
 have hl:=Y.len;refine Lv N _ a es c Q λ_=>?_;refine up Y aA (λi xs=>∀(done:aM) (q N':Nat),N<=N'->All2 Tm.Is (l.take i) done->done.length=i->OwnL N N' done ->
  vY Q N a es c i 0 (bytes []) (bytes []) 0 0 none [] 0 0 none [] 0 none [] 0 k (bytes []) (bytes []) 0 0 none [] 0 0 none [] 0 done.length q done q N') ?_ ?_ [] 0 N (oC _) rfl rfl GI
 ·intro i ab hi done q N' ac hd aa ho;refine pj ?_;rw[o3 aA]at hd;rw[ab];refine⟨⟨rfl,rfl⟩,⟨rfl,rfl⟩,⟨rfl,rfl⟩,λa1 N4 ae hf N5 U=>hQ _ _ aA (Tm.is_mk.2 ⟨_,_,_,_,_,_,_,rfl,⟨aD,aD,wB _,wB _⟩,aA,hd⟩) ?_⟩;exact BW (zW (zW (zW (zW (zW (Tc (zW (Tc (zf ((p8 ho hf ae).mono (oC _) U))))))))))
 ·intro i x xs J _ ah done q N' ac hd aa ho;have hb:=J.b;have ai:=hc x J.m;refine pj ?_;rw[J.lt];refine⟨⟨aA,aA⟩,λN5 U=>?_⟩;rw[oI,J.w];refine U5 x _ J.r aA _ _ ?_;cases x with
  | mk k2 au aw n2 ax ay l2=>
    intro x4 x5 x6 x7 aj c2 N6 az ak O al _ _;have a6:=O.len;have aq:=tz l2;simp only[Tm.cnt]at ai;refine⟨⟨rfl,rfl⟩,λa2 N7 a7 hf=>⟨⟨rfl,rfl⟩,by unfold zB;rw[oG];simp only[oJ,oN];omega,λc3=>?_⟩⟩;refine ah _ _ _ aA (by rw[vw J.g];exact hd.snoc (Tm.is_mk.2 ⟨_,_,_,_,_,_,_,rfl,ak,aA,O⟩)) (by simp[aa]) ?_;refine QD (hd:=[]) (xs:=[x4,x5,x6,x7]) (ho.mono (oC _) U) al hf aA aA aA ?_ ?_
    ·intro ad h hc;have I:=hf.ap ad h (.ag done) aB;exact I (by simpa only[D.foot,oa]using hc)
    ·intro ad h hc;have I:=hf.ap ad h;simp only[oq,oa,zC,oM]at hc;rcases hc with hc | hc | hc | hc | hc
     ·exact I x4 aB hc
     ·exact I x5 aB hc
     ·exact I x6 aB hc
     ·exact I x7 aB hc
     ·exact I (.ag aj) aB (by simpa only[D.foot]using hc)
def Tm.nod (k:Int)(l:aP):Tm:=.mk k (bytes []) (bytes []) 0 (.mk 0 []) (.mk 0 []) l
theorem CP {t}(h:t.Is d):All2 Tm.Is [t] [d]:=⟨d,[],rfl,h,rfl⟩
theorem Uk {t u e}(h:t.Is d)(g:u.Is e):All2 Tm.Is [t,u] [d,e]:=⟨d,[e],rfl,h,CP g⟩
theorem QE {v0 v1 v2 w:Value}(h:Own N N' (.ag (.lit v0::.lit v1::es))):Own N N' (.ag (.lit v0::.lit w::es)):=
 ⟨by simpa only[zC,D.foot,oa]using h.nd,h.fl,by simpa only[zC,D.foot,oa]using h.lo,by simpa only[zC,D.foot,oa]using h.hi⟩
def Tm.letN (s:aG)(t u:Tm):Tm:=.mk 8 s (bytes []) 0 (.mk 0 []) (.mk 0 []) [t,u]
theorem Xh s(hs:s.size<=4611686018427387904) t u d e(hd:t.Is d)(he:u.Is e)(hc:t.cnt<=1073741824)(J:u.cnt<=1073741824):Cop 201 9 [.str s,.dg 9 d,.dg 9 e] (Tm.letN s t u).Is:=λN Q hQ=>by
 refine Ny N s _ _ Q λ_ _=>⟨⟨rfl,rfl⟩,λa _ N1 O hb=>?_⟩
 refine F9 8 (Uk hd he) aB (by simpa using⟨hc,J⟩) a 2 N1 _ λd' N2 ab U ho _=>⟨xk hb ho,λ_ N3 Y=>?_⟩
 obtain⟨t0,t1,r0,r1,a',es,c,rfl,hh,I,aa⟩:=Tm.is_mk.1 U;exact hQ _ _ aA (Tm.is_mk.2 ⟨_,_,_,_,_,_,_,rfl,⟨hs,hh.ot,hh.ty,hh.re⟩,I,aa⟩) ((QE (v2:=.string s) ho).mono O Y)
end Go.Proofs.YtlaniepnglheoaaGreatDoor
