/- Types: the reference's functions. -/
import Derived.Test.YtfajiphkncipoaaGreatDoorA1
import Derived.Test.YtfajiphkncipoaaGreatDoorKs
set_option linter.unusedVariables false
set_option linter.unusedSimpArgs false
namespace Go.Proofs.YtfajiphkncipoaaGreatDoor
open Go Go.Proofs Go.Proofs.Tryz Go.IntWalk
def inB (n a b:Int):Bool:=decide (a<=n)&&decide (n<=b)
theorem xV (n a b:Int):ur 44 [.j n,.j a,.j b] (inB n a b):=λN Q I=>by
 refine zK0 N n a b Q ?_
 repeat' first|with_reducible intro _|simp only[Y1,Y2,Y3,Y4]|with_reducible refine X ?_ ?_|refine⟨_,_,_,rfl,?_⟩|refine⟨_,rfl,?_⟩|refine And.intro (by first|omega|trivial|(show _=_;rfl)|(with_reducible constructor)<;>first|omega|trivial|rfl) ?_|fail
 all_goals simpa [inB, *] using I _ (by omega)
theorem zCC (a b:Int):zCS 151 [.j a,.j b] (max a b):=λN Q I=>by
 refine zIl N a b Q ?_
 repeat' first|with_reducible intro _|simp only[Y1,Y2,Y3,Y4]|with_reducible refine X ?_ ?_|refine⟨_,_,_,rfl,?_⟩|refine⟨_,rfl,?_⟩|refine And.intro (by first|omega|trivial|(show _=_;rfl)|(with_reducible constructor)<;>first|omega|trivial|rfl) ?_|fail
 ·have:=I _ (by assumption)
  rwa [Int.max_eq_left (by omega)] at this
 ·have:=I _ (by assumption)
  rwa [Int.max_eq_right (by omega)] at this
mutual
def Ty.dep:Ty->Nat
 | .mk _ l=>si l+1
def si:List Ty->Nat
 | []=>0
 | t::I=>max t.dep (si I)
end
mutual
theorem Ty.dep_cnt:∀ t:Ty,t.dep<=t.cnt
 | .mk _ l=>by simp only [Ty.dep,Ty.cnt];have:=qe l;omega
theorem qe:∀ l:List Ty,si l<=zM l
 | []=>oD _
 | t::I=>by simp only [si,zM];have:=t.dep_cnt;have:=qe I;omega
end
theorem wG:∀ {l:List Ty} {t:Ty},t∈l->t.cnt<=zM l
 | u::us,t,h=>by
   simp only [zM]
   rcases oF.1 h with rfl | h
   ·omega
   ·have:=wG h;omega
def sY (k:Int) (n:Nat):Bool:=if k=1\/k=2 then (n:Int)==0 else if k=3 then (n:Int)==2 else if k=4 then (n:Int)==1 else false
mutual
def Ty.form:Ty->Bool
 | .mk k l=>wZ l&&sY k l.length
def wZ:List Ty->Bool
 | []=>true
 | t::I=>t.form&&wZ I
end
def Ty.valid (t:Ty):Bool:=decide (t.cnt<=30)&&decide (t.dep<=8)&&t.form
theorem zAJ:∀ (t:Ty) (d:D),t.Is d->∀ n:Int,0<=n->n<=1000->zCS 107 [.dg 2 d,.j n] (if (t.cnt:Int)<=n then n - t.cnt else -1):=by
 refine Ty.ind λk l ih d hd n ae ah N Q hQ=>?_
 obtain ⟨a,es,c,rfl,U,Y⟩:=Ty.is_mk.1 hd
 refine zHz N _ n Q λ_=>?_
 have key:=up Y U (λi xs=>∀ (m:Int) (N':Nat),N<=N' -> -1<=m->m<=1000->(∀ N'',N'<=N''->Q (if m<0 then -1 else if (zM xs:Int)<=m then m - zM xs else -1) N'') ->
  wc Q N m i (.ag [.j k,.sl a 2 es c]) N') ?_ ?_
 ·rw [i64_in _ (by omega)]
  refine key (n - 1) N (oD _) (by omega) (by omega) λN' O=>Qi (hQ N' O) ?_
  simp only [Ty.cnt]
  (repeat' split)<;>omega
 ·intro i aa _ m N' O h1 h2 J
  refine rm _ _ _ _ _ _ ?_
  repeat' first|with_reducible intro _|simp only[aa,Y1,Y2,Y3,Y4]|with_reducible refine X ?_ ?_|refine⟨_,_,_,rfl,?_⟩|refine⟨_,rfl,?_⟩|refine And.intro (by first|omega|trivial|(show _=_;rfl)|(with_reducible constructor)<;>first|omega|trivial|rfl) ?_|fail
  refine Qi (J _ (by assumption)) ?_
  simp only [zM]
  (repeat' split)<;>omega
 ·intro i x xs I _ ab m N' O h1 h2 J
  have hb:=I.b
  refine rm _ _ _ _ _ _ ?_
  repeat' first|with_reducible intro _|simp only[I.lt,I.w,oJ,Y1,Y2,Y3,Y4]|with_reducible refine X ?_ ?_|refine⟨_,_,_,rfl,?_⟩|refine⟨_,rfl,?_⟩|refine And.intro (by first|omega|trivial|(show _=_;rfl)|(with_reducible constructor)<;>first|omega|trivial|rfl) ?_|refine (ih x I.m _ I.r m (by omega) (by omega)) _ _ ?_|fail
  ·refine ab _ _ (by omega) (by split<;>omega) (by split<;>omega) λN'' ac=>Qi (J N'' (by omega)) ?_
   simp only [zM]
   (repeat' split)<;>omega
  ·refine Qi (J _ (by assumption)) ?_
   rw [if_pos (by omega)]
   omega
theorem u5:∀ (t:Ty) (d:D),t.Is d->t.cnt<=1073741824->zCS 108 [.dg 2 d] t.dep:=by
 refine Ty.ind λk l ih d hd hc N Q hQ=>?_
 obtain ⟨a,es,c,rfl,J,U⟩:=Ty.is_mk.1 hd
 refine zBL N _ Q λ_=>?_
 simp only [Ty.cnt] at hc
 have ab:=qe l
 have key:=up U J (λi xs=>∀ (m:Nat) (N':Nat),N<=N'->max m (si xs)=si l->yk Q N (m:Int) i (.ag [.j k,.sl a 2 es c]) N') ?_ ?_
 ·exact key 0 N (oD _) (by omega)
 ·intro i Y _ m N' O hm
  simp only [si] at hm
  refine v7 _ _ _ _ _ _ ?_
  repeat' first|with_reducible intro _|simp only[Y,Y1,Y2,Y3,Y4]|with_reducible refine X ?_ ?_|refine⟨_,_,_,rfl,?_⟩|refine⟨_,rfl,?_⟩|refine And.intro (by first|omega|trivial|(show _=_;rfl)|(with_reducible constructor)<;>first|omega|trivial|rfl) ?_|fail
  rw [i64_in _ (by omega)]
  refine Qi (hQ _ (oO O (by assumption))) ?_
  simp only [Ty.dep]
  omega
 ·intro i x xs I _ aa m N' O hm
  have hb:=I.b
  have ac:=wG I.m
  simp only [si] at hm
  refine v7 _ _ _ _ _ _ ?_
  repeat' first|with_reducible intro _|simp only[I.lt,I.w,oJ,Y1,Y2,Y3,Y4]|with_reducible refine X ?_ ?_|refine⟨_,_,_,rfl,?_⟩|refine⟨_,rfl,?_⟩|refine And.intro (by first|omega|trivial|(show _=_;rfl)|(with_reducible constructor)<;>first|omega|trivial|rfl) ?_|refine (ih x I.m _ I.r (by omega)) _ _ ?_|refine (zCC _ _) _ _ ?_|fail
  have e:max (m:Int) (x.dep:Int)=((max m x.dep:Nat):Int):=by omega
  rw [e]
  exact aa _ _ (by omega) (by omega)
theorem zAh:∀ (t:Ty) (d:D),t.Is d->ur 109 [.dg 2 d] t.form:=by
 refine Ty.ind λk l ih d hd N Q hQ=>?_
 obtain ⟨a,es,c,rfl,O,U⟩:=Ty.is_mk.1 hd
 have hl:=U.len
 refine zG7 N _ Q λ_=>?_
 have key:=up U O (λi xs=>∀ (N':Nat),N<=N'->(∀ N'',N'<=N''->Q (wZ xs&&sY k l.length) N'')->w9 Q N i (.ag [.j k,.sl a 2 es c]) N') ?_ ?_
 ·exact key N (oD _) hQ
 ·intro i Y _ N' aa J
  refine rt _ _ _ _ _ ?_
  repeat' first|with_reducible intro _|simp only[Y,Y1,Y2,Y3,Y4]|with_reducible refine X ?_ ?_|refine⟨_,_,_,rfl,?_⟩|refine⟨_,rfl,?_⟩|refine And.intro (by first|omega|trivial|(show _=_;rfl)|(with_reducible constructor)<;>first|omega|trivial|rfl) ?_|fail
  all_goals (refine Qb (J _ (by assumption)) ?_;simp [wZ,sY, *])
 ·intro i x xs I _ ab N' aa J
  have hb:=I.b
  refine rt _ _ _ _ _ ?_
  repeat' first|with_reducible intro _|simp only[I.lt,I.w,oJ,Y1,Y2,Y3,Y4]|with_reducible refine X ?_ ?_|refine⟨_,_,_,rfl,?_⟩|refine⟨_,rfl,?_⟩|refine And.intro (by first|omega|trivial|(show _=_;rfl)|(with_reducible constructor)<;>first|omega|trivial|rfl) ?_|refine (ih x I.m _ I.r) _ _ ?_|fail
  ·refine Qb (J _ (by omega)) ?_;simp [wZ, *]
  ·exact ab _ (by omega) λN'' h=>Qb (J N'' (by omega)) (by simp [wZ, *])
theorem yY (t:Ty) (d:D) (hd:t.Is d) (hc:t.cnt<=1073741824):ur 68 [.dg 2 d] t.valid:=λN Q I=>by
 refine p7 N _ Q λ_=>?_
 by_cases O:t.cnt<=30
 ·have J:((t.cnt:Int)<=30):=by omega
  repeat' first|with_reducible intro _|simp only[if_pos J,Y1,Y2,Y3,Y4]|with_reducible refine X ?_ ?_|refine⟨_,_,_,rfl,?_⟩|refine⟨_,rfl,?_⟩|refine And.intro (by first|omega|trivial|(show _=_;rfl)|(with_reducible constructor)<;>first|omega|trivial|rfl) ?_|refine (zAJ t d hd _ (by omega) (by omega)) _ _ ?_|refine (u5 t d hd hc) _ _ ?_|refine (zAh t d hd) _ _ ?_|fail
  all_goals first | omega | skip
  ·have U:t.dep<=8:=by omega
   refine Qb (I _ (by omega)) ?_;simp [Ty.valid, *]
  ·have U:¬t.dep<=8:=by omega
   refine Qb (I _ (by omega)) ?_;simp [Ty.valid, *]
 ·have J:¬((t.cnt:Int)<=30):=by omega
  repeat' first|with_reducible intro _|simp only[if_neg J,Y1,Y2,Y3,Y4]|with_reducible refine X ?_ ?_|refine⟨_,_,_,rfl,?_⟩|refine⟨_,rfl,?_⟩|refine And.intro (by first|omega|trivial|(show _=_;rfl)|(with_reducible constructor)<;>first|omega|trivial|rfl) ?_|refine (zAJ t d hd _ (by omega) (by omega)) _ _ ?_|refine (u5 t d hd hc) _ _ ?_|refine (zAh t d hd) _ _ ?_|fail
  all_goals first | omega | skip
  refine Qb (I _ (by omega)) ?_;simp [Ty.valid, *]
/-- returns this type, in memory of its own -/
def zSY (f:FuncId) (args:List PV) (t:Ty):Prop:=∀ (N:Nat) (Q:QT [.ag 2]),(∀ d' N',N<=N'->t.Is d'->Own N N' d'->Q d' N')->ACalls prog f [.ag 2] args N Q
def tInt:Ty:=.mk 1 []
def tBool:Ty:=.mk 2 []
def tZero:Ty:=.mk 0 []
def wR (a b:Ty):Ty:=.mk 3 [a,b]
def xA (a:Ty):Ty:=.mk 4 [a]
def Ty.base (t:Ty):Bool:=(t.k==1||t.k==2)&&(t.as.length:Int)==0
theorem xh (k:Int):(Ty.mk k []).Is (.ag [.j k,.sl none 2 [] 0]):=Ty.is_mk.2 ⟨_,_,_,rfl,by simp,rfl⟩
theorem zH4 {N N':Nat} {x:Value}:Own N N' (.ag [.lit x,.sl none 2 [] 0]):=⟨by simp [D.foot,zG],⟨trivial,⟨by simp,trivial⟩,trivial⟩,by simp [D.foot,zG],by simp [D.foot,zG]⟩
theorem pe:∀ l:List Ty,l.length<=zM l
 | []=>oD _
 | .mk k l::I=>by simp only [zM,Ty.cnt,oM];have:=pe I;omega
theorem zj:∀ (t u:Ty) (d e:D),t.Is d->u.Is e->ur 17 [.dg 2 d,.dg 2 e] (zBm t u):=by
 refine Ty.ind λk l ih u d e hd he N Q hQ=>?_
 cases u with
 | mk k' l'=>
 obtain ⟨a,es,c,rfl,U,Y⟩:=Ty.is_mk.1 hd
 obtain ⟨a',aa,c',rfl,ae,O⟩:=Ty.is_mk.1 he
 have hl:=Y.len
 have al:=O.len
 simp only [zBm] at hQ
 have key:l.length=l'.length->∀ (N':Nat),N<=N'->(∀ N'',N'<=N''->Q (sO l (l'.drop 0)) N'')->ye Q N (0:Nat) (.ag [.j k,.sl a 2 es c]) (.ag [.j k',.sl a' 2 aa c']) N':=by
  intro am
  refine up Y U (λi xs=>∀ (N':Nat),N<=N'->(∀ N'',N'<=N''->Q (sO xs (l'.drop i)) N'')->ye Q N i (.ag [.j k,.sl a 2 es c]) (.ag [.j k',.sl a' 2 aa c']) N') ?_ ?_
  ·intro i ah hi N' ai I
   refine uz _ _ _ _ _ _ ?_
   repeat' first|with_reducible intro _|simp only[ah,Y1,Y2,Y3,Y4]|with_reducible refine X ?_ ?_|refine⟨_,_,_,rfl,?_⟩|refine⟨_,rfl,?_⟩|refine And.intro (by first|omega|trivial|(show _=_;rfl)|(with_reducible constructor)<;>first|omega|trivial|rfl) ?_|fail
   refine Qb (I _ (by assumption)) ?_
   rw [mE (by omega)]
   rfl
  ·intro i x xs J _ aj N' ai I
   have hb:=J.b
   have ab:i<l'.length:=by omega
   have hg:l'[i]?=some l'[i]:=oG ab
   have ak:l'.drop i=l'[i]::l'.drop (i+1):=mY ab
   refine uz _ _ _ _ _ _ ?_
   rw [ak] at I
   repeat' first|with_reducible intro _|simp only[J.lt,J.w,oJ,Y1,Y2,Y3,Y4]|with_reducible refine X ?_ ?_|refine⟨_,_,_,rfl,?_⟩|refine⟨_,rfl,?_⟩|refine And.intro (by first|omega|trivial|(show _=_;rfl)|(with_reducible constructor)<;>first|omega|trivial|rfl) ?_|refine (ih x J.m _ _ _ J.r (O.get hg)) _ _ ?_|fail
   ·exact Qb (I _ (by omega)) (by simp [sO, *])
   ·exact aj _ (by omega) λN'' h=>Qb (I N'' (by omega)) (by simp [sO, *])
 refine zC7 N _ _ Q λ_ _=>?_
 repeat' first|with_reducible intro _|simp only[Y1,Y2,Y3,Y4]|with_reducible refine X ?_ ?_|refine⟨_,_,_,rfl,?_⟩|refine⟨_,rfl,?_⟩|refine And.intro (by first|omega|trivial|(show _=_;rfl)|(with_reducible constructor)<;>first|omega|trivial|rfl) ?_|fail
 ·exact Qb (hQ _ (by assumption)) (by simp [*])
 ·exact Qb (hQ _ (by assumption)) (by rw [zDX (by omega),Bool.and_false])
 ·exact key (by omega) N (oD _) λN'' ac=>Qb (hQ _ ac) (by simp [*])
theorem sa (t:Ty) (d:D) (hd:t.Is d):ur 134 [.dg 2 d] t.base:=λN Q O=>by
 cases t with
 | mk k l=>
 obtain ⟨a,es,c,rfl,J,I⟩:=Ty.is_mk.1 hd
 have U:=I.len
 refine zHV N _ Q λ_=>?_
 repeat' first|with_reducible intro _|simp only[Y1,Y2,Y3,Y4]|with_reducible refine X ?_ ?_|refine⟨_,_,_,rfl,?_⟩|refine⟨_,rfl,?_⟩|refine And.intro (by first|omega|trivial|(show _=_;rfl)|(with_reducible constructor)<;>first|omega|trivial|rfl) ?_|fail
 all_goals refine Qb (O _ (by assumption)) ?_
 all_goals simp [Ty.base,Ty.k,Ty.as,U, *]
theorem xU:zSY 92 [] tInt:=λN Q J=>zJf N Q λN' I=>J _ _ I (xh _) zH4
theorem xb:zSY 96 [] tBool:=λN Q J=>zGo N Q λN' I=>J _ _ I (xh _) zH4
theorem wV {α:Type} {l:List α} {i:Nat} {x:α} (h:l[i]?=some x):l.take (i+1)=l.take i++[x]:=by
 rw [List.take_add_one,h];rfl
theorem zK:∀ (t:Ty) (d:D),t.Is d->t.cnt<=1073741824->zSY 74 [.dg 2 d] t:=by
 refine Ty.ind λk l ih d hd hc N Q hQ=>?_
 obtain ⟨a,es,c,rfl,Y,aa⟩:=Ty.is_mk.1 hd
 have hl:=aa.len
 simp only [Ty.cnt] at hc
 have al:=pe l
 refine zHE N _ Q λ_=>⟨_,rfl,?_⟩
 have key:=up aa Y (λi xs=>∀ (N':Nat),N<=N'->(i=0->ub Q N i (.ag [.j k,.sl a 2 es c]) 0 none [] 0 k none [] 0 N')/\∀ (m q:Nat) (r:List D),m=r.length->All2 Ty.Is (l.take i) r->OwnL N N' r ->
  xR Q N i (.ag [.j k,.sl a 2 es c]) 0 none [] 0 k m q r q N') ?_ ?_
 ·exact (key N (oD _)).1 rfl
 ·intro i ab hi N' ai
  refine ⟨λh0=>rZ _ _ _ _ _ _ _ _ _ _ _ _ _ ?_,λm q r hm U ho=>u4 _ _ _ _ _ _ _ _ _ _ _ _ _ _ ?_⟩
  ·repeat' first|with_reducible intro _|simp only[ab,Y1,Y2,Y3,Y4]|with_reducible refine X ?_ ?_|refine⟨_,_,_,rfl,?_⟩|refine⟨_,rfl,?_⟩|refine And.intro (by first|omega|trivial|(show _=_;rfl)|(with_reducible constructor)<;>first|omega|trivial|rfl) ?_|fail
   have:l=[]:=oU (by omega)
   subst this
   exact hQ _ _ (by omega) (xh _) zH4
  ·repeat' first|with_reducible intro _|simp only[ab,Y1,Y2,Y3,Y4]|with_reducible refine X ?_ ?_|refine⟨_,_,_,rfl,?_⟩|refine⟨_,rfl,?_⟩|refine And.intro (by first|omega|trivial|(show _=_;rfl)|(with_reducible constructor)<;>first|omega|trivial|rfl) ?_|fail
   rename_i a' N3 J hf N4 aj
   rw [ow (by omega)] at U
   exact hQ _ _ (by omega) (Ty.is_mk.2 ⟨_,_,_,rfl,by have:=U.len;omega,U⟩) (zGP (xL (xd ((zFl ho hf (by omega)).mono (oD _) aj))))
 ·intro i x xs I _ ac N' ai
  have hb:=I.b
  have am:=wG I.m
  refine ⟨λh0=>rZ _ _ _ _ _ _ _ _ _ _ _ _ _ ?_,λm q r hm U ho=>u4 _ _ _ _ _ _ _ _ _ _ _ _ _ _ ?_⟩
  ·repeat' first|with_reducible intro _|simp only[I.lt,I.w,oJ,Y1,Y2,Y3,Y4]|with_reducible refine X ?_ ?_|refine⟨_,_,_,rfl,?_⟩|refine⟨_,rfl,?_⟩|refine And.intro (by first|omega|trivial|(show _=_;rfl)|(with_reducible constructor)<;>first|omega|trivial|rfl) ?_|refine (ih x I.m _ I.r (by omega)) _ _ ?_|fail
   rename_i N2 ae d' N3 J hx O ak ah
   subst h0
   exact ⟨by unfold zB;simp,λc2=>(ac _ (by omega)).2 _ _ _ rfl (by rw [wV I.g];exact ⟨_,_,rfl,hx,rfl⟩) (xd (O.mono (by omega) (oD _)))⟩
  ·repeat' first|with_reducible intro _|simp only[I.lt,I.w,oJ,Y1,Y2,Y3,Y4]|with_reducible refine X ?_ ?_|refine⟨_,_,_,rfl,?_⟩|refine⟨_,rfl,?_⟩|refine And.intro (by first|omega|trivial|(show _=_;rfl)|(with_reducible constructor)<;>first|omega|trivial|rfl) ?_|refine (ih x I.m _ I.r (by omega)) _ _ ?_|fail
   rename_i N2 ae d' N3 J hx O ak ah
   have ao:=U.len
   have aq:(l.take i).length=i:=by rw [nG];omega
   refine ⟨by unfold zB;simp only [oH,nX];omega,λc2=>?_⟩
   exact (ac _ (by omega)).2 _ _ _ rfl (by rw [wV I.g];exact U.snoc hx) (wK (ho.mono (oD _) ae) (xd O) (by omega) J)
theorem xT (t u:Ty) (d e:D) (hd:t.Is d) (he:u.Is e) (I:t.cnt<=1073741824) (J:u.cnt<=1073741824):zSY 94 [.dg 2 d,.dg 2 e] (wR t u):=λN Q hQ=>by
 refine zCP N _ _ Q λ_ _=>?_
 repeat' first|with_reducible intro _|simp only[Y1,Y2,Y3,Y4]|with_reducible refine X ?_ ?_|refine⟨_,_,_,rfl,?_⟩|refine⟨_,rfl,?_⟩|refine And.intro (by first|omega|trivial|(show _=_;rfl)|(with_reducible constructor)<;>first|omega|trivial|rfl) ?_|refine (zK t d hd I) _ _ ?_|refine (zK u e he J) _ _ ?_|fail
 rename_i N1 O d1 N2 ab h1 o1 ac b1 N3 U d2 N4 Y h2 o2 ae b2 a' N5 ah hf N6 aa
 exact hQ _ _ (by omega) (Ty.is_mk.2 ⟨_,_,_,rfl,by simp,_,_,rfl,h1,_,_,rfl,h2,rfl⟩)
  (zGP (xL (xd ((zFl (wK ((xd o1).mono O U) (xd o2) (by omega) Y) hf (by omega)).mono (oD _) aa))))
theorem xe (t:Ty) (d:D) (hd:t.Is d) (I:t.cnt<=1073741824):zSY 93 [.dg 2 d] (xA t):=λN Q U=>by
 refine zAG N _ Q λ_=>?_
 repeat' first|with_reducible intro _|simp only[Y1,Y2,Y3,Y4]|with_reducible refine X ?_ ?_|refine⟨_,_,_,rfl,?_⟩|refine⟨_,rfl,?_⟩|refine And.intro (by first|omega|trivial|(show _=_;rfl)|(with_reducible constructor)<;>first|omega|trivial|rfl) ?_|refine (zK t d hd I) _ _ ?_|fail
 rename_i N1 J d1 N2 Y h1 o1 aa b1 a' N5 ab hf N6 O
 exact U _ _ (by omega) (Ty.is_mk.2 ⟨_,_,_,rfl,by simp,_,_,rfl,h1,rfl⟩)
  (zGP (xL (xd ((zFl ((xd o1).mono J (oD _)) hf (by omega)).mono (oD _) O))))
theorem upN {n:Nat} (hn:n<=4611686018427387904) (P:Nat->Prop) (hend:decide ((n:Int)<(n:Int))=false->P n)
  (hstep:∀ i:Nat,i<n->decide ((i:Int)<(n:Int))=true->IntKind.i64.wrap ((i:Int)+1)=((i+1:Nat):Int)->P (i+1)->P i):P 0:=by
 have key : ∀ (m i:Nat),i+m=n->P i:=by
  intro m
  induction m with
  | zero => intro i h;have:i=n:=by omega
            subst this;exact hend (by simp)
  | succ m ih=>intro i h;exact hstep i (by omega) (mM (by omega)) (by rw [i64_in _ (by omega)];simp) (ih (i+1) (by omega))
 exact key n 0 (by omega)
abbrev zCR (s:ByteArray) (i:Nat):Int:=((s.data.getD i (OfNat.ofNat 0)).toNat:Int)
def zGO (s:ByteArray) (i:Nat):Bool:=(decide (zCR s i≥97)&&decide (zCR s i<=122))||(!(decide ((i:Int)=0))&&(!(decide (zCR s i<48))&&!(decide (zCR s i>57))))
def tJ (s:ByteArray) (i:Nat):Bool:=(List.range' i (s.size - i)).all (zGO s)
theorem zAt {s:ByteArray} {i:Nat} (h:i<s.size):tJ s i=(zGO s i&&tJ s (i+1)):=by
 unfold tJ
 rw [show s.size - i=(s.size - (i+1))+1 by omega,List.range'_succ]
 rfl
theorem zCG {s:ByteArray}:tJ s s.size=true:=by simp [tJ]
def zEs (s:ByteArray):Bool:=inB s.size 1 4&&(!(decide (s=bytes [105,102]))&&(!(decide (s=bytes [108,101,116]))&&(!(decide (s=bytes [114,101,99]))&&(!(decide (s=bytes [114,117,110]))&&!(decide (s=bytes [108,105,102,116]))))))
def yg (s:ByteArray):Bool:=tJ s 0&&zEs s
theorem sT (s:ByteArray) (hs:s.size<=4611686018427387904):ur 67 [.str s] (yg s):=λN Q Y=>by
 refine zGm N s Q ?_
 have key:=upN hs (λi=>∀ N',N<=N'->(∀ N'',N'<=N''->Q (tJ s i&&zEs s) N'')->yr Q N s i N') ?_ ?_
 ·exact key N (oD _) Y
 ·intro J N' O I
  refine ry _ _ _ _ _ ?_
  repeat' first|with_reducible intro _|simp only[J,Y1,Y2,Y3,Y4]|with_reducible refine X ?_ ?_|refine⟨_,_,_,rfl,?_⟩|refine⟨_,rfl,?_⟩|refine And.intro (by first|omega|trivial|(show _=_;rfl)|(with_reducible constructor)<;>first|omega|trivial|rfl) ?_|refine (xV _ _ _) _ _ ?_|fail
  all_goals (refine Qb (I _ (by omega)) ?_;rw [zCG])
  all_goals simp [zEs,vU, *]
 ·intro i hi J hw U N' O I
  refine ry _ _ _ _ _ ?_
  rw [zAt hi] at I
  repeat' first|with_reducible intro _|simp only[J,hw,oJ,Y1,Y2,Y3,Y4]|with_reducible refine X ?_ ?_|refine⟨_,_,_,rfl,?_⟩|refine⟨_,rfl,?_⟩|refine And.intro (by first|omega|trivial|(show _=_;rfl)|(with_reducible constructor)<;>first|omega|trivial|rfl) ?_|fail
  all_goals first
   | (refine Qb (I _ (by omega)) ?_;unfold zGO zCR;simp only [*];simp;done)
   | (refine U _ (by omega) λN'' h=>Qb (I N'' (by omega)) ?_;unfold zGO zCR;simp only [*];simp;done)
end Go.Proofs.YtfajiphkncipoaaGreatDoor
