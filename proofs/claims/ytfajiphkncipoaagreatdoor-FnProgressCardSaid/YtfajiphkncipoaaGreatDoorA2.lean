/- Types: the reference's functions. -/
import Derived.Test.YtfajiphkncipoaaGreatDoorA1
import Derived.Test.YtfajiphkncipoaaGreatDoorKs
set_option linter.unusedVariables false
set_option linter.unusedSimpArgs false
namespace Go.Proofs.YtfajiphkncipoaaGreatDoor
open Go Go.Proofs Go.Proofs.Tryz Go.IntWalk
def inB (n a b:Int):Bool:=decide (a<=n)&&decide (n<=b)
theorem xv (n a b:Int):uX 44 [.j n,.j a,.j b] (inB n a b):=λN Q I=>by
 refine zJ8 N n a b Q ?_
 repeat' first|with_reducible intro _|simp only[Y1,Y2,Y3,Y4]|with_reducible refine X ?_ ?_|refine⟨_,_,_,rfl,?_⟩|refine⟨_,rfl,?_⟩|refine And.intro (by first|omega|trivial|(show _=_;rfl)|(with_reducible constructor)<;>first|omega|trivial|rfl) ?_|fail
 all_goals simpa [inB, *] using I _ (by omega)
theorem zBd (a b:Int):zBs 151 [.j a,.j b] (max a b):=λN Q I=>by
 refine zHz N a b Q ?_
 repeat' first|with_reducible intro _|simp only[Y1,Y2,Y3,Y4]|with_reducible refine X ?_ ?_|refine⟨_,_,_,rfl,?_⟩|refine⟨_,rfl,?_⟩|refine And.intro (by first|omega|trivial|(show _=_;rfl)|(with_reducible constructor)<;>first|omega|trivial|rfl) ?_|fail
 ·have:=I _ (by assumption)
  rwa [Int.max_eq_left (by omega)] at this
 ·have:=I _ (by assumption)
  rwa [Int.max_eq_right (by omega)] at this
mutual
def Ty.dep:Ty->Nat
 | .mk _ l=>sH l+1
def sH:List Ty->Nat
 | []=>0
 | t::I=>max t.dep (sH I)
end
mutual
theorem Ty.dep_cnt:∀ t:Ty,t.dep<=t.cnt
 | .mk _ l=>by simp only [Ty.dep,Ty.cnt];have:=qF l;omega
theorem qF:∀ l:List Ty,sH l<=zK l
 | []=>oD _
 | t::I=>by simp only [sH,zK];have:=t.dep_cnt;have:=qF I;omega
end
theorem xt:∀ {l:List Ty} {t:Ty},t∈l->t.cnt<=zK l
 | u::us,t,h=>by
   simp only [zK]
   rcases oF.1 h with rfl | h
   ·omega
   ·have:=xt h;omega
def t8 (k:Int) (n:Nat):Bool:=if k=1\/k=2 then (n:Int)==0 else if k=3 then (n:Int)==2 else if k=4 then (n:Int)==1 else false
mutual
def Ty.form:Ty->Bool
 | .mk k l=>wO l&&t8 k l.length
def wO:List Ty->Bool
 | []=>true
 | t::I=>t.form&&wO I
end
def Ty.valid (t:Ty):Bool:=decide (t.cnt<=30)&&decide (t.dep<=8)&&t.form
theorem pQ:∀ (t:Ty) (d:D),t.Is d->∀ n:Int,0<=n->n<=1000->zBs 107 [.dg 2 d,.j n] (if (t.cnt:Int)<=n then n - t.cnt else -1):=by
 refine Ty.ind λk l ih d hd n ae ah N Q hQ=>?_
 obtain ⟨a,es,c,rfl,U,Y⟩:=Ty.is_mk.1 hd
 refine zHI N _ n Q λ_=>?_
 have key:=up Y U (λi xs=>∀ (m:Int) (N':Nat),N<=N' -> -1<=m->m<=1000->(∀ N'',N'<=N''->Q (if m<0 then -1 else if (zK xs:Int)<=m then m - zK xs else -1) N'') ->
  wR Q N m i (.ag [.j k,.sl a 2 es c]) N') ?_ ?_
 ·rw [i64_in _ (by omega)]
  refine key (n - 1) N (oD _) (by omega) (by omega) λN' O=>Qi (hQ N' O) ?_
  simp only [Ty.cnt]
  (repeat' split)<;>omega
 ·intro i aa _ m N' O h1 h2 J
  refine rF _ _ _ _ _ _ ?_
  repeat' first|with_reducible intro _|simp only[aa,Y1,Y2,Y3,Y4]|with_reducible refine X ?_ ?_|refine⟨_,_,_,rfl,?_⟩|refine⟨_,rfl,?_⟩|refine And.intro (by first|omega|trivial|(show _=_;rfl)|(with_reducible constructor)<;>first|omega|trivial|rfl) ?_|fail
  refine Qi (J _ (by assumption)) ?_
  simp only [zK]
  (repeat' split)<;>omega
 ·intro i x xs I _ ab m N' O h1 h2 J
  have hb:=I.b
  refine rF _ _ _ _ _ _ ?_
  repeat' first|with_reducible intro _|simp only[I.lt,I.w,oH,Y1,Y2,Y3,Y4]|with_reducible refine X ?_ ?_|refine⟨_,_,_,rfl,?_⟩|refine⟨_,rfl,?_⟩|refine And.intro (by first|omega|trivial|(show _=_;rfl)|(with_reducible constructor)<;>first|omega|trivial|rfl) ?_|refine (ih x I.m _ I.r m (by omega) (by omega)) _ _ ?_|fail
  ·refine ab _ _ (by omega) (by split<;>omega) (by split<;>omega) λN'' ac=>Qi (J N'' (by omega)) ?_
   simp only [zK]
   (repeat' split)<;>omega
  ·refine Qi (J _ (by assumption)) ?_
   rw [if_pos (by omega)]
   omega
theorem ui:∀ (t:Ty) (d:D),t.Is d->t.cnt<=1073741824->zBs 108 [.dg 2 d] t.dep:=by
 refine Ty.ind λk l ih d hd hc N Q hQ=>?_
 obtain ⟨a,es,c,rfl,J,U⟩:=Ty.is_mk.1 hd
 refine zAl N _ Q λ_=>?_
 simp only [Ty.cnt] at hc
 have ab:=qF l
 have key:=up U J (λi xs=>∀ (m:Nat) (N':Nat),N<=N'->max m (sH xs)=sH l->yd Q N (m:Int) i (.ag [.j k,.sl a 2 es c]) N') ?_ ?_
 ·exact key 0 N (oD _) (by omega)
 ·intro i Y _ m N' O hm
  simp only [sH] at hm
  refine vf _ _ _ _ _ _ ?_
  repeat' first|with_reducible intro _|simp only[Y,Y1,Y2,Y3,Y4]|with_reducible refine X ?_ ?_|refine⟨_,_,_,rfl,?_⟩|refine⟨_,rfl,?_⟩|refine And.intro (by first|omega|trivial|(show _=_;rfl)|(with_reducible constructor)<;>first|omega|trivial|rfl) ?_|fail
  rw [i64_in _ (by omega)]
  refine Qi (hQ _ (oS O (by assumption))) ?_
  simp only [Ty.dep]
  omega
 ·intro i x xs I _ aa m N' O hm
  have hb:=I.b
  have ac:=xt I.m
  simp only [sH] at hm
  refine vf _ _ _ _ _ _ ?_
  repeat' first|with_reducible intro _|simp only[I.lt,I.w,oH,Y1,Y2,Y3,Y4]|with_reducible refine X ?_ ?_|refine⟨_,_,_,rfl,?_⟩|refine⟨_,rfl,?_⟩|refine And.intro (by first|omega|trivial|(show _=_;rfl)|(with_reducible constructor)<;>first|omega|trivial|rfl) ?_|refine (ih x I.m _ I.r (by omega)) _ _ ?_|refine (zBd _ _) _ _ ?_|fail
  have e:max (m:Int) (x.dep:Int)=((max m x.dep:Nat):Int):=by omega
  rw [e]
  exact aa _ _ (by omega) (by omega)
theorem p6:∀ (t:Ty) (d:D),t.Is d->uX 109 [.dg 2 d] t.form:=by
 refine Ty.ind λk l ih d hd N Q hQ=>?_
 obtain ⟨a,es,c,rfl,O,U⟩:=Ty.is_mk.1 hd
 have hl:=U.len
 refine zGU N _ Q λ_=>?_
 have key:=up U O (λi xs=>∀ (N':Nat),N<=N'->(∀ N'',N'<=N''->Q (wO xs&&t8 k l.length) N'')->wq Q N i (.ag [.j k,.sl a 2 es c]) N') ?_ ?_
 ·exact key N (oD _) hQ
 ·intro i Y _ N' aa J
  refine rM _ _ _ _ _ ?_
  repeat' first|with_reducible intro _|simp only[Y,Y1,Y2,Y3,Y4]|with_reducible refine X ?_ ?_|refine⟨_,_,_,rfl,?_⟩|refine⟨_,rfl,?_⟩|refine And.intro (by first|omega|trivial|(show _=_;rfl)|(with_reducible constructor)<;>first|omega|trivial|rfl) ?_|fail
  all_goals (refine Qb (J _ (by assumption)) ?_;simp [wO,t8, *])
 ·intro i x xs I _ ab N' aa J
  have hb:=I.b
  refine rM _ _ _ _ _ ?_
  repeat' first|with_reducible intro _|simp only[I.lt,I.w,oH,Y1,Y2,Y3,Y4]|with_reducible refine X ?_ ?_|refine⟨_,_,_,rfl,?_⟩|refine⟨_,rfl,?_⟩|refine And.intro (by first|omega|trivial|(show _=_;rfl)|(with_reducible constructor)<;>first|omega|trivial|rfl) ?_|refine (ih x I.m _ I.r) _ _ ?_|fail
  ·refine Qb (J _ (by omega)) ?_;simp [wO, *]
  ·exact ab _ (by omega) λN'' h=>Qb (J N'' (by omega)) (by simp [wO, *])
theorem yT (t:Ty) (d:D) (hd:t.Is d) (hc:t.cnt<=1073741824):uX 68 [.dg 2 d] t.valid:=λN Q I=>by
 refine pH N _ Q λ_=>?_
 by_cases O:t.cnt<=30
 ·have J:((t.cnt:Int)<=30):=by omega
  repeat' first|with_reducible intro _|simp only[if_pos J,Y1,Y2,Y3,Y4]|with_reducible refine X ?_ ?_|refine⟨_,_,_,rfl,?_⟩|refine⟨_,rfl,?_⟩|refine And.intro (by first|omega|trivial|(show _=_;rfl)|(with_reducible constructor)<;>first|omega|trivial|rfl) ?_|refine (pQ t d hd _ (by omega) (by omega)) _ _ ?_|refine (ui t d hd hc) _ _ ?_|refine (p6 t d hd) _ _ ?_|fail
  all_goals first | omega | skip
  ·have U:t.dep<=8:=by omega
   refine Qb (I _ (by omega)) ?_;simp [Ty.valid, *]
  ·have U:¬t.dep<=8:=by omega
   refine Qb (I _ (by omega)) ?_;simp [Ty.valid, *]
 ·have J:¬((t.cnt:Int)<=30):=by omega
  repeat' first|with_reducible intro _|simp only[if_neg J,Y1,Y2,Y3,Y4]|with_reducible refine X ?_ ?_|refine⟨_,_,_,rfl,?_⟩|refine⟨_,rfl,?_⟩|refine And.intro (by first|omega|trivial|(show _=_;rfl)|(with_reducible constructor)<;>first|omega|trivial|rfl) ?_|refine (pQ t d hd _ (by omega) (by omega)) _ _ ?_|refine (ui t d hd hc) _ _ ?_|refine (p6 t d hd) _ _ ?_|fail
  all_goals first | omega | skip
  refine Qb (I _ (by omega)) ?_;simp [Ty.valid, *]
/-- returns this type, in memory of its own -/
def zRB (f:FuncId) (args:List PV) (t:Ty):Prop:=∀ (N:Nat) (Q:QT [.ag 2]),(∀ d' N',N<=N'->t.Is d'->Own N N' d'->Q d' N')->ACalls prog f [.ag 2] args N Q
def tInt:Ty:=.mk 1 []
def tBool:Ty:=.mk 2 []
def tZero:Ty:=.mk 0 []
def vP (a b:Ty):Ty:=.mk 3 [a,b]
def xN (a:Ty):Ty:=.mk 4 [a]
def Ty.base (t:Ty):Bool:=(t.k==1||t.k==2)&&(t.as.length:Int)==0
theorem xV (k:Int):(Ty.mk k []).Is (.ag [.j k,.sl none 2 [] 0]):=Ty.is_mk.2 ⟨_,_,_,rfl,by simp,rfl⟩
theorem zHM {N N':Nat} {x:Value}:Own N N' (.ag [.lit x,.sl none 2 [] 0]):=⟨by simp [D.foot,zF],⟨trivial,⟨by simp,trivial⟩,trivial⟩,by simp [D.foot,zF],by simp [D.foot,zF]⟩
theorem qw:∀ l:List Ty,l.length<=zK l
 | []=>oD _
 | .mk k l::I=>by simp only [zK,Ty.cnt,oM];have:=qw I;omega
theorem xo:∀ (t u:Ty) (d e:D),t.Is d->u.Is e->uX 17 [.dg 2 d,.dg 2 e] (zCg t u):=by
 refine Ty.ind λk l ih u d e hd he N Q hQ=>?_
 cases u with
 | mk k' l'=>
 obtain ⟨a,es,c,rfl,U,Y⟩:=Ty.is_mk.1 hd
 obtain ⟨a',aa,c',rfl,ae,O⟩:=Ty.is_mk.1 he
 have hl:=Y.len
 have al:=O.len
 simp only [zCg] at hQ
 have key:l.length=l'.length->∀ (N':Nat),N<=N'->(∀ N'',N'<=N''->Q (tk l (l'.drop 0)) N'')->yY Q N (0:Nat) (.ag [.j k,.sl a 2 es c]) (.ag [.j k',.sl a' 2 aa c']) N':=by
  intro am
  refine up Y U (λi xs=>∀ (N':Nat),N<=N'->(∀ N'',N'<=N''->Q (tk xs (l'.drop i)) N'')->yY Q N i (.ag [.j k,.sl a 2 es c]) (.ag [.j k',.sl a' 2 aa c']) N') ?_ ?_
  ·intro i ah hi N' ai I
   refine uf _ _ _ _ _ _ ?_
   repeat' first|with_reducible intro _|simp only[ah,Y1,Y2,Y3,Y4]|with_reducible refine X ?_ ?_|refine⟨_,_,_,rfl,?_⟩|refine⟨_,rfl,?_⟩|refine And.intro (by first|omega|trivial|(show _=_;rfl)|(with_reducible constructor)<;>first|omega|trivial|rfl) ?_|fail
   refine Qb (I _ (by assumption)) ?_
   rw [mA (by omega)]
   rfl
  ·intro i x xs J _ aj N' ai I
   have hb:=J.b
   have ab:i<l'.length:=by omega
   have hg:l'[i]?=some l'[i]:=oG ab
   have ak:l'.drop i=l'[i]::l'.drop (i+1):=mV ab
   refine uf _ _ _ _ _ _ ?_
   rw [ak] at I
   repeat' first|with_reducible intro _|simp only[J.lt,J.w,oH,Y1,Y2,Y3,Y4]|with_reducible refine X ?_ ?_|refine⟨_,_,_,rfl,?_⟩|refine⟨_,rfl,?_⟩|refine And.intro (by first|omega|trivial|(show _=_;rfl)|(with_reducible constructor)<;>first|omega|trivial|rfl) ?_|refine (ih x J.m _ _ _ J.r (O.get hg)) _ _ ?_|fail
   ·exact Qb (I _ (by omega)) (by simp [tk, *])
   ·exact aj _ (by omega) λN'' h=>Qb (I N'' (by omega)) (by simp [tk, *])
 refine zCW N _ _ Q λ_ _=>?_
 repeat' first|with_reducible intro _|simp only[Y1,Y2,Y3,Y4]|with_reducible refine X ?_ ?_|refine⟨_,_,_,rfl,?_⟩|refine⟨_,rfl,?_⟩|refine And.intro (by first|omega|trivial|(show _=_;rfl)|(with_reducible constructor)<;>first|omega|trivial|rfl) ?_|fail
 ·exact Qb (hQ _ (by assumption)) (by simp [*])
 ·exact Qb (hQ _ (by assumption)) (by rw [zCx (by omega),Bool.and_false])
 ·exact key (by omega) N (oD _) λN'' ac=>Qb (hQ _ ac) (by simp [*])
theorem sB (t:Ty) (d:D) (hd:t.Is d):uX 134 [.dg 2 d] t.base:=λN Q O=>by
 cases t with
 | mk k l=>
 obtain ⟨a,es,c,rfl,J,I⟩:=Ty.is_mk.1 hd
 have U:=I.len
 refine zGq N _ Q λ_=>?_
 repeat' first|with_reducible intro _|simp only[Y1,Y2,Y3,Y4]|with_reducible refine X ?_ ?_|refine⟨_,_,_,rfl,?_⟩|refine⟨_,rfl,?_⟩|refine And.intro (by first|omega|trivial|(show _=_;rfl)|(with_reducible constructor)<;>first|omega|trivial|rfl) ?_|fail
 all_goals refine Qb (O _ (by assumption)) ?_
 all_goals simp [Ty.base,Ty.k,Ty.as,U, *]
theorem xG:zRB 92 [] tInt:=λN Q J=>zIr N Q λN' I=>J _ _ I (xV _) zHM
theorem xO:zRB 96 [] tBool:=λN Q J=>zGB N Q λN' I=>J _ _ I (xV _) zHM
theorem wK {α:Type} {l:List α} {i:Nat} {x:α} (h:l[i]?=some x):l.take (i+1)=l.take i++[x]:=by
 rw [List.take_add_one,h];rfl
theorem zH:∀ (t:Ty) (d:D),t.Is d->t.cnt<=1073741824->zRB 74 [.dg 2 d] t:=by
 refine Ty.ind λk l ih d hd hc N Q hQ=>?_
 obtain ⟨a,es,c,rfl,Y,aa⟩:=Ty.is_mk.1 hd
 have hl:=aa.len
 simp only [Ty.cnt] at hc
 have al:=qw l
 refine zGb N _ Q λ_=>⟨_,rfl,?_⟩
 have key:=up aa Y (λi xs=>∀ (N':Nat),N<=N'->(i=0->uK Q N i (.ag [.j k,.sl a 2 es c]) 0 none [] 0 k none [] 0 N')/\∀ (m q:Nat) (r:List D),m=r.length->All2 Ty.Is (l.take i) r->OwnL N N' r ->
  xD Q N i (.ag [.j k,.sl a 2 es c]) 0 none [] 0 k m q r q N') ?_ ?_
 ·exact (key N (oD _)).1 rfl
 ·intro i ab hi N' ai
  refine ⟨λh0=>s6 _ _ _ _ _ _ _ _ _ _ _ _ _ ?_,λm q r hm U ho=>uh _ _ _ _ _ _ _ _ _ _ _ _ _ _ ?_⟩
  ·repeat' first|with_reducible intro _|simp only[ab,Y1,Y2,Y3,Y4]|with_reducible refine X ?_ ?_|refine⟨_,_,_,rfl,?_⟩|refine⟨_,rfl,?_⟩|refine And.intro (by first|omega|trivial|(show _=_;rfl)|(with_reducible constructor)<;>first|omega|trivial|rfl) ?_|fail
   have:l=[]:=oU (by omega)
   subst this
   exact hQ _ _ (by omega) (xV _) zHM
  ·repeat' first|with_reducible intro _|simp only[ab,Y1,Y2,Y3,Y4]|with_reducible refine X ?_ ?_|refine⟨_,_,_,rfl,?_⟩|refine⟨_,rfl,?_⟩|refine And.intro (by first|omega|trivial|(show _=_;rfl)|(with_reducible constructor)<;>first|omega|trivial|rfl) ?_|fail
   rename_i a' N3 J hf N4 aj
   rw [oq (by omega)] at U
   exact hQ _ _ (by omega) (Ty.is_mk.2 ⟨_,_,_,rfl,by have:=U.len;omega,U⟩) (zFn (y8 (xR ((zFC ho hf (by omega)).mono (oD _) aj))))
 ·intro i x xs I _ ac N' ai
  have hb:=I.b
  have am:=xt I.m
  refine ⟨λh0=>s6 _ _ _ _ _ _ _ _ _ _ _ _ _ ?_,λm q r hm U ho=>uh _ _ _ _ _ _ _ _ _ _ _ _ _ _ ?_⟩
  ·repeat' first|with_reducible intro _|simp only[I.lt,I.w,oH,Y1,Y2,Y3,Y4]|with_reducible refine X ?_ ?_|refine⟨_,_,_,rfl,?_⟩|refine⟨_,rfl,?_⟩|refine And.intro (by first|omega|trivial|(show _=_;rfl)|(with_reducible constructor)<;>first|omega|trivial|rfl) ?_|refine (ih x I.m _ I.r (by omega)) _ _ ?_|fail
   rename_i N2 ae d' N3 J hx O ak ah
   subst h0
   exact ⟨by unfold zB;simp,λc2=>(ac _ (by omega)).2 _ _ _ rfl (by rw [wK I.g];exact ⟨_,_,rfl,hx,rfl⟩) (xR (O.mono (by omega) (oD _)))⟩
  ·repeat' first|with_reducible intro _|simp only[I.lt,I.w,oH,Y1,Y2,Y3,Y4]|with_reducible refine X ?_ ?_|refine⟨_,_,_,rfl,?_⟩|refine⟨_,rfl,?_⟩|refine And.intro (by first|omega|trivial|(show _=_;rfl)|(with_reducible constructor)<;>first|omega|trivial|rfl) ?_|refine (ih x I.m _ I.r (by omega)) _ _ ?_|fail
   rename_i N2 ae d' N3 J hx O ak ah
   have ao:=U.len
   have aq:(l.take i).length=i:=by rw [nA];omega
   refine ⟨by unfold zB;simp only [oI,nk];omega,λc2=>?_⟩
   exact (ac _ (by omega)).2 _ _ _ rfl (by rw [wK I.g];exact U.snoc hx) (xz (ho.mono (oD _) ae) (xR O) (by omega) J)
theorem xF (t u:Ty) (d e:D) (hd:t.Is d) (he:u.Is e) (I:t.cnt<=1073741824) (J:u.cnt<=1073741824):zRB 94 [.dg 2 d,.dg 2 e] (vP t u):=λN Q hQ=>by
 refine zBp N _ _ Q λ_ _=>?_
 repeat' first|with_reducible intro _|simp only[Y1,Y2,Y3,Y4]|with_reducible refine X ?_ ?_|refine⟨_,_,_,rfl,?_⟩|refine⟨_,rfl,?_⟩|refine And.intro (by first|omega|trivial|(show _=_;rfl)|(with_reducible constructor)<;>first|omega|trivial|rfl) ?_|refine (zH t d hd I) _ _ ?_|refine (zH u e he J) _ _ ?_|fail
 rename_i N1 O d1 N2 ab h1 o1 ac b1 N3 U d2 N4 Y h2 o2 ae b2 a' N5 ah hf N6 aa
 exact hQ _ _ (by omega) (Ty.is_mk.2 ⟨_,_,_,rfl,by simp,_,_,rfl,h1,_,_,rfl,h2,rfl⟩)
  (zFn (y8 (xR ((zFC (xz ((xR o1).mono O U) (xR o2) (by omega) Y) hf (by omega)).mono (oD _) aa))))
theorem xS (t:Ty) (d:D) (hd:t.Is d) (I:t.cnt<=1073741824):zRB 93 [.dg 2 d] (xN t):=λN Q U=>by
 refine pO N _ Q λ_=>?_
 repeat' first|with_reducible intro _|simp only[Y1,Y2,Y3,Y4]|with_reducible refine X ?_ ?_|refine⟨_,_,_,rfl,?_⟩|refine⟨_,rfl,?_⟩|refine And.intro (by first|omega|trivial|(show _=_;rfl)|(with_reducible constructor)<;>first|omega|trivial|rfl) ?_|refine (zH t d hd I) _ _ ?_|fail
 rename_i N1 J d1 N2 Y h1 o1 aa b1 a' N5 ab hf N6 O
 exact U _ _ (by omega) (Ty.is_mk.2 ⟨_,_,_,rfl,by simp,_,_,rfl,h1,rfl⟩)
  (zFn (y8 (xR ((zFC ((xR o1).mono J (oD _)) hf (by omega)).mono (oD _) O))))
theorem upN {n:Nat} (hn:n<=4611686018427387904) (P:Nat->Prop) (hend:decide ((n:Int)<(n:Int))=false->P n)
  (hstep:∀ i:Nat,i<n->decide ((i:Int)<(n:Int))=true->IntKind.i64.wrap ((i:Int)+1)=((i+1:Nat):Int)->P (i+1)->P i):P 0:=by
 have key : ∀ (m i:Nat),i+m=n->P i:=by
  intro m
  induction m with
  | zero => intro i h;have:i=n:=by omega
            subst this;exact hend (by simp)
  | succ m ih=>intro i h;exact hstep i (by omega) (mJ (by omega)) (by rw [i64_in _ (by omega)];simp) (ih (i+1) (by omega))
 exact key n 0 (by omega)
abbrev zBr (s:ByteArray) (i:Nat):Int:=((s.data.getD i (OfNat.ofNat 0)).toNat:Int)
def zFm (s:ByteArray) (i:Nat):Bool:=(decide (zBr s i≥97)&&decide (zBr s i<=122))||(!(decide ((i:Int)=0))&&(!(decide (zBr s i<48))&&!(decide (zBr s i>57))))
def uy (s:ByteArray) (i:Nat):Bool:=(List.range' i (s.size - i)).all (zFm s)
theorem zAJ {s:ByteArray} {i:Nat} (h:i<s.size):uy s i=(zFm s i&&uy s (i+1)):=by
 unfold uy
 rw [show s.size - i=(s.size - (i+1))+1 by omega,List.range'_succ]
 rfl
theorem zBh {s:ByteArray}:uy s s.size=true:=by simp [uy]
def zEH (s:ByteArray):Bool:=inB s.size 1 4&&(!(decide (s=bytes [105,102]))&&(!(decide (s=bytes [108,101,116]))&&(!(decide (s=bytes [114,101,99]))&&(!(decide (s=bytes [114,117,110]))&&!(decide (s=bytes [108,105,102,116]))))))
def uu (s:ByteArray):Bool:=uy s 0&&zEH s
theorem tv (s:ByteArray) (hs:s.size<=4611686018427387904):uX 67 [.str s] (uu s):=λN Q Y=>by
 refine zF8 N s Q ?_
 have key:=upN hs (λi=>∀ N',N<=N'->(∀ N'',N'<=N''->Q (uy s i&&zEH s) N'')->yi Q N s i N') ?_ ?_
 ·exact key N (oD _) Y
 ·intro J N' O I
  refine rO _ _ _ _ _ ?_
  repeat' first|with_reducible intro _|simp only[J,Y1,Y2,Y3,Y4]|with_reducible refine X ?_ ?_|refine⟨_,_,_,rfl,?_⟩|refine⟨_,rfl,?_⟩|refine And.intro (by first|omega|trivial|(show _=_;rfl)|(with_reducible constructor)<;>first|omega|trivial|rfl) ?_|refine (xv _ _ _) _ _ ?_|fail
  all_goals (refine Qb (I _ (by omega)) ?_;rw [zBh])
  all_goals simp [zEH,vE, *]
 ·intro i hi J hw U N' O I
  refine rO _ _ _ _ _ ?_
  rw [zAJ hi] at I
  repeat' first|with_reducible intro _|simp only[J,hw,oH,Y1,Y2,Y3,Y4]|with_reducible refine X ?_ ?_|refine⟨_,_,_,rfl,?_⟩|refine⟨_,rfl,?_⟩|refine And.intro (by first|omega|trivial|(show _=_;rfl)|(with_reducible constructor)<;>first|omega|trivial|rfl) ?_|fail
  all_goals first
   | (refine Qb (I _ (by omega)) ?_;unfold zFm zBr;simp only [*];simp;done)
   | (refine U _ (by omega) λN'' h=>Qb (I N'' (by omega)) ?_;unfold zFm zBr;simp only [*];simp;done)
end Go.Proofs.YtfajiphkncipoaaGreatDoor
