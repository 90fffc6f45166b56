/- Types: the reference's functions. -/
import Derived.Test.YtnmnahkkcfghjaaGreatA1
import Derived.Test.YtnmnahkkcfghjaaGreatKs
set_option linter.unusedVariables false
set_option linter.unusedSimpArgs false
namespace Go.Proofs.YtnmnahkkcfghjaaGreat
open Go Go.Proofs Go.Proofs.Tryz Go.IntWalk
def inB (n a b:Int):Bool:=decide (a<=n)&&decide (n<=b)
theorem yR (n a b:Int):zBz 31 [.j n,.j a,.j b] (inB n a b):=λN Q I=>by
 refine zIl N n a b Q ?_
 repeat' first|with_reducible intro _|simp only[Y1,Y2,Y3,Y4]|with_reducible refine X ?_ ?_|refine⟨_,_,_,rfl,?_⟩|refine⟨_,rfl,?_⟩|refine And.intro (by first|omega|trivial|(show _=_;rfl)|(with_reducible constructor)<;>first|omega|trivial|rfl) ?_|fail
 all_goals simpa [inB, *] using I _ (by omega)
theorem zA0 (a b:Int):zGX 105 [.j a,.j b] (max a b):=λN Q I=>by
 refine zGw N a b Q ?_
 repeat' first|with_reducible intro _|simp only[Y1,Y2,Y3,Y4]|with_reducible refine X ?_ ?_|refine⟨_,_,_,rfl,?_⟩|refine⟨_,rfl,?_⟩|refine And.intro (by first|omega|trivial|(show _=_;rfl)|(with_reducible constructor)<;>first|omega|trivial|rfl) ?_|fail
 ·have:=I _ (by assumption)
  rwa [Int.max_eq_left (by omega)] at this
 ·have:=I _ (by assumption)
  rwa [Int.max_eq_right (by omega)] at this
mutual
def Ty.dep:Ty->Nat
 | .mk _ l=>tj l+1
def tj:List Ty->Nat
 | []=>0
 | t::I=>max t.dep (tj I)
end
mutual
theorem Ty.dep_cnt:∀ t:Ty,t.dep<=t.cnt
 | .mk _ l=>by simp only [Ty.dep,Ty.cnt];have:=zAs l;omega
theorem zAs:∀ l:List Ty,tj l<=zG l
 | []=>oD _
 | t::I=>by simp only [tj,zG];have:=t.dep_cnt;have:=zAs I;omega
end
theorem xn:∀ {l:List Ty} {t:Ty},t∈l->t.cnt<=zG l
 | u::us,t,h=>by
   simp only [zG]
   rcases oF.1 h with rfl | h
   ·omega
   ·have:=xn h;omega
def rp (k:Int) (n:Nat):Bool:=if k=1\/k=2 then (n:Int)==0 else if k=3 then (n:Int)==2 else if k=4 then (n:Int)==1 else false
mutual
def Ty.form:Ty->Bool
 | .mk k l=>xU l&&rp k l.length
def xU:List Ty->Bool
 | []=>true
 | t::I=>t.form&&xU I
end
def Ty.valid (t:Ty):Bool:=decide (t.cnt<=30)&&decide (t.dep<=8)&&t.form
theorem qi:∀ (t:Ty) (d:D),t.Is d->∀ n:Int,0<=n->n<=1000->zGX 91 [.dg 2 d,.j n] (if (t.cnt:Int)<=n then n - t.cnt else -1):=by
 refine Ty.ind λk l ih d hd n ae ah N Q hQ=>?_
 obtain ⟨a,es,c,rfl,U,Y⟩:=Ty.is_mk.1 hd
 refine zGD N _ n Q λ_=>?_
 have key:=up Y U (λi xs=>∀ (m:Int) (N':Nat),N<=N' -> -1<=m->m<=1000->(∀ N'',N'<=N''->Q (if m<0 then -1 else if (zG xs:Int)<=m then m - zG xs else -1) N'') ->
  wE Q N m i (.ag [.j k,.sl a 2 es c]) N') ?_ ?_
 ·rw [i64_in _ (by omega)]
  refine key (n - 1) N (oD _) (by omega) (by omega) λN' O=>Qi (hQ N' O) ?_
  simp only [Ty.cnt]
  (repeat' split)<;>omega
 ·intro i aa _ m N' O h1 h2 J
  refine sY _ _ _ _ _ _ ?_
  repeat' first|with_reducible intro _|simp only[aa,Y1,Y2,Y3,Y4]|with_reducible refine X ?_ ?_|refine⟨_,_,_,rfl,?_⟩|refine⟨_,rfl,?_⟩|refine And.intro (by first|omega|trivial|(show _=_;rfl)|(with_reducible constructor)<;>first|omega|trivial|rfl) ?_|fail
  refine Qi (J _ (by assumption)) ?_
  simp only [zG]
  (repeat' split)<;>omega
 ·intro i x xs I _ ab m N' O h1 h2 J
  have hb:=I.b
  refine sY _ _ _ _ _ _ ?_
  repeat' first|with_reducible intro _|simp only[I.lt,I.w,oK,Y1,Y2,Y3,Y4]|with_reducible refine X ?_ ?_|refine⟨_,_,_,rfl,?_⟩|refine⟨_,rfl,?_⟩|refine And.intro (by first|omega|trivial|(show _=_;rfl)|(with_reducible constructor)<;>first|omega|trivial|rfl) ?_|refine (ih x I.m _ I.r m (by omega) (by omega)) _ _ ?_|fail
  ·refine ab _ _ (by omega) (by split<;>omega) (by split<;>omega) λN'' ac=>Qi (J N'' (by omega)) ?_
   simp only [zG]
   (repeat' split)<;>omega
  ·refine Qi (J _ (by assumption)) ?_
   rw [if_pos (by omega)]
   omega
theorem uQ:∀ (t:Ty) (d:D),t.Is d->t.cnt<=1073741824->zGX 92 [.dg 2 d] t.dep:=by
 refine Ty.ind λk l ih d hd hc N Q hQ=>?_
 obtain ⟨a,es,c,rfl,J,U⟩:=Ty.is_mk.1 hd
 refine zAE N _ Q λ_=>?_
 simp only [Ty.cnt] at hc
 have ab:=zAs l
 have key:=up U J (λi xs=>∀ (m:Nat) (N':Nat),N<=N'->max m (tj xs)=tj l->yW Q N (m:Int) i (.ag [.j k,.sl a 2 es c]) N') ?_ ?_
 ·exact key 0 N (oD _) (by omega)
 ·intro i Y _ m N' O hm
  simp only [tj] at hm
  refine vS _ _ _ _ _ _ ?_
  repeat' first|with_reducible intro _|simp only[Y,Y1,Y2,Y3,Y4]|with_reducible refine X ?_ ?_|refine⟨_,_,_,rfl,?_⟩|refine⟨_,rfl,?_⟩|refine And.intro (by first|omega|trivial|(show _=_;rfl)|(with_reducible constructor)<;>first|omega|trivial|rfl) ?_|fail
  rw [i64_in _ (by omega)]
  refine Qi (hQ _ (oN O (by assumption))) ?_
  simp only [Ty.dep]
  omega
 ·intro i x xs I _ aa m N' O hm
  have hb:=I.b
  have ac:=xn I.m
  simp only [tj] at hm
  refine vS _ _ _ _ _ _ ?_
  repeat' first|with_reducible intro _|simp only[I.lt,I.w,oK,Y1,Y2,Y3,Y4]|with_reducible refine X ?_ ?_|refine⟨_,_,_,rfl,?_⟩|refine⟨_,rfl,?_⟩|refine And.intro (by first|omega|trivial|(show _=_;rfl)|(with_reducible constructor)<;>first|omega|trivial|rfl) ?_|refine (ih x I.m _ I.r (by omega)) _ _ ?_|refine (zA0 _ _) _ _ ?_|fail
  have e:max (m:Int) (x.dep:Int)=((max m x.dep:Nat):Int):=by omega
  rw [e]
  exact aa _ _ (by omega) (by omega)
theorem pI:∀ (t:Ty) (d:D),t.Is d->zBz 93 [.dg 2 d] t.form:=by
 refine Ty.ind λk l ih d hd N Q hQ=>?_
 obtain ⟨a,es,c,rfl,O,U⟩:=Ty.is_mk.1 hd
 have hl:=U.len
 refine zFO N _ Q λ_=>?_
 have key:=up U O (λi xs=>∀ (N':Nat),N<=N'->(∀ N'',N'<=N''->Q (xU xs&&rp k l.length) N'')->wb Q N i (.ag [.j k,.sl a 2 es c]) N') ?_ ?_
 ·exact key N (oD _) hQ
 ·intro i Y _ N' aa J
  refine sg _ _ _ _ _ ?_
  repeat' first|with_reducible intro _|simp only[Y,Y1,Y2,Y3,Y4]|with_reducible refine X ?_ ?_|refine⟨_,_,_,rfl,?_⟩|refine⟨_,rfl,?_⟩|refine And.intro (by first|omega|trivial|(show _=_;rfl)|(with_reducible constructor)<;>first|omega|trivial|rfl) ?_|fail
  all_goals (refine Qb (J _ (by assumption)) ?_;simp [xU,rp, *])
 ·intro i x xs I _ ab N' aa J
  have hb:=I.b
  refine sg _ _ _ _ _ ?_
  repeat' first|with_reducible intro _|simp only[I.lt,I.w,oK,Y1,Y2,Y3,Y4]|with_reducible refine X ?_ ?_|refine⟨_,_,_,rfl,?_⟩|refine⟨_,rfl,?_⟩|refine And.intro (by first|omega|trivial|(show _=_;rfl)|(with_reducible constructor)<;>first|omega|trivial|rfl) ?_|refine (ih x I.m _ I.r) _ _ ?_|fail
  ·refine Qb (J _ (by omega)) ?_;simp [xU, *]
  ·exact ab _ (by omega) λN'' h=>Qb (J N'' (by omega)) (by simp [xU, *])
theorem yL (t:Ty) (d:D) (hd:t.Is d) (hc:t.cnt<=1073741824):zBz 69 [.dg 2 d] t.valid:=λN Q I=>by
 refine qc N _ Q λ_=>?_
 by_cases O:t.cnt<=30
 ·have J:((t.cnt:Int)<=30):=by omega
  repeat' first|with_reducible intro _|simp only[if_pos J,Y1,Y2,Y3,Y4]|with_reducible refine X ?_ ?_|refine⟨_,_,_,rfl,?_⟩|refine⟨_,rfl,?_⟩|refine And.intro (by first|omega|trivial|(show _=_;rfl)|(with_reducible constructor)<;>first|omega|trivial|rfl) ?_|refine (qi t d hd _ (by omega) (by omega)) _ _ ?_|refine (uQ t d hd hc) _ _ ?_|refine (pI t d hd) _ _ ?_|fail
  all_goals first | omega | skip
  ·have U:t.dep<=8:=by omega
   refine Qb (I _ (by omega)) ?_;simp [Ty.valid, *]
  ·have U:¬t.dep<=8:=by omega
   refine Qb (I _ (by omega)) ?_;simp [Ty.valid, *]
 ·have J:¬((t.cnt:Int)<=30):=by omega
  repeat' first|with_reducible intro _|simp only[if_neg J,Y1,Y2,Y3,Y4]|with_reducible refine X ?_ ?_|refine⟨_,_,_,rfl,?_⟩|refine⟨_,rfl,?_⟩|refine And.intro (by first|omega|trivial|(show _=_;rfl)|(with_reducible constructor)<;>first|omega|trivial|rfl) ?_|refine (qi t d hd _ (by omega) (by omega)) _ _ ?_|refine (uQ t d hd hc) _ _ ?_|refine (pI t d hd) _ _ ?_|fail
  all_goals first | omega | skip
  refine Qb (I _ (by omega)) ?_;simp [Ty.valid, *]
/-- returns this type, in memory of its own -/
def zQW (f:FuncId) (args:List PV) (t:Ty):Prop:=∀ (N:Nat) (Q:QT [.ag 2]),(∀ d' N',N<=N'->t.Is d'->Own N N' d'->Q d' N')->ACalls prog f [.ag 2] args N Q
def tInt:Ty:=.mk 1 []
def tBool:Ty:=.mk 2 []
def tZero:Ty:=.mk 0 []
def wA (a b:Ty):Ty:=.mk 3 [a,b]
def yd (a:Ty):Ty:=.mk 4 [a]
def Ty.base (t:Ty):Bool:=(t.k==1||t.k==2)&&(t.as.length:Int)==0
theorem yz (k:Int):(Ty.mk k []).Is (.ag [.j k,.sl none 2 [] 0]):=Ty.is_mk.2 ⟨_,_,_,rfl,by simp,rfl⟩
theorem zGG {N N':Nat} {x:Value}:Own N N' (.ag [.lit x,.sl none 2 [] 0]):=⟨by simp [D.foot,zF],⟨trivial,⟨by simp,trivial⟩,trivial⟩,by simp [D.foot,zF],by simp [D.foot,zF]⟩
theorem uC:∀ l:List Ty,l.length<=zG l
 | []=>oD _
 | .mk k l::I=>by simp only [zG,Ty.cnt,oO];have:=uC I;omega
theorem zj:∀ (t u:Ty) (d e:D),t.Is d->u.Is e->zBz 19 [.dg 2 d,.dg 2 e] (zDj t u):=by
 refine Ty.ind λk l ih u d e hd he N Q hQ=>?_
 cases u with
 | mk k' l'=>
 obtain ⟨a,es,c,rfl,U,Y⟩:=Ty.is_mk.1 hd
 obtain ⟨a',aa,c',rfl,ae,O⟩:=Ty.is_mk.1 he
 have hl:=Y.len
 have al:=O.len
 simp only [zDj] at hQ
 have key:l.length=l'.length->∀ (N':Nat),N<=N'->(∀ N'',N'<=N''->Q (zAX l (l'.drop 0)) N'')->yQ Q N (0:Nat) (.ag [.j k,.sl a 2 es c]) (.ag [.j k',.sl a' 2 aa c']) N':=by
  intro am
  refine up Y U (λi xs=>∀ (N':Nat),N<=N'->(∀ N'',N'<=N''->Q (zAX xs (l'.drop i)) N'')->yQ Q N i (.ag [.j k,.sl a 2 es c]) (.ag [.j k',.sl a' 2 aa c']) N') ?_ ?_
  ·intro i ah hi N' ai I
   refine uL _ _ _ _ _ _ ?_
   repeat' first|with_reducible intro _|simp only[ah,Y1,Y2,Y3,Y4]|with_reducible refine X ?_ ?_|refine⟨_,_,_,rfl,?_⟩|refine⟨_,rfl,?_⟩|refine And.intro (by first|omega|trivial|(show _=_;rfl)|(with_reducible constructor)<;>first|omega|trivial|rfl) ?_|fail
   refine Qb (I _ (by assumption)) ?_
   rw [md (by omega)]
   rfl
  ·intro i x xs J _ aj N' ai I
   have hb:=J.b
   have ab:i<l'.length:=by omega
   have hg:l'[i]?=some l'[i]:=oH ab
   have ak:l'.drop i=l'[i]::l'.drop (i+1):=mt ab
   refine uL _ _ _ _ _ _ ?_
   rw [ak] at I
   repeat' first|with_reducible intro _|simp only[J.lt,J.w,oK,Y1,Y2,Y3,Y4]|with_reducible refine X ?_ ?_|refine⟨_,_,_,rfl,?_⟩|refine⟨_,rfl,?_⟩|refine And.intro (by first|omega|trivial|(show _=_;rfl)|(with_reducible constructor)<;>first|omega|trivial|rfl) ?_|refine (ih x J.m _ _ _ J.r (O.get hg)) _ _ ?_|fail
   ·exact Qb (I _ (by omega)) (by simp [zAX, *])
   ·exact aj _ (by omega) λN'' h=>Qb (I N'' (by omega)) (by simp [zAX, *])
 refine zBm N _ _ Q λ_ _=>?_
 repeat' first|with_reducible intro _|simp only[Y1,Y2,Y3,Y4]|with_reducible refine X ?_ ?_|refine⟨_,_,_,rfl,?_⟩|refine⟨_,rfl,?_⟩|refine And.intro (by first|omega|trivial|(show _=_;rfl)|(with_reducible constructor)<;>first|omega|trivial|rfl) ?_|fail
 ·exact Qb (hQ _ (by assumption)) (by simp [*])
 ·exact Qb (hQ _ (by assumption)) (by rw [zGa (by omega),Bool.and_false])
 ·exact key (by omega) N (oD _) λN'' ac=>Qb (hQ _ ac) (by simp [*])
theorem tg (t:Ty) (d:D) (hd:t.Is d):zBz 66 [.dg 2 d] t.base:=λN Q O=>by
 cases t with
 | mk k l=>
 obtain ⟨a,es,c,rfl,J,I⟩:=Ty.is_mk.1 hd
 have U:=I.len
 refine zFm N _ Q λ_=>?_
 repeat' first|with_reducible intro _|simp only[Y1,Y2,Y3,Y4]|with_reducible refine X ?_ ?_|refine⟨_,_,_,rfl,?_⟩|refine⟨_,rfl,?_⟩|refine And.intro (by first|omega|trivial|(show _=_;rfl)|(with_reducible constructor)<;>first|omega|trivial|rfl) ?_|fail
 all_goals refine Qb (O _ (by assumption)) ?_
 all_goals simp [Ty.base,Ty.k,Ty.as,U, *]
theorem xG:zQW 52 [] tInt:=λN Q J=>zHi N Q λN' I=>J _ _ I (yz _) zGG
theorem xO:zQW 53 [] tBool:=λN Q J=>zE4 N Q λN' I=>J _ _ I (yz _) zGG
theorem vH {α:Type} {l:List α} {i:Nat} {x:α} (h:l[i]?=some x):l.take (i+1)=l.take i++[x]:=by
 rw [List.take_add_one,h];rfl
theorem zH:∀ (t:Ty) (d:D),t.Is d->t.cnt<=1073741824->zQW 73 [.dg 2 d] t:=by
 refine Ty.ind λk l ih d hd hc N Q hQ=>?_
 obtain ⟨a,es,c,rfl,Y,aa⟩:=Ty.is_mk.1 hd
 have hl:=aa.len
 simp only [Ty.cnt] at hc
 have al:=uC l
 refine zFV N _ Q λ_=>⟨_,rfl,?_⟩
 have key:=up aa Y (λi xs=>∀ (N':Nat),N<=N'->(i=0->v4 Q N i (.ag [.j k,.sl a 2 es c]) 0 none [] 0 k none [] 0 N')/\∀ (m q:Nat) (r:List D),m=r.length->All2 Ty.Is (l.take i) r->OwnL N N' r ->
  xD Q N i (.ag [.j k,.sl a 2 es c]) 0 none [] 0 k m q r q N') ?_ ?_
 ·exact (key N (oD _)).1 rfl
 ·intro i ab hi N' ai
  refine ⟨λh0=>sS _ _ _ _ _ _ _ _ _ _ _ _ _ ?_,λm q r hm U ho=>uM _ _ _ _ _ _ _ _ _ _ _ _ _ _ ?_⟩
  ·repeat' first|with_reducible intro _|simp only[ab,Y1,Y2,Y3,Y4]|with_reducible refine X ?_ ?_|refine⟨_,_,_,rfl,?_⟩|refine⟨_,rfl,?_⟩|refine And.intro (by first|omega|trivial|(show _=_;rfl)|(with_reducible constructor)<;>first|omega|trivial|rfl) ?_|fail
   have:l=[]:=oP (by omega)
   subst this
   exact hQ _ _ (by omega) (yz _) zGG
  ·repeat' first|with_reducible intro _|simp only[ab,Y1,Y2,Y3,Y4]|with_reducible refine X ?_ ?_|refine⟨_,_,_,rfl,?_⟩|refine⟨_,rfl,?_⟩|refine And.intro (by first|omega|trivial|(show _=_;rfl)|(with_reducible constructor)<;>first|omega|trivial|rfl) ?_|fail
   rename_i a' N3 J hf N4 aj
   rw [oi (by omega)] at U
   exact hQ _ _ (by omega) (Ty.is_mk.2 ⟨_,_,_,rfl,by have:=U.len;omega,U⟩) (zEe (yv (xj ((zD1 ho hf (by omega)).mono (oD _) aj))))
 ·intro i x xs I _ ac N' ai
  have hb:=I.b
  have am:=xn I.m
  refine ⟨λh0=>sS _ _ _ _ _ _ _ _ _ _ _ _ _ ?_,λm q r hm U ho=>uM _ _ _ _ _ _ _ _ _ _ _ _ _ _ ?_⟩
  ·repeat' first|with_reducible intro _|simp only[I.lt,I.w,oK,Y1,Y2,Y3,Y4]|with_reducible refine X ?_ ?_|refine⟨_,_,_,rfl,?_⟩|refine⟨_,rfl,?_⟩|refine And.intro (by first|omega|trivial|(show _=_;rfl)|(with_reducible constructor)<;>first|omega|trivial|rfl) ?_|refine (ih x I.m _ I.r (by omega)) _ _ ?_|fail
   rename_i N2 ae d' N3 J hx O ak ah
   subst h0
   exact ⟨by unfold zA;simp,λc2=>(ac _ (by omega)).2 _ _ _ rfl (by rw [vH I.g];exact ⟨_,_,rfl,hx,rfl⟩) (xj (O.mono (by omega) (oD _)))⟩
  ·repeat' first|with_reducible intro _|simp only[I.lt,I.w,oK,Y1,Y2,Y3,Y4]|with_reducible refine X ?_ ?_|refine⟨_,_,_,rfl,?_⟩|refine⟨_,rfl,?_⟩|refine And.intro (by first|omega|trivial|(show _=_;rfl)|(with_reducible constructor)<;>first|omega|trivial|rfl) ?_|refine (ih x I.m _ I.r (by omega)) _ _ ?_|fail
   rename_i N2 ae d' N3 J hx O ak ah
   have ao:=U.len
   have aq:(l.take i).length=i:=by rw [o5];omega
   refine ⟨by unfold zA;simp only [oI,nB];omega,λc2=>?_⟩
   exact (ac _ (by omega)).2 _ _ _ rfl (by rw [vH I.g];exact U.snoc hx) (wn (ho.mono (oD _) ae) (xj O) (by omega) J)
theorem ye (t u:Ty) (d e:D) (hd:t.Is d) (he:u.Is e) (I:t.cnt<=1073741824) (J:u.cnt<=1073741824):zQW 55 [.dg 2 d,.dg 2 e] (wA t u):=λN Q hQ=>by
 refine zA9 N _ _ Q λ_ _=>?_
 repeat' first|with_reducible intro _|simp only[Y1,Y2,Y3,Y4]|with_reducible refine X ?_ ?_|refine⟨_,_,_,rfl,?_⟩|refine⟨_,rfl,?_⟩|refine And.intro (by first|omega|trivial|(show _=_;rfl)|(with_reducible constructor)<;>first|omega|trivial|rfl) ?_|refine (zH t d hd I) _ _ ?_|refine (zH u e he J) _ _ ?_|fail
 rename_i N1 O d1 N2 ab h1 o1 ac b1 N3 U d2 N4 Y h2 o2 ae b2 a' N5 ah hf N6 aa
 exact hQ _ _ (by omega) (Ty.is_mk.2 ⟨_,_,_,rfl,by simp,_,_,rfl,h1,_,_,rfl,h2,rfl⟩)
  (zEe (yv (xj ((zD1 (wn ((xj o1).mono O U) (xj o2) (by omega) Y) hf (by omega)).mono (oD _) aa))))
theorem yf (t:Ty) (d:D) (hd:t.Is d) (I:t.cnt<=1073741824):zQW 54 [.dg 2 d] (yd t):=λN Q U=>by
 refine qg N _ Q λ_=>?_
 repeat' first|with_reducible intro _|simp only[Y1,Y2,Y3,Y4]|with_reducible refine X ?_ ?_|refine⟨_,_,_,rfl,?_⟩|refine⟨_,rfl,?_⟩|refine And.intro (by first|omega|trivial|(show _=_;rfl)|(with_reducible constructor)<;>first|omega|trivial|rfl) ?_|refine (zH t d hd I) _ _ ?_|fail
 rename_i N1 J d1 N2 Y h1 o1 aa b1 a' N5 ab hf N6 O
 exact U _ _ (by omega) (Ty.is_mk.2 ⟨_,_,_,rfl,by simp,_,_,rfl,h1,rfl⟩)
  (zEe (yv (xj ((zD1 ((xj o1).mono J (oD _)) hf (by omega)).mono (oD _) O))))
theorem upN {n:Nat} (hn:n<=4611686018427387904) (P:Nat->Prop) (hend:decide ((n:Int)<(n:Int))=false->P n)
  (hstep:∀ i:Nat,i<n->decide ((i:Int)<(n:Int))=true->IntKind.i64.wrap ((i:Int)+1)=((i+1:Nat):Int)->P (i+1)->P i):P 0:=by
 have key : ∀ (m i:Nat),i+m=n->P i:=by
  intro m
  induction m with
  | zero => intro i h;have:i=n:=by omega
            subst this;exact hend (by simp)
  | succ m ih=>intro i h;exact hstep i (by omega) (mQ (by omega)) (by rw [i64_in _ (by omega)];simp) (ih (i+1) (by omega))
 exact key n 0 (by omega)
abbrev zEa (s:ByteArray) (i:Nat):Int:=((s.data.getD i (OfNat.ofNat 0)).toNat:Int)
def zJW (s:ByteArray) (i:Nat):Bool:=(decide (zEa s i≥97)&&decide (zEa s i<=122))||(!(decide ((i:Int)=0))&&(!(decide (zEa s i<48))&&!(decide (zEa s i>57))))
def tW (s:ByteArray) (i:Nat):Bool:=(List.range' i (s.size - i)).all (zJW s)
theorem zF0 {s:ByteArray} {i:Nat} (h:i<s.size):tW s i=(zJW s i&&tW s (i+1)):=by
 unfold tW
 rw [show s.size - i=(s.size - (i+1))+1 by omega,List.range'_succ]
 rfl
theorem zGt {s:ByteArray}:tW s s.size=true:=by simp [tW]
def zJf (s:ByteArray):Bool:=inB s.size 1 4&&(!(decide (s=bytes [105,102]))&&(!(decide (s=bytes [108,101,116]))&&(!(decide (s=bytes [114,101,99]))&&(!(decide (s=bytes [114,117,110]))&&!(decide (s=bytes [108,105,102,116]))))))
def xJ (s:ByteArray):Bool:=tW s 0&&zJf s
theorem tT (s:ByteArray) (hs:s.size<=4611686018427387904):zBz 68 [.str s] (xJ s):=λN Q Y=>by
 refine zE2 N s Q ?_
 have key:=upN hs (λi=>∀ N',N<=N'->(∀ N'',N'<=N''->Q (tW s i&&zJf s) N'')->yZ Q N s i N') ?_ ?_
 ·exact key N (oD _) Y
 ·intro J N' O I
  refine sj _ _ _ _ _ ?_
  repeat' first|with_reducible intro _|simp only[J,Y1,Y2,Y3,Y4]|with_reducible refine X ?_ ?_|refine⟨_,_,_,rfl,?_⟩|refine⟨_,rfl,?_⟩|refine And.intro (by first|omega|trivial|(show _=_;rfl)|(with_reducible constructor)<;>first|omega|trivial|rfl) ?_|refine (yR _ _ _) _ _ ?_|fail
  all_goals (refine Qb (I _ (by omega)) ?_;rw [zGt])
  all_goals simp [zJf,uO, *]
 ·intro i hi J hw U N' O I
  refine sj _ _ _ _ _ ?_
  rw [zF0 hi] at I
  repeat' first|with_reducible intro _|simp only[J,hw,oK,Y1,Y2,Y3,Y4]|with_reducible refine X ?_ ?_|refine⟨_,_,_,rfl,?_⟩|refine⟨_,rfl,?_⟩|refine And.intro (by first|omega|trivial|(show _=_;rfl)|(with_reducible constructor)<;>first|omega|trivial|rfl) ?_|fail
  all_goals first
   | (refine Qb (I _ (by omega)) ?_;unfold zJW zEa;simp only [*];simp;done)
   | (refine U _ (by omega) λN'' h=>Qb (I N'' (by omega)) ?_;unfold zJW zEa;simp only [*];simp;done)
end Go.Proofs.YtnmnahkkcfghjaaGreat
