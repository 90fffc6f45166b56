/- Types: the reference's functions. -/
import Derived.Test.YtmfjakahanbnlaaGreatDoorA1
import Derived.Test.YtmfjakahanbnlaaGreatDoorKs
set_option linter.unusedVariables false
set_option linter.unusedSimpArgs false
namespace Go.Proofs.YtmfjakahanbnlaaGreatDoor
open Go Go.Proofs Go.Proofs.Tryz Go.IntWalk
def inB (n a b:Int):Bool:=decide (a<=n)&&decide (n<=b)
theorem xR (n a b:Int):ue 63 [.int .i64 n,.int .i64 a,.int .i64 b] (inB n a b):=λN Q I=>by
 refine zKp N n a b Q ?_
 repeat' first|with_reducible intro _|simp only[Y1,Y2,Y3,Y4]|with_reducible refine X ?_ ?_|refine⟨_,_,_,rfl,?_⟩|refine⟨_,rfl,?_⟩|refine And.intro (by first|omega|trivial|(show _=_;rfl)|(with_reducible constructor)<;>first|omega|trivial|rfl) ?_|fail
 all_goals simpa [inB, *] using I _ (by omega)
theorem zCS (a b:Int):pc 274 [.int .i64 a,.int .i64 b] (max a b):=λN Q I=>by
 refine zJM N a b Q ?_
 repeat' first|with_reducible intro _|simp only[Y1,Y2,Y3,Y4]|with_reducible refine X ?_ ?_|refine⟨_,_,_,rfl,?_⟩|refine⟨_,rfl,?_⟩|refine And.intro (by first|omega|trivial|(show _=_;rfl)|(with_reducible constructor)<;>first|omega|trivial|rfl) ?_|fail
 ·have:=I _ (by assumption)
  rwa [Int.max_eq_left (by omega)] at this
 ·have:=I _ (by assumption)
  rwa [Int.max_eq_right (by omega)] at this
mutual
def Ty.dep:Ty->Nat
 | .mk _ l=>sQ l+1
def sQ:List Ty->Nat
 | []=>0
 | t::I=>max t.dep (sQ I)
end
mutual
theorem Ty.dep_cnt:∀ t:Ty,t.dep<=t.cnt
 | .mk _ l=>by simp only [Ty.dep,Ty.cnt];have:=qR l;omega
theorem qR:∀ l:List Ty,sQ l<=zi l
 | []=>oD _
 | t::I=>by simp only [sQ,zi];have:=t.dep_cnt;have:=qR I;omega
end
theorem w6:∀ {l:List Ty} {t:Ty},t∈l->t.cnt<=zi l
 | u::us,t,h=>by
   simp only [zi]
   rcases oI.1 h with rfl | h
   ·omega
   ·have:=w6 h;omega
def zFm (k:Int) (n:Nat):Bool:=if k=1\/k=2 then (n:Int)==0 else if k=3 then (n:Int)==2 else if k=4 then (n:Int)==1 else false
mutual
def Ty.form:Ty->Bool
 | .mk k l=>tO l&&zFm k l.length
def tO:List Ty->Bool
 | []=>true
 | t::I=>t.form&&tO I
end
def Ty.valid (t:Ty):Bool:=decide (t.cnt<=30)&&decide (t.dep<=8)&&t.form
theorem pe:∀ (t:Ty) (d:D),t.Is d->∀ n:Int,0<=n->n<=1000->pc 230 [.dg 2 d,.int .i64 n] (if (t.cnt:Int)<=n then n - t.cnt else -1):=by
 refine Ty.ind λk l ih d hd n ae ah N Q hQ=>?_
 obtain ⟨a,es,c,rfl,U,Y⟩:=Ty.is_mk.1 hd
 refine zHz N _ n Q λ_=>?_
 have key:=up Y U (λi xs=>∀ (m:Int) (N':Nat),N<=N' -> -1<=m->m<=1000->(∀ N'',N'<=N''->Q (if m<0 then -1 else if (zi xs:Int)<=m then m - zi xs else -1) N'') ->
  wk Q N m i (.ag [.lit (.int .i64 k),.sl a 2 es c]) N') ?_ ?_
 ·rw [i64_in _ (by omega)]
  refine key (n - 1) N (oD _) (by omega) (by omega) λN' O=>Qi (hQ N' O) ?_
  simp only [Ty.cnt]
  (repeat' split)<;>omega
 ·intro i aa _ m N' O h1 h2 J
  refine rx _ _ _ _ _ _ ?_
  repeat' first|with_reducible intro _|simp only[aa,Y1,Y2,Y3,Y4]|with_reducible refine X ?_ ?_|refine⟨_,_,_,rfl,?_⟩|refine⟨_,rfl,?_⟩|refine And.intro (by first|omega|trivial|(show _=_;rfl)|(with_reducible constructor)<;>first|omega|trivial|rfl) ?_|fail
  refine Qi (J _ (by assumption)) ?_
  simp only [zi]
  (repeat' split)<;>omega
 ·intro i x xs I _ ab m N' O h1 h2 J
  have hb:=I.b
  refine rx _ _ _ _ _ _ ?_
  repeat' first|with_reducible intro _|simp only[I.lt,I.w,oG,Y1,Y2,Y3,Y4]|with_reducible refine X ?_ ?_|refine⟨_,_,_,rfl,?_⟩|refine⟨_,rfl,?_⟩|refine And.intro (by first|omega|trivial|(show _=_;rfl)|(with_reducible constructor)<;>first|omega|trivial|rfl) ?_|refine (ih x I.m _ I.r m (by omega) (by omega)) _ _ ?_|fail
  ·refine ab _ _ (by omega) (by split<;>omega) (by split<;>omega) λN'' ac=>Qi (J N'' (by omega)) ?_
   simp only [zi]
   (repeat' split)<;>omega
  ·refine Qi (J _ (by assumption)) ?_
   rw [if_pos (by omega)]
   omega
theorem uk:∀ (t:Ty) (d:D),t.Is d->t.cnt<=1073741824->pc 231 [.dg 2 d] t.dep:=by
 refine Ty.ind λk l ih d hd hc N Q hQ=>?_
 obtain ⟨a,es,c,rfl,J,U⟩:=Ty.is_mk.1 hd
 refine zAy N _ Q λ_=>?_
 simp only [Ty.cnt] at hc
 have ab:=qR l
 have key:=up U J (λi xs=>∀ (m:Nat) (N':Nat),N<=N'->max m (sQ xs)=sQ l->yd Q N (m:Int) i (.ag [.lit (.int .i64 k),.sl a 2 es c]) N') ?_ ?_
 ·exact key 0 N (oD _) (by omega)
 ·intro i Y _ m N' O hm
  simp only [sQ] at hm
  refine vi _ _ _ _ _ _ ?_
  repeat' first|with_reducible intro _|simp only[Y,Y1,Y2,Y3,Y4]|with_reducible refine X ?_ ?_|refine⟨_,_,_,rfl,?_⟩|refine⟨_,rfl,?_⟩|refine And.intro (by first|omega|trivial|(show _=_;rfl)|(with_reducible constructor)<;>first|omega|trivial|rfl) ?_|fail
  rw [i64_in _ (by omega)]
  refine Qi (hQ _ (oT O (by assumption))) ?_
  simp only [Ty.dep]
  omega
 ·intro i x xs I _ aa m N' O hm
  have hb:=I.b
  have ac:=w6 I.m
  simp only [sQ] at hm
  refine vi _ _ _ _ _ _ ?_
  repeat' first|with_reducible intro _|simp only[I.lt,I.w,oG,Y1,Y2,Y3,Y4]|with_reducible refine X ?_ ?_|refine⟨_,_,_,rfl,?_⟩|refine⟨_,rfl,?_⟩|refine And.intro (by first|omega|trivial|(show _=_;rfl)|(with_reducible constructor)<;>first|omega|trivial|rfl) ?_|refine (ih x I.m _ I.r (by omega)) _ _ ?_|refine (zCS _ _) _ _ ?_|fail
  have e:max (m:Int) (x.dep:Int)=((max m x.dep:Nat):Int):=by omega
  rw [e]
  exact aa _ _ (by omega) (by omega)
theorem zAZ:∀ (t:Ty) (d:D),t.Is d->ue 232 [.dg 2 d] t.form:=by
 refine Ty.ind λk l ih d hd N Q hQ=>?_
 obtain ⟨a,es,c,rfl,O,U⟩:=Ty.is_mk.1 hd
 have hl:=U.len
 refine zHt N _ Q λ_=>?_
 have key:=up U O (λi xs=>∀ (N':Nat),N<=N'->(∀ N'',N'<=N''->Q (tO xs&&zFm k l.length) N'')->wP Q N i (.ag [.lit (.int .i64 k),.sl a 2 es c]) N') ?_ ?_
 ·exact key N (oD _) hQ
 ·intro i Y _ N' aa J
  refine r7 _ _ _ _ _ ?_
  repeat' first|with_reducible intro _|simp only[Y,Y1,Y2,Y3,Y4]|with_reducible refine X ?_ ?_|refine⟨_,_,_,rfl,?_⟩|refine⟨_,rfl,?_⟩|refine And.intro (by first|omega|trivial|(show _=_;rfl)|(with_reducible constructor)<;>first|omega|trivial|rfl) ?_|fail
  all_goals (refine Qb (J _ (by assumption)) ?_;simp [tO,zFm, *])
 ·intro i x xs I _ ab N' aa J
  have hb:=I.b
  refine r7 _ _ _ _ _ ?_
  repeat' first|with_reducible intro _|simp only[I.lt,I.w,oG,Y1,Y2,Y3,Y4]|with_reducible refine X ?_ ?_|refine⟨_,_,_,rfl,?_⟩|refine⟨_,rfl,?_⟩|refine And.intro (by first|omega|trivial|(show _=_;rfl)|(with_reducible constructor)<;>first|omega|trivial|rfl) ?_|refine (ih x I.m _ I.r) _ _ ?_|fail
  ·refine Qb (J _ (by omega)) ?_;simp [tO, *]
  ·exact ab _ (by omega) λN'' h=>Qb (J N'' (by omega)) (by simp [tO, *])
theorem u3 (t:Ty) (d:D) (hd:t.Is d) (hc:t.cnt<=1073741824):ue 167 [.dg 2 d] t.valid:=λN Q I=>by
 refine zAn N _ Q λ_=>?_
 by_cases O:t.cnt<=30
 ·have J:((t.cnt:Int)<=30):=by omega
  repeat' first|with_reducible intro _|simp only[if_pos J,Y1,Y2,Y3,Y4]|with_reducible refine X ?_ ?_|refine⟨_,_,_,rfl,?_⟩|refine⟨_,rfl,?_⟩|refine And.intro (by first|omega|trivial|(show _=_;rfl)|(with_reducible constructor)<;>first|omega|trivial|rfl) ?_|refine (pe t d hd _ (by omega) (by omega)) _ _ ?_|refine (uk t d hd hc) _ _ ?_|refine (zAZ t d hd) _ _ ?_|fail
  all_goals first | omega | skip
  ·have U:t.dep<=8:=by omega
   refine Qb (I _ (by omega)) ?_;simp [Ty.valid, *]
  ·have U:¬t.dep<=8:=by omega
   refine Qb (I _ (by omega)) ?_;simp [Ty.valid, *]
 ·have J:¬((t.cnt:Int)<=30):=by omega
  repeat' first|with_reducible intro _|simp only[if_neg J,Y1,Y2,Y3,Y4]|with_reducible refine X ?_ ?_|refine⟨_,_,_,rfl,?_⟩|refine⟨_,rfl,?_⟩|refine And.intro (by first|omega|trivial|(show _=_;rfl)|(with_reducible constructor)<;>first|omega|trivial|rfl) ?_|refine (pe t d hd _ (by omega) (by omega)) _ _ ?_|refine (uk t d hd hc) _ _ ?_|refine (zAZ t d hd) _ _ ?_|fail
  all_goals first | omega | skip
  refine Qb (I _ (by omega)) ?_;simp [Ty.valid, *]
/-- returns this type, in memory of its own -/
def zSf (f:FuncId) (args:List PV) (t:Ty):Prop:=∀ (N:Nat) (Q:QT [.ag 2]),(∀ d' N',N<=N'->t.Is d'->Own N N' d'->Q d' N')->ACalls prog f [.ag 2] args N Q
def tInt:Ty:=.mk 1 []
def tBool:Ty:=.mk 2 []
def tZero:Ty:=.mk 0 []
def zPX (a b:Ty):Ty:=.mk 3 [a,b]
def zAX (a:Ty):Ty:=.mk 4 [a]
def Ty.base (t:Ty):Bool:=(t.k==1||t.k==2)&&(t.as.length:Int)==0
theorem xb (k:Int):(Ty.mk k []).Is (.ag [.lit (.int .i64 k),.sl none 2 [] 0]):=Ty.is_mk.2 ⟨_,_,_,rfl,by simp,rfl⟩
theorem zHZ {N N':Nat} {x:Value}:Own N N' (.ag [.lit x,.sl none 2 [] 0]):=⟨by simp [D.foot,zG],⟨trivial,⟨by simp,trivial⟩,trivial⟩,by simp [D.foot,zG],by simp [D.foot,zG]⟩
theorem pQ:∀ l:List Ty,l.length<=zi l
 | []=>oD _
 | .mk k l::I=>by simp only [zi,Ty.cnt,oN];have:=pQ I;omega
theorem vV:∀ (t u:Ty) (d e:D),t.Is d->u.Is e->ue 100 [.dg 2 d,.dg 2 e] (zNU t u):=by
 refine Ty.ind λk l ih u d e hd he N Q hQ=>?_
 cases u with
 | mk k' l'=>
 obtain ⟨a,es,c,rfl,U,Y⟩:=Ty.is_mk.1 hd
 obtain ⟨a',aa,c',rfl,ae,O⟩:=Ty.is_mk.1 he
 have hl:=Y.len
 have al:=O.len
 simp only [zNU] at hQ
 have key:l.length=l'.length->∀ (N':Nat),N<=N'->(∀ N'',N'<=N''->Q (sJ l (l'.drop 0)) N'')->yW Q N (0:Nat) (.ag [.lit (.int .i64 k),.sl a 2 es c]) (.ag [.lit (.int .i64 k'),.sl a' 2 aa c']) N':=by
  intro am
  refine up Y U (λi xs=>∀ (N':Nat),N<=N'->(∀ N'',N'<=N''->Q (sJ xs (l'.drop i)) N'')->yW Q N i (.ag [.lit (.int .i64 k),.sl a 2 es c]) (.ag [.lit (.int .i64 k'),.sl a' 2 aa c']) N') ?_ ?_
  ·intro i ah hi N' ai I
   refine tH _ _ _ _ _ _ ?_
   repeat' first|with_reducible intro _|simp only[ah,Y1,Y2,Y3,Y4]|with_reducible refine X ?_ ?_|refine⟨_,_,_,rfl,?_⟩|refine⟨_,rfl,?_⟩|refine And.intro (by first|omega|trivial|(show _=_;rfl)|(with_reducible constructor)<;>first|omega|trivial|rfl) ?_|fail
   refine Qb (I _ (by assumption)) ?_
   rw [nw (by omega)]
   rfl
  ·intro i x xs J _ aj N' ai I
   have hb:=J.b
   have ab:i<l'.length:=by omega
   have hg:l'[i]?=some l'[i]:=oF ab
   have ak:l'.drop i=l'[i]::l'.drop (i+1):=mS ab
   refine tH _ _ _ _ _ _ ?_
   rw [ak] at I
   repeat' first|with_reducible intro _|simp only[J.lt,J.w,oG,Y1,Y2,Y3,Y4]|with_reducible refine X ?_ ?_|refine⟨_,_,_,rfl,?_⟩|refine⟨_,rfl,?_⟩|refine And.intro (by first|omega|trivial|(show _=_;rfl)|(with_reducible constructor)<;>first|omega|trivial|rfl) ?_|refine (ih x J.m _ _ _ J.r (O.get hg)) _ _ ?_|fail
   ·exact Qb (I _ (by omega)) (by simp [sJ, *])
   ·exact aj _ (by omega) λN'' h=>Qb (I N'' (by omega)) (by simp [sJ, *])
 refine zCZ N _ _ Q λ_ _=>?_
 repeat' first|with_reducible intro _|simp only[Y1,Y2,Y3,Y4]|with_reducible refine X ?_ ?_|refine⟨_,_,_,rfl,?_⟩|refine⟨_,rfl,?_⟩|refine And.intro (by first|omega|trivial|(show _=_;rfl)|(with_reducible constructor)<;>first|omega|trivial|rfl) ?_|fail
 ·exact Qb (hQ _ (by assumption)) (by simp [*])
 ·exact Qb (hQ _ (by assumption)) (by rw [zEL (by omega),Bool.and_false])
 ·exact key (by omega) N (oD _) λN'' ac=>Qb (hQ _ ac) (by simp [*])
theorem zBJ (t:Ty) (d:D) (hd:t.Is d):ue 218 [.dg 2 d] t.base:=λN Q O=>by
 cases t with
 | mk k l=>
 obtain ⟨a,es,c,rfl,J,I⟩:=Ty.is_mk.1 hd
 have U:=I.len
 refine zHN N _ Q λ_=>?_
 repeat' first|with_reducible intro _|simp only[Y1,Y2,Y3,Y4]|with_reducible refine X ?_ ?_|refine⟨_,_,_,rfl,?_⟩|refine⟨_,rfl,?_⟩|refine And.intro (by first|omega|trivial|(show _=_;rfl)|(with_reducible constructor)<;>first|omega|trivial|rfl) ?_|fail
 all_goals refine Qb (O _ (by assumption)) ?_
 all_goals simp [Ty.base,Ty.k,Ty.as,U, *]
theorem vS:zSf 150 [] tInt:=λN Q J=>zKT N Q λN' I=>J _ _ I (xb _) zHZ
theorem vk:zSf 151 [] tBool:=λN Q J=>zIZ N Q λN' I=>J _ _ I (xb _) zHZ
theorem wm {α:Type} {l:List α} {i:Nat} {x:α} (h:l[i]?=some x):l.take (i+1)=l.take i++[x]:=by
 rw [List.take_add_one,h];rfl
theorem zS:∀ (t:Ty) (d:D),t.Is d->t.cnt<=1073741824->zSf 141 [.dg 2 d] t:=by
 refine Ty.ind λk l ih d hd hc N Q hQ=>?_
 obtain ⟨a,es,c,rfl,Y,aa⟩:=Ty.is_mk.1 hd
 have hl:=aa.len
 simp only [Ty.cnt] at hc
 have al:=pQ l
 refine zIb N _ Q λ_=>⟨_,rfl,?_⟩
 have key:=up aa Y (λi xs=>∀ (N':Nat),N<=N'->(i=0->uV Q N i (.ag [.lit (.int .i64 k),.sl a 2 es c]) 0 none [] 0 k none [] 0 N')/\∀ (m q:Nat) (r:List D),m=r.length->All2 Ty.Is (l.take i) r->OwnL N N' r ->
  xQ Q N i (.ag [.lit (.int .i64 k),.sl a 2 es c]) 0 none [] 0 k m q r q N') ?_ ?_
 ·exact (key N (oD _)).1 rfl
 ·intro i ab hi N' ai
  refine ⟨λh0=>ri _ _ _ _ _ _ _ _ _ _ _ _ _ ?_,λm q r hm U ho=>tG _ _ _ _ _ _ _ _ _ _ _ _ _ _ ?_⟩
  ·repeat' first|with_reducible intro _|simp only[ab,Y1,Y2,Y3,Y4]|with_reducible refine X ?_ ?_|refine⟨_,_,_,rfl,?_⟩|refine⟨_,rfl,?_⟩|refine And.intro (by first|omega|trivial|(show _=_;rfl)|(with_reducible constructor)<;>first|omega|trivial|rfl) ?_|fail
   have:l=[]:=oa (by omega)
   subst this
   exact hQ _ _ (by omega) (xb _) zHZ
  ·repeat' first|with_reducible intro _|simp only[ab,Y1,Y2,Y3,Y4]|with_reducible refine X ?_ ?_|refine⟨_,_,_,rfl,?_⟩|refine⟨_,rfl,?_⟩|refine And.intro (by first|omega|trivial|(show _=_;rfl)|(with_reducible constructor)<;>first|omega|trivial|rfl) ?_|fail
   rename_i a' N3 J hf N4 aj
   rw [oi (by omega)] at U
   exact hQ _ _ (by omega) (Ty.is_mk.2 ⟨_,_,_,rfl,by have:=U.len;omega,U⟩) (zGt (xG (xY ((zCR ho hf (by omega)).mono (oD _) aj))))
 ·intro i x xs I _ ac N' ai
  have hb:=I.b
  have am:=w6 I.m
  refine ⟨λh0=>ri _ _ _ _ _ _ _ _ _ _ _ _ _ ?_,λm q r hm U ho=>tG _ _ _ _ _ _ _ _ _ _ _ _ _ _ ?_⟩
  ·repeat' first|with_reducible intro _|simp only[I.lt,I.w,oG,Y1,Y2,Y3,Y4]|with_reducible refine X ?_ ?_|refine⟨_,_,_,rfl,?_⟩|refine⟨_,rfl,?_⟩|refine And.intro (by first|omega|trivial|(show _=_;rfl)|(with_reducible constructor)<;>first|omega|trivial|rfl) ?_|refine (ih x I.m _ I.r (by omega)) _ _ ?_|fail
   rename_i N2 ae d' N3 J hx O ak ah
   subst h0
   exact ⟨by unfold zB;simp,λc2=>(ac _ (by omega)).2 _ _ _ rfl (by rw [wm I.g];exact ⟨_,_,rfl,hx,rfl⟩) (xY (O.mono (by omega) (oD _)))⟩
  ·repeat' first|with_reducible intro _|simp only[I.lt,I.w,oG,Y1,Y2,Y3,Y4]|with_reducible refine X ?_ ?_|refine⟨_,_,_,rfl,?_⟩|refine⟨_,rfl,?_⟩|refine And.intro (by first|omega|trivial|(show _=_;rfl)|(with_reducible constructor)<;>first|omega|trivial|rfl) ?_|refine (ih x I.m _ I.r (by omega)) _ _ ?_|fail
   rename_i N2 ae d' N3 J hx O ak ah
   have ao:=U.len
   have aq:(l.take i).length=i:=by rw [nD];omega
   refine ⟨by unfold zB;simp only [oH,md];omega,λc2=>?_⟩
   exact (ac _ (by omega)).2 _ _ _ rfl (by rw [wm I.g];exact U.snoc hx) (wB (ho.mono (oD _) ae) (xY O) (by omega) J)
theorem tF (t u:Ty) (d e:D) (hd:t.Is d) (he:u.Is e) (I:t.cnt<=1073741824) (J:u.cnt<=1073741824):zSf 153 [.dg 2 d,.dg 2 e] (zPX t u):=λN Q hQ=>by
 refine zCU N _ _ Q λ_ _=>?_
 repeat' first|with_reducible intro _|simp only[Y1,Y2,Y3,Y4]|with_reducible refine X ?_ ?_|refine⟨_,_,_,rfl,?_⟩|refine⟨_,rfl,?_⟩|refine And.intro (by first|omega|trivial|(show _=_;rfl)|(with_reducible constructor)<;>first|omega|trivial|rfl) ?_|refine (zS t d hd I) _ _ ?_|refine (zS u e he J) _ _ ?_|fail
 rename_i N1 O d1 N2 ab h1 o1 ac b1 N3 U d2 N4 Y h2 o2 ae b2 a' N5 ah hf N6 aa
 exact hQ _ _ (by omega) (Ty.is_mk.2 ⟨_,_,_,rfl,by simp,_,_,rfl,h1,_,_,rfl,h2,rfl⟩)
  (zGt (xG (xY ((zCR (wB ((xY o1).mono O U) (xY o2) (by omega) Y) hf (by omega)).mono (oD _) aa))))
theorem wn (t:Ty) (d:D) (hd:t.Is d) (I:t.cnt<=1073741824):zSf 152 [.dg 2 d] (zAX t):=λN Q U=>by
 refine zAG N _ Q λ_=>?_
 repeat' first|with_reducible intro _|simp only[Y1,Y2,Y3,Y4]|with_reducible refine X ?_ ?_|refine⟨_,_,_,rfl,?_⟩|refine⟨_,rfl,?_⟩|refine And.intro (by first|omega|trivial|(show _=_;rfl)|(with_reducible constructor)<;>first|omega|trivial|rfl) ?_|refine (zS t d hd I) _ _ ?_|fail
 rename_i N1 J d1 N2 Y h1 o1 aa b1 a' N5 ab hf N6 O
 exact U _ _ (by omega) (Ty.is_mk.2 ⟨_,_,_,rfl,by simp,_,_,rfl,h1,rfl⟩)
  (zGt (xG (xY ((zCR ((xY o1).mono J (oD _)) hf (by omega)).mono (oD _) O))))
theorem upN {n:Nat} (hn:n<=4611686018427387904) (P:Nat->Prop) (hend:decide ((n:Int)<(n:Int))=false->P n)
  (hstep:∀ i:Nat,i<n->decide ((i:Int)<(n:Int))=true->IntKind.i64.wrap ((i:Int)+1)=((i+1:Nat):Int)->P (i+1)->P i):P 0:=by
 have key : ∀ (m i:Nat),i+m=n->P i:=by
  intro m
  induction m with
  | zero => intro i h;have:i=n:=by omega
            subst this;exact hend (by simp)
  | succ m ih=>intro i h;exact hstep i (by omega) (mD (by omega)) (by rw [i64_in _ (by omega)];simp) (ih (i+1) (by omega))
 exact key n 0 (by omega)
abbrev zCC (s:ByteArray) (i:Nat):Int:=((s.data.getD i (OfNat.ofNat 0)).toNat:Int)
def zGw (s:ByteArray) (i:Nat):Bool:=(decide (zCC s i≥97)&&decide (zCC s i<=122))||(!(decide ((i:Int)=0))&&(!(decide (zCC s i<48))&&!(decide (zCC s i>57))))
def u5 (s:ByteArray) (i:Nat):Bool:=(List.range' i (s.size - i)).all (zGw s)
theorem zAN {s:ByteArray} {i:Nat} (h:i<s.size):u5 s i=(zGw s i&&u5 s (i+1)):=by
 unfold u5
 rw [show s.size - i=(s.size - (i+1))+1 by omega,List.range'_succ]
 rfl
theorem zCJ {s:ByteArray}:u5 s s.size=true:=by simp [u5]
def zDl (s:ByteArray):Bool:=inB s.size 1 4&&(!(decide (s=bytes [105,102]))&&(!(decide (s=bytes [108,101,116]))&&(!(decide (s=bytes [114,101,99]))&&(!(decide (s=bytes [114,117,110]))&&!(decide (s=bytes [108,105,102,116]))))))
def yc (s:ByteArray):Bool:=u5 s 0&&zDl s
theorem zAH (s:ByteArray) (hs:s.size<=4611686018427387904):ue 233 [.str s] (yc s):=λN Q Y=>by
 refine zHT N s Q ?_
 have key:=upN hs (λi=>∀ N',N<=N'->(∀ N'',N'<=N''->Q (u5 s i&&zDl s) N'')->yi Q N s i N') ?_ ?_
 ·exact key N (oD _) Y
 ·intro J N' O I
  refine rL _ _ _ _ _ ?_
  repeat' first|with_reducible intro _|simp only[J,Y1,Y2,Y3,Y4]|with_reducible refine X ?_ ?_|refine⟨_,_,_,rfl,?_⟩|refine⟨_,rfl,?_⟩|refine And.intro (by first|omega|trivial|(show _=_;rfl)|(with_reducible constructor)<;>first|omega|trivial|rfl) ?_|refine (xR _ _ _) _ _ ?_|fail
  all_goals (refine Qb (I _ (by omega)) ?_;rw [zCJ])
  all_goals simp [zDl,vH, *]
 ·intro i hi J hw U N' O I
  refine rL _ _ _ _ _ ?_
  rw [zAN hi] at I
  repeat' first|with_reducible intro _|simp only[J,hw,oG,Y1,Y2,Y3,Y4]|with_reducible refine X ?_ ?_|refine⟨_,_,_,rfl,?_⟩|refine⟨_,rfl,?_⟩|refine And.intro (by first|omega|trivial|(show _=_;rfl)|(with_reducible constructor)<;>first|omega|trivial|rfl) ?_|fail
  all_goals first
   | (refine Qb (I _ (by omega)) ?_;unfold zGw zCC;simp only [*];simp;done)
   | (refine U _ (by omega) λN'' h=>Qb (I N'' (by omega)) ?_;unfold zGw zCC;simp only [*];simp;done)
end Go.Proofs.YtmfjakahanbnlaaGreatDoor
