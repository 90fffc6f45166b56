/- Types: the reference's functions. -/
import Derived.Test.YtlahkdflngobiaaGreatDoorA1
import Derived.Test.YtlahkdflngobiaaGreatDoorKs
set_option linter.unusedVariables false
set_option linter.unusedSimpArgs false
namespace Go.Proofs.YtlahkdflngobiaaGreatDoor
open Go Go.Proofs Go.Proofs.Tryz Go.IntWalk
def inB (n a b:Int):Bool:=decide (a<=n)&&decide (n<=b)
theorem zA1 (n a b:Int):vn 118 [.j n,.j a,.j b] (inB n a b):=λN Q I=>by
 refine zMV N n a b Q ?_
 repeat' first|with_reducible intro _|simp only[Y1,Y2,Y3,Y4]|with_reducible refine X ?_ ?_|refine⟨_,_,_,rfl,?_⟩|refine⟨_,rfl,?_⟩|refine And.intro (by first|omega|trivial|(show _=_;rfl)|(with_reducible constructor)<;>first|omega|trivial|rfl) ?_|fail
 all_goals simpa [inB, *] using I _ (by omega)
theorem zDM (a b:Int):p9 181 [.j a,.j b] (max a b):=λN Q I=>by
 refine zKB N a b Q ?_
 repeat' first|with_reducible intro _|simp only[Y1,Y2,Y3,Y4]|with_reducible refine X ?_ ?_|refine⟨_,_,_,rfl,?_⟩|refine⟨_,rfl,?_⟩|refine And.intro (by first|omega|trivial|(show _=_;rfl)|(with_reducible constructor)<;>first|omega|trivial|rfl) ?_|fail
 ·have:=I _ (by assumption)
  rwa [Int.max_eq_left (by omega)] at this
 ·have:=I _ (by assumption)
  rwa [Int.max_eq_right (by omega)] at this
mutual
def Ty.dep:Ty->Nat
 | .mk _ l=>sX l+1
def sX:List Ty->Nat
 | []=>0
 | t::I=>max t.dep (sX I)
end
mutual
theorem Ty.dep_cnt:∀ t:Ty,t.dep<=t.cnt
 | .mk _ l=>by simp only [Ty.dep,Ty.cnt];have:=zAC l;omega
theorem zAC:∀ l:List Ty,sX l<=zI l
 | []=>oA _
 | t::I=>by simp only [sX,zI];have:=t.dep_cnt;have:=zAC I;omega
end
theorem w6:∀ {l:List Ty} {t:Ty},t∈l->t.cnt<=zI l
 | u::us,t,h=>by
   simp only [zI]
   rcases oJ.1 h with rfl | h
   ·omega
   ·have:=w6 h;omega
def zAT (k:Int) (n:Nat):Bool:=if k=1\/k=2 then (n:Int)==0 else if k=3 then (n:Int)==2 else if k=4 then (n:Int)==1 else false
mutual
def Ty.form:Ty->Bool
 | .mk k l=>sM l&&zAT k l.length
def sM:List Ty->Bool
 | []=>true
 | t::I=>t.form&&sM I
end
def Ty.valid (t:Ty):Bool:=decide (t.cnt<=30)&&decide (t.dep<=8)&&t.form
theorem zBT:∀ (t:Ty) (d:D),t.Is d->∀ n:Int,0<=n->n<=1000->p9 187 [.dg 2 d,.j n] (if (t.cnt:Int)<=n then n - t.cnt else -1):=by
 refine Ty.ind λk l ih d hd n ah ai N Q hQ=>?_
 obtain ⟨a,es,c,rfl,hlen,aa⟩:=Ty.is_mk.1 hd
 refine zJS N _ n Q λ_=>?_
 have key:=up aa hlen (λi xs=>∀ (m:Int) (N':Nat),N<=N' -> -1<=m->m<=1000->(∀ N'',N'<=N''->Q (if m<0 then -1 else if (zI xs:Int)<=m then m - zI xs else -1) N'') ->
  vR Q N m i (.ag [.j k,.sl a 2 es c]) N') ?_ ?_
 ·rw [i64_in _ (by omega)]
  refine key (n - 1) N (oA _) (by omega) (by omega) λN' O=>Qi (hQ N' O) ?_
  simp only [Ty.cnt]
  (repeat' split)<;>omega
 ·intro i ab _ m N' O h1 h2 J
  refine qz _ _ _ _ _ _ ?_
  repeat' first|with_reducible intro _|simp only[ab,Y1,Y2,Y3,Y4]|with_reducible refine X ?_ ?_|refine⟨_,_,_,rfl,?_⟩|refine⟨_,rfl,?_⟩|refine And.intro (by first|omega|trivial|(show _=_;rfl)|(with_reducible constructor)<;>first|omega|trivial|rfl) ?_|fail
  refine Qi (J _ (by assumption)) ?_
  simp only [zI]
  (repeat' split)<;>omega
 ·intro i x xs I _ ac m N' O h1 h2 J
  have hb:=I.b
  refine qz _ _ _ _ _ _ ?_
  repeat' first|with_reducible intro _|simp only[I.lt,I.w,oH,Y1,Y2,Y3,Y4]|with_reducible refine X ?_ ?_|refine⟨_,_,_,rfl,?_⟩|refine⟨_,rfl,?_⟩|refine And.intro (by first|omega|trivial|(show _=_;rfl)|(with_reducible constructor)<;>first|omega|trivial|rfl) ?_|refine (ih x I.m _ I.r m (by omega) (by omega)) _ _ ?_|fail
  ·refine ac _ _ (by omega) (by split<;>omega) (by split<;>omega) λN'' ae=>Qi (J N'' (by omega)) ?_
   simp only [zI]
   (repeat' split)<;>omega
  ·refine Qi (J _ (by assumption)) ?_
   rw [if_pos (by omega)]
   omega
theorem tj:∀ (t:Ty) (d:D),t.Is d->t.cnt<=1073741824->p9 188 [.dg 2 d] t.dep:=by
 refine Ty.ind λk l ih d hd hc N Q hQ=>?_
 obtain ⟨a,es,c,rfl,hlen,O⟩:=Ty.is_mk.1 hd
 refine zCP N _ Q λ_=>?_
 simp only [Ty.cnt] at hc
 have ac:=zAC l
 have key:=up O hlen (λi xs=>∀ (m:Nat) (N':Nat),N<=N'->max m (sX xs)=sX l->xD Q N (m:Int) i (.ag [.j k,.sl a 2 es c]) N') ?_ ?_
 ·exact key 0 N (oA _) (by omega)
 ·intro i aa _ m N' J hm
  simp only [sX] at hm
  refine uj _ _ _ _ _ _ ?_
  repeat' first|with_reducible intro _|simp only[aa,Y1,Y2,Y3,Y4]|with_reducible refine X ?_ ?_|refine⟨_,_,_,rfl,?_⟩|refine⟨_,rfl,?_⟩|refine And.intro (by first|omega|trivial|(show _=_;rfl)|(with_reducible constructor)<;>first|omega|trivial|rfl) ?_|fail
  rw [i64_in _ (by omega)]
  refine Qi (hQ _ (oe J (by assumption))) ?_
  simp only [Ty.dep]
  omega
 ·intro i x xs I _ ab m N' J hm
  have hb:=I.b
  have ae:=w6 I.m
  simp only [sX] at hm
  refine uj _ _ _ _ _ _ ?_
  repeat' first|with_reducible intro _|simp only[I.lt,I.w,oH,Y1,Y2,Y3,Y4]|with_reducible refine X ?_ ?_|refine⟨_,_,_,rfl,?_⟩|refine⟨_,rfl,?_⟩|refine And.intro (by first|omega|trivial|(show _=_;rfl)|(with_reducible constructor)<;>first|omega|trivial|rfl) ?_|refine (ih x I.m _ I.r (by omega)) _ _ ?_|refine (zDM _ _) _ _ ?_|fail
  have e:max (m:Int) (x.dep:Int)=((max m x.dep:Nat):Int):=by omega
  rw [e]
  exact ab _ _ (by omega) (by omega)
theorem zBs:∀ (t:Ty) (d:D),t.Is d->vn 189 [.dg 2 d] t.form:=by
 refine Ty.ind λk l ih d hd N Q hQ=>?_
 obtain ⟨a,es,c,rfl,hlen,O⟩:=Ty.is_mk.1 hd
 have hl:=O.len
 refine zIi N _ Q λ_=>?_
 have key:=up O hlen (λi xs=>∀ (N':Nat),N<=N'->(∀ N'',N'<=N''->Q (sM xs&&zAT k l.length) N'')->vh Q N i (.ag [.j k,.sl a 2 es c]) N') ?_ ?_
 ·exact key N (oA _) hQ
 ·intro i aa _ N' ab J
  refine pD _ _ _ _ _ ?_
  repeat' first|with_reducible intro _|simp only[aa,Y1,Y2,Y3,Y4]|with_reducible refine X ?_ ?_|refine⟨_,_,_,rfl,?_⟩|refine⟨_,rfl,?_⟩|refine And.intro (by first|omega|trivial|(show _=_;rfl)|(with_reducible constructor)<;>first|omega|trivial|rfl) ?_|fail
  all_goals (refine Qb (J _ (by assumption)) ?_;simp [sM,zAT, *])
 ·intro i x xs I _ ac N' ab J
  have hb:=I.b
  refine pD _ _ _ _ _ ?_
  repeat' first|with_reducible intro _|simp only[I.lt,I.w,oH,Y1,Y2,Y3,Y4]|with_reducible refine X ?_ ?_|refine⟨_,_,_,rfl,?_⟩|refine⟨_,rfl,?_⟩|refine And.intro (by first|omega|trivial|(show _=_;rfl)|(with_reducible constructor)<;>first|omega|trivial|rfl) ?_|refine (ih x I.m _ I.r) _ _ ?_|fail
  ·refine Qb (J _ (by omega)) ?_;simp [sM, *]
  ·exact ac _ (by omega) λN'' h=>Qb (J N'' (by omega)) (by simp [sM, *])
theorem xu (t:Ty) (d:D) (hd:t.Is d) (hc:t.cnt<=1073741824):vn 157 [.dg 2 d] t.valid:=λN Q I=>by
 refine zBM N _ Q λ_=>?_
 by_cases O:t.cnt<=30
 ·have J:((t.cnt:Int)<=30):=by omega
  repeat' first|with_reducible intro _|simp only[if_pos J,Y1,Y2,Y3,Y4]|with_reducible refine X ?_ ?_|refine⟨_,_,_,rfl,?_⟩|refine⟨_,rfl,?_⟩|refine And.intro (by first|omega|trivial|(show _=_;rfl)|(with_reducible constructor)<;>first|omega|trivial|rfl) ?_|refine (zBT t d hd _ (by omega) (by omega)) _ _ ?_|refine (tj t d hd hc) _ _ ?_|refine (zBs t d hd) _ _ ?_|fail
  all_goals first | omega | skip
  ·have h8:t.dep<=8:=by omega
   refine Qb (I _ (by omega)) ?_;simp [Ty.valid, *]
  ·have h8:¬t.dep<=8:=by omega
   refine Qb (I _ (by omega)) ?_;simp [Ty.valid, *]
 ·have J:¬((t.cnt:Int)<=30):=by omega
  repeat' first|with_reducible intro _|simp only[if_neg J,Y1,Y2,Y3,Y4]|with_reducible refine X ?_ ?_|refine⟨_,_,_,rfl,?_⟩|refine⟨_,rfl,?_⟩|refine And.intro (by first|omega|trivial|(show _=_;rfl)|(with_reducible constructor)<;>first|omega|trivial|rfl) ?_|refine (zBT t d hd _ (by omega) (by omega)) _ _ ?_|refine (tj t d hd hc) _ _ ?_|refine (zBs t d hd) _ _ ?_|fail
  all_goals first | omega | skip
  refine Qb (I _ (by omega)) ?_;simp [Ty.valid, *]
/-- returns this type, in memory of its own -/
def zDR (f:FuncId) (args:List PV) (t:Ty):Prop:=∀ (N:Nat) (Q:QT [.ag 2]),(∀ d' N',N<=N'->t.Is d'->Own N N' d'->Q d' N')->ACalls prog f [.ag 2] args N Q
def tInt:Ty:=.mk 1 []
def tBool:Ty:=.mk 2 []
def tZero:Ty:=.mk 0 []
def tc (a b:Ty):Ty:=.mk 3 [a,b]
def zEU (a:Ty):Ty:=.mk 4 [a]
def Ty.base (t:Ty):Bool:=(t.k==1||t.k==2)&&(t.as.length:Int)==0
theorem vP (k:Int):(Ty.mk k []).Is (.ag [.j k,.sl none 2 [] 0]):=Ty.is_mk.2 ⟨_,_,_,rfl,by simp,rfl⟩
theorem yc {N N':Nat} {x:Value}:Own N N' (.ag [.lit x,.sl none 2 [] 0]):=⟨by simp [D.foot,zB],⟨trivial,⟨by simp,trivial⟩,trivial⟩,by simp [D.foot,zB],by simp [D.foot,zB]⟩
theorem rq:∀ l:List Ty,l.length<=zI l
 | []=>oA _
 | .mk k l::I=>by simp only [zI,Ty.cnt,oK];have:=rq I;omega
theorem xj:∀ (t u:Ty) (d e:D),t.Is d->u.Is e->vn 68 [.dg 2 d,.dg 2 e] (tW t u):=by
 refine Ty.ind λk l ih u d e hd he N Q hQ=>?_
 cases u with
 | mk k' O=>
 obtain ⟨a,es,c,rfl,hlen,ab⟩:=Ty.is_mk.1 hd
 obtain ⟨a',es',c',rfl,ah,aa⟩:=Ty.is_mk.1 he
 have hl:=ab.len
 have am:=aa.len
 simp only [tW] at hQ
 have key:l.length=O.length->∀ (N':Nat),N<=N'->(∀ N'',N'<=N''->Q (uX l (O.drop 0)) N'')->y3 Q N (0:Nat) (.ag [.j k,.sl a 2 es c]) (.ag [.j k',.sl a' 2 es' c']) N':=by
  intro ao
  refine up ab hlen (λi xs=>∀ (N':Nat),N<=N'->(∀ N'',N'<=N''->Q (uX xs (O.drop i)) N'')->y3 Q N i (.ag [.j k,.sl a 2 es c]) (.ag [.j k',.sl a' 2 es' c']) N') ?_ ?_
  ·intro i ai hi N' aj I
   refine tg _ _ _ _ _ _ ?_
   repeat' first|with_reducible intro _|simp only[ai,Y1,Y2,Y3,Y4]|with_reducible refine X ?_ ?_|refine⟨_,_,_,rfl,?_⟩|refine⟨_,rfl,?_⟩|refine And.intro (by first|omega|trivial|(show _=_;rfl)|(with_reducible constructor)<;>first|omega|trivial|rfl) ?_|fail
   refine Qb (I _ (by assumption)) ?_
   rw [mC (by omega)]
   rfl
  ·intro i x xs J _ ak N' aj I
   have hb:=J.b
   have ac:i<O.length:=by omega
   have hg:O[i]?=some O[i]:=oI ac
   have al:O.drop i=O[i]::O.drop (i+1):=mF ac
   refine tg _ _ _ _ _ _ ?_
   rw [al] at I
   repeat' first|with_reducible intro _|simp only[J.lt,J.w,oH,Y1,Y2,Y3,Y4]|with_reducible refine X ?_ ?_|refine⟨_,_,_,rfl,?_⟩|refine⟨_,rfl,?_⟩|refine And.intro (by first|omega|trivial|(show _=_;rfl)|(with_reducible constructor)<;>first|omega|trivial|rfl) ?_|refine (ih x J.m _ _ _ J.r (aa.get hg)) _ _ ?_|fail
   ·exact Qb (I _ (by omega)) (by simp [uX, *])
   ·exact ak _ (by omega) λN'' h=>Qb (I N'' (by omega)) (by simp [uX, *])
 refine zER N _ _ Q λ_ _=>?_
 repeat' first|with_reducible intro _|simp only[Y1,Y2,Y3,Y4]|with_reducible refine X ?_ ?_|refine⟨_,_,_,rfl,?_⟩|refine⟨_,rfl,?_⟩|refine And.intro (by first|omega|trivial|(show _=_;rfl)|(with_reducible constructor)<;>first|omega|trivial|rfl) ?_|fail
 ·exact Qb (hQ _ (by assumption)) (by simp [*])
 ·exact Qb (hQ _ (by assumption)) (by rw [zBI (by omega),mf])
 ·exact key (by omega) N (oA _) λN'' ae=>Qb (hQ _ ae) (by simp [*])
theorem rx (t:Ty) (d:D) (hd:t.Is d):vn 152 [.dg 2 d] t.base:=λN Q J=>by
 cases t with
 | mk k l=>
 obtain ⟨a,es,c,rfl,hlen,I⟩:=Ty.is_mk.1 hd
 have O:=I.len
 refine zIx N _ Q λ_=>?_
 repeat' first|with_reducible intro _|simp only[Y1,Y2,Y3,Y4]|with_reducible refine X ?_ ?_|refine⟨_,_,_,rfl,?_⟩|refine⟨_,rfl,?_⟩|refine And.intro (by first|omega|trivial|(show _=_;rfl)|(with_reducible constructor)<;>first|omega|trivial|rfl) ?_|fail
 all_goals refine Qb (J _ (by assumption)) ?_
 all_goals simp [Ty.base,Ty.k,Ty.as,O, *]
theorem zDN:zDR 132 [] tInt:=λN Q J=>zLN N Q λN' I=>J _ _ I (vP _) yc
theorem zBJ:zDR 166 [] tBool:=λN Q J=>zIJ N Q λN' I=>J _ _ I (vP _) yc
theorem xo {α:Type} {l:List α} {i:Nat} {x:α} (h:l[i]?=some x):l.take (i+1)=l.take i++[x]:=by
 rw [List.take_add_one,h];rfl
theorem zw:∀ (t:Ty) (d:D),t.Is d->t.cnt<=1073741824->zDR 76 [.dg 2 d] t:=by
 refine Ty.ind λk l ih d hd hc N Q hQ=>?_
 obtain ⟨a,es,c,rfl,hlen,aa⟩:=Ty.is_mk.1 hd
 have hl:=aa.len
 simp only [Ty.cnt] at hc
 have al:=rq l
 refine zIm N _ Q λ_=>⟨_,rfl,?_⟩
 have key:=up aa hlen (λi xs=>∀ (N':Nat),N<=N'->(i=0->tF Q N i (.ag [.j k,.sl a 2 es c]) 0 none [] 0 k none [] 0 N')/\∀ (m q:Nat) (r:List D),m=r.length->All2 Ty.Is (l.take i) r->OwnL N N' r ->
  wA Q N i (.ag [.j k,.sl a 2 es c]) 0 none [] 0 k m q r q N') ?_ ?_
 ·exact (key N (oA _)).1 rfl
 ·intro i ab hi N' ai
  refine ⟨λh0=>qr _ _ _ _ _ _ _ _ _ _ _ _ _ ?_,λm q r hm hr ho=>th _ _ _ _ _ _ _ _ _ _ _ _ _ _ ?_⟩
  ·repeat' first|with_reducible intro _|simp only[ab,Y1,Y2,Y3,Y4]|with_reducible refine X ?_ ?_|refine⟨_,_,_,rfl,?_⟩|refine⟨_,rfl,?_⟩|refine And.intro (by first|omega|trivial|(show _=_;rfl)|(with_reducible constructor)<;>first|omega|trivial|rfl) ?_|fail
   have:l=[]:=oM (by omega)
   subst this
   exact hQ _ _ (by omega) (vP _) yc
  ·repeat' first|with_reducible intro _|simp only[ab,Y1,Y2,Y3,Y4]|with_reducible refine X ?_ ?_|refine⟨_,_,_,rfl,?_⟩|refine⟨_,rfl,?_⟩|refine And.intro (by first|omega|trivial|(show _=_;rfl)|(with_reducible constructor)<;>first|omega|trivial|rfl) ?_|fail
   rename_i a' N3 J hf N4 aj
   rw [oi (by omega)] at hr
   exact hQ _ _ (by omega) (Ty.is_mk.2 ⟨_,_,_,rfl,by have:=hr.len;omega,hr⟩) (s9 (zR (zo ((tf ho hf (by omega)).mono (oA _) aj))))
 ·intro i x xs I _ ac N' ai
  have hb:=I.b
  have am:=w6 I.m
  refine ⟨λh0=>qr _ _ _ _ _ _ _ _ _ _ _ _ _ ?_,λm q r hm hr ho=>th _ _ _ _ _ _ _ _ _ _ _ _ _ _ ?_⟩
  ·repeat' first|with_reducible intro _|simp only[I.lt,I.w,oH,Y1,Y2,Y3,Y4]|with_reducible refine X ?_ ?_|refine⟨_,_,_,rfl,?_⟩|refine⟨_,rfl,?_⟩|refine And.intro (by first|omega|trivial|(show _=_;rfl)|(with_reducible constructor)<;>first|omega|trivial|rfl) ?_|refine (ih x I.m _ I.r (by omega)) _ _ ?_|fail
   rename_i N2 ae d' N3 J hx O ak ah
   subst h0
   exact ⟨by unfold zC;simp,λc2=>(ac _ (by omega)).2 _ _ _ rfl (by rw [xo I.g];exact ⟨_,_,rfl,hx,rfl⟩) (zo (O.mono (by omega) (oA _)))⟩
  ·repeat' first|with_reducible intro _|simp only[I.lt,I.w,oH,Y1,Y2,Y3,Y4]|with_reducible refine X ?_ ?_|refine⟨_,_,_,rfl,?_⟩|refine⟨_,rfl,?_⟩|refine And.intro (by first|omega|trivial|(show _=_;rfl)|(with_reducible constructor)<;>first|omega|trivial|rfl) ?_|refine (ih x I.m _ I.r (by omega)) _ _ ?_|fail
   rename_i N2 ae d' N3 J hx O ak ah
   have ao:=hr.len
   have aq:(l.take i).length=i:=by rw [o8];omega
   refine ⟨by unfold zC;simp only [oE,nu];omega,λc2=>?_⟩
   exact (ac _ (by omega)).2 _ _ _ rfl (by rw [xo I.g];exact hr.snoc hx) (zm (ho.mono (oA _) ae) (zo O) (by omega) J)
theorem qj (t u:Ty) (d e:D) (hd:t.Is d) (he:u.Is e) (I:t.cnt<=1073741824) (J:u.cnt<=1073741824):zDR 150 [.dg 2 d,.dg 2 e] (tc t u):=λN Q hQ=>by
 refine zKp N _ _ Q λ_ _=>?_
 repeat' first|with_reducible intro _|simp only[Y1,Y2,Y3,Y4]|with_reducible refine X ?_ ?_|refine⟨_,_,_,rfl,?_⟩|refine⟨_,rfl,?_⟩|refine And.intro (by first|omega|trivial|(show _=_;rfl)|(with_reducible constructor)<;>first|omega|trivial|rfl) ?_|refine (zw t d hd I) _ _ ?_|refine (zw u e he J) _ _ ?_|fail
 rename_i N1 O d1 N2 ae h1 o1 ah b1 N3 aa d2 N4 ab h2 o2 ai b2 a' N5 aj hf N6 ac
 exact hQ _ _ (by omega) (Ty.is_mk.2 ⟨_,_,_,rfl,by simp,_,_,rfl,h1,_,_,rfl,h2,rfl⟩)
  (s9 (zR (zo ((tf (zm ((zo o1).mono O aa) (zo o2) (by omega) ab) hf (by omega)).mono (oA _) ac))))
theorem zJU (t:Ty) (d:D) (hd:t.Is d) (I:t.cnt<=1073741824):zDR 149 [.dg 2 d] (zEU t):=λN Q hQ=>by
 refine zII N _ Q λ_=>?_
 repeat' first|with_reducible intro _|simp only[Y1,Y2,Y3,Y4]|with_reducible refine X ?_ ?_|refine⟨_,_,_,rfl,?_⟩|refine⟨_,rfl,?_⟩|refine And.intro (by first|omega|trivial|(show _=_;rfl)|(with_reducible constructor)<;>first|omega|trivial|rfl) ?_|refine (zw t d hd I) _ _ ?_|fail
 rename_i N1 J d1 N2 aa h1 o1 ab b1 a' N5 ac hf N6 O
 exact hQ _ _ (by omega) (Ty.is_mk.2 ⟨_,_,_,rfl,by simp,_,_,rfl,h1,rfl⟩)
  (s9 (zR (zo ((tf ((zo o1).mono J (oA _)) hf (by omega)).mono (oA _) O))))
theorem upN {n:Nat} (hn:n<=4611686018427387904) (P:Nat->Prop) (hend:decide ((n:Int)<(n:Int))=false->P n)
  (hstep:∀ i:Nat,i<n->decide ((i:Int)<(n:Int))=true->IntKind.i64.wrap ((i:Int)+1)=((i+1:Nat):Int)->P (i+1)->P i):P 0:=by
 have key : ∀ (m i:Nat),i+m=n->P i:=by
  intro m
  induction m with
  | zero => intro i h;have:i=n:=by omega
            subst this;exact hend (by simp)
  | succ m ih=>intro i h;exact hstep i (by omega) (mu (by omega)) (by rw [i64_in _ (by omega)];simp) (ih (i+1) (by omega))
 exact key n 0 (by omega)
abbrev zDc (s:ByteArray) (i:Nat):Int:=((s.data.getD i (OfNat.ofNat 0)).toNat:Int)
def zHo (s:ByteArray) (i:Nat):Bool:=(decide (zDc s i≥97)&&decide (zDc s i<=122))||(!(decide ((i:Int)=0))&&(!(decide (zDc s i<48))&&!(decide (zDc s i>57))))
def sG (s:ByteArray) (i:Nat):Bool:=(List.range' i (s.size - i)).all (zHo s)
theorem zB4 {s:ByteArray} {i:Nat} (h:i<s.size):sG s i=(zHo s i&&sG s (i+1)):=by
 unfold sG
 rw [show s.size - i=(s.size - (i+1))+1 by omega,List.range'_succ]
 rfl
theorem zDS {s:ByteArray}:sG s s.size=true:=by simp [sG]
def zHr (s:ByteArray):Bool:=inB s.size 1 4&&(!(decide (s=bytes [105,102]))&&(!(decide (s=bytes [108,101,116]))&&(!(decide (s=bytes [114,101,99]))&&(!(decide (s=bytes [114,117,110]))&&!(decide (s=bytes [108,105,102,116]))))))
def sk (s:ByteArray):Bool:=sG s 0&&zHr s
theorem rc (s:ByteArray) (hs:s.size<=4611686018427387904):vn 151 [.str s] (sk s):=λN Q hQ=>by
 refine zIG N s Q ?_
 have key:=upN hs (λi=>∀ N',N<=N'->(∀ N'',N'<=N''->Q (sG s i&&zHr s) N'')->xM Q N s i N') ?_ ?_
 ·exact key N (oA _) hQ
 ·intro J N' O I
  refine pF _ _ _ _ _ ?_
  repeat' first|with_reducible intro _|simp only[J,Y1,Y2,Y3,Y4]|with_reducible refine X ?_ ?_|refine⟨_,_,_,rfl,?_⟩|refine⟨_,rfl,?_⟩|refine And.intro (by first|omega|trivial|(show _=_;rfl)|(with_reducible constructor)<;>first|omega|trivial|rfl) ?_|refine (zA1 _ _ _) _ _ ?_|fail
  all_goals (refine Qb (I _ (by omega)) ?_;rw [zDS])
  all_goals simp [zHr,ti, *]
 ·intro i hi J hw aa N' O I
  refine pF _ _ _ _ _ ?_
  rw [zB4 hi] at I
  repeat' first|with_reducible intro _|simp only[J,hw,oH,Y1,Y2,Y3,Y4]|with_reducible refine X ?_ ?_|refine⟨_,_,_,rfl,?_⟩|refine⟨_,rfl,?_⟩|refine And.intro (by first|omega|trivial|(show _=_;rfl)|(with_reducible constructor)<;>first|omega|trivial|rfl) ?_|fail
  all_goals first
   | (refine Qb (I _ (by omega)) ?_;unfold zHo zDc;simp only [*];simp;done)
   | (refine aa _ (by omega) λN'' h=>Qb (I N'' (by omega)) ?_;unfold zHo zDc;simp only [*];simp;done)
end Go.Proofs.YtlahkdflngobiaaGreatDoor
