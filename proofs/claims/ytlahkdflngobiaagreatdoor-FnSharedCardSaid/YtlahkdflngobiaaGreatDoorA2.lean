/- Types: the reference's functions. -/
import Derived.Test.YtlahkdflngobiaaGreatDoorA1
import Derived.Test.YtlahkdflngobiaaGreatDoorKs
set_option linter.unusedVariables false
set_option linter.unusedSimpArgs false
namespace Go.Proofs.YtlahkdflngobiaaGreatDoor
open Go Go.Proofs Go.Proofs.Tryz Go.IntWalk
def inB (n a b:Int):Bool:=decide (a<=n)&&decide (n<=b)
theorem vF (n a b:Int):uN 118 [.j n,.j a,.j b] (inB n a b):=λN Q I=>by
 refine zMt N n a b Q ?_
 repeat' first|with_reducible intro _|simp only[Y1,Y2,Y3,Y4]|with_reducible refine X ?_ ?_|refine⟨_,_,_,rfl,?_⟩|refine⟨_,rfl,?_⟩|refine And.intro (by first|omega|trivial|(show _=_;rfl)|(with_reducible constructor)<;>first|omega|trivial|rfl) ?_|fail
 all_goals simpa [inB, *] using I _ (by omega)
theorem zDj (a b:Int):zAO 181 [.j a,.j b] (max a b):=λN Q I=>by
 refine zKS N a b Q ?_
 repeat' first|with_reducible intro _|simp only[Y1,Y2,Y3,Y4]|with_reducible refine X ?_ ?_|refine⟨_,_,_,rfl,?_⟩|refine⟨_,rfl,?_⟩|refine And.intro (by first|omega|trivial|(show _=_;rfl)|(with_reducible constructor)<;>first|omega|trivial|rfl) ?_|fail
 ·have:=I _ (by assumption)
  rwa [Int.max_eq_left (by omega)] at this
 ·have:=I _ (by assumption)
  rwa [Int.max_eq_right (by omega)] at this
mutual
def Ty.dep:Ty->Nat
 | .mk _ l=>sx l+1
def sx:List Ty->Nat
 | []=>0
 | t::I=>max t.dep (sx I)
end
mutual
theorem Ty.dep_cnt:∀ t:Ty,t.dep<=t.cnt
 | .mk _ l=>by simp only [Ty.dep,Ty.cnt];have:=zAT l;omega
theorem zAT:∀ l:List Ty,sx l<=zV l
 | []=>oB _
 | t::I=>by simp only [sx,zV];have:=t.dep_cnt;have:=zAT I;omega
end
theorem vE:∀ {l:List Ty} {t:Ty},t∈l->t.cnt<=zV l
 | u::us,t,h=>by
   simp only [zV]
   rcases oH.1 h with rfl | h
   ·omega
   ·have:=vE h;omega
def zAj (k:Int) (n:Nat):Bool:=if k=1\/k=2 then (n:Int)==0 else if k=3 then (n:Int)==2 else if k=4 then (n:Int)==1 else false
mutual
def Ty.form:Ty->Bool
 | .mk k l=>sf l&&zAj k l.length
def sf:List Ty->Bool
 | []=>true
 | t::I=>t.form&&sf I
end
def Ty.valid (t:Ty):Bool:=decide (t.cnt<=30)&&decide (t.dep<=8)&&t.form
theorem zBq:∀ (t:Ty) (d:D),t.Is d->∀ n:Int,0<=n->n<=1000->zAO 187 [.dg 2 d,.j n] (if (t.cnt:Int)<=n then n - t.cnt else -1):=by
 refine Ty.ind λk l ih d hd n ah ai N Q hQ=>?_
 obtain ⟨a,es,c,rfl,hlen,aa⟩:=Ty.is_mk.1 hd
 refine zJb N _ n Q λ_=>?_
 have key:=up aa hlen (λi xs=>∀ (m:Int) (N':Nat),N<=N' -> -1<=m->m<=1000->(∀ N'',N'<=N''->Q (if m<0 then -1 else if (zV xs:Int)<=m then m - zV xs else -1) N'') ->
  vf Q N m i (.ag [.j k,.sl a 2 es c]) N') ?_ ?_
 ·rw [i64_in _ (by omega)]
  refine key (n - 1) N (oB _) (by omega) (by omega) λN' O=>Qi (hQ N' O) ?_
  simp only [Ty.cnt]
  (repeat' split)<;>omega
 ·intro i ab _ m N' O h1 h2 J
  refine pJ _ _ _ _ _ _ ?_
  repeat' first|with_reducible intro _|simp only[ab,Y1,Y2,Y3,Y4]|with_reducible refine X ?_ ?_|refine⟨_,_,_,rfl,?_⟩|refine⟨_,rfl,?_⟩|refine And.intro (by first|omega|trivial|(show _=_;rfl)|(with_reducible constructor)<;>first|omega|trivial|rfl) ?_|fail
  refine Qi (J _ (by assumption)) ?_
  simp only [zV]
  (repeat' split)<;>omega
 ·intro i x xs I _ ac m N' O h1 h2 J
  have hb:=I.b
  refine pJ _ _ _ _ _ _ ?_
  repeat' first|with_reducible intro _|simp only[I.lt,I.w,oK,Y1,Y2,Y3,Y4]|with_reducible refine X ?_ ?_|refine⟨_,_,_,rfl,?_⟩|refine⟨_,rfl,?_⟩|refine And.intro (by first|omega|trivial|(show _=_;rfl)|(with_reducible constructor)<;>first|omega|trivial|rfl) ?_|refine (ih x I.m _ I.r m (by omega) (by omega)) _ _ ?_|fail
  ·refine ac _ _ (by omega) (by split<;>omega) (by split<;>omega) λN'' ae=>Qi (J N'' (by omega)) ?_
   simp only [zV]
   (repeat' split)<;>omega
  ·refine Qi (J _ (by assumption)) ?_
   rw [if_pos (by omega)]
   omega
theorem sK:∀ (t:Ty) (d:D),t.Is d->t.cnt<=1073741824->zAO 188 [.dg 2 d] t.dep:=by
 refine Ty.ind λk l ih d hd hc N Q hQ=>?_
 obtain ⟨a,es,c,rfl,hlen,O⟩:=Ty.is_mk.1 hd
 refine zCs N _ Q λ_=>?_
 simp only [Ty.cnt] at hc
 have ac:=zAT l
 have key:=up O hlen (λi xs=>∀ (m:Nat) (N':Nat),N<=N'->max m (sx xs)=sx l->xH Q N (m:Int) i (.ag [.j k,.sl a 2 es c]) N') ?_ ?_
 ·exact key 0 N (oB _) (by omega)
 ·intro i aa _ m N' J hm
  simp only [sx] at hm
  refine u9 _ _ _ _ _ _ ?_
  repeat' first|with_reducible intro _|simp only[aa,Y1,Y2,Y3,Y4]|with_reducible refine X ?_ ?_|refine⟨_,_,_,rfl,?_⟩|refine⟨_,rfl,?_⟩|refine And.intro (by first|omega|trivial|(show _=_;rfl)|(with_reducible constructor)<;>first|omega|trivial|rfl) ?_|fail
  rw [i64_in _ (by omega)]
  refine Qi (hQ _ (oZ J (by assumption))) ?_
  simp only [Ty.dep]
  omega
 ·intro i x xs I _ ab m N' J hm
  have hb:=I.b
  have ae:=vE I.m
  simp only [sx] at hm
  refine u9 _ _ _ _ _ _ ?_
  repeat' first|with_reducible intro _|simp only[I.lt,I.w,oK,Y1,Y2,Y3,Y4]|with_reducible refine X ?_ ?_|refine⟨_,_,_,rfl,?_⟩|refine⟨_,rfl,?_⟩|refine And.intro (by first|omega|trivial|(show _=_;rfl)|(with_reducible constructor)<;>first|omega|trivial|rfl) ?_|refine (ih x I.m _ I.r (by omega)) _ _ ?_|refine (zDj _ _) _ _ ?_|fail
  have e:max (m:Int) (x.dep:Int)=((max m x.dep:Nat):Int):=by omega
  rw [e]
  exact ab _ _ (by omega) (by omega)
theorem zCF:∀ (t:Ty) (d:D),t.Is d->uN 189 [.dg 2 d] t.form:=by
 refine Ty.ind λk l ih d hd N Q hQ=>?_
 obtain ⟨a,es,c,rfl,hlen,O⟩:=Ty.is_mk.1 hd
 have hl:=O.len
 refine zIq N _ Q λ_=>?_
 have key:=up O hlen (λi xs=>∀ (N':Nat),N<=N'->(∀ N'',N'<=N''->Q (sf xs&&zAj k l.length) N'')->uF Q N i (.ag [.j k,.sl a 2 es c]) N') ?_ ?_
 ·exact key N (oB _) hQ
 ·intro i aa _ N' ab J
  refine pT _ _ _ _ _ ?_
  repeat' first|with_reducible intro _|simp only[aa,Y1,Y2,Y3,Y4]|with_reducible refine X ?_ ?_|refine⟨_,_,_,rfl,?_⟩|refine⟨_,rfl,?_⟩|refine And.intro (by first|omega|trivial|(show _=_;rfl)|(with_reducible constructor)<;>first|omega|trivial|rfl) ?_|fail
  all_goals (refine Qb (J _ (by assumption)) ?_;simp [sf,zAj, *])
 ·intro i x xs I _ ac N' ab J
  have hb:=I.b
  refine pT _ _ _ _ _ ?_
  repeat' first|with_reducible intro _|simp only[I.lt,I.w,oK,Y1,Y2,Y3,Y4]|with_reducible refine X ?_ ?_|refine⟨_,_,_,rfl,?_⟩|refine⟨_,rfl,?_⟩|refine And.intro (by first|omega|trivial|(show _=_;rfl)|(with_reducible constructor)<;>first|omega|trivial|rfl) ?_|refine (ih x I.m _ I.r) _ _ ?_|fail
  ·refine Qb (J _ (by omega)) ?_;simp [sf, *]
  ·exact ac _ (by omega) λN'' h=>Qb (J N'' (by omega)) (by simp [sf, *])
theorem wB (t:Ty) (d:D) (hd:t.Is d) (hc:t.cnt<=1073741824):uN 157 [.dg 2 d] t.valid:=λN Q I=>by
 refine zBh N _ Q λ_=>?_
 by_cases O:t.cnt<=30
 ·have J:((t.cnt:Int)<=30):=by omega
  repeat' first|with_reducible intro _|simp only[if_pos J,Y1,Y2,Y3,Y4]|with_reducible refine X ?_ ?_|refine⟨_,_,_,rfl,?_⟩|refine⟨_,rfl,?_⟩|refine And.intro (by first|omega|trivial|(show _=_;rfl)|(with_reducible constructor)<;>first|omega|trivial|rfl) ?_|refine (zBq t d hd _ (by omega) (by omega)) _ _ ?_|refine (sK t d hd hc) _ _ ?_|refine (zCF t d hd) _ _ ?_|fail
  all_goals first | omega | skip
  ·have h8:t.dep<=8:=by omega
   refine Qb (I _ (by omega)) ?_;simp [Ty.valid, *]
  ·have h8:¬t.dep<=8:=by omega
   refine Qb (I _ (by omega)) ?_;simp [Ty.valid, *]
 ·have J:¬((t.cnt:Int)<=30):=by omega
  repeat' first|with_reducible intro _|simp only[if_neg J,Y1,Y2,Y3,Y4]|with_reducible refine X ?_ ?_|refine⟨_,_,_,rfl,?_⟩|refine⟨_,rfl,?_⟩|refine And.intro (by first|omega|trivial|(show _=_;rfl)|(with_reducible constructor)<;>first|omega|trivial|rfl) ?_|refine (zBq t d hd _ (by omega) (by omega)) _ _ ?_|refine (sK t d hd hc) _ _ ?_|refine (zCF t d hd) _ _ ?_|fail
  all_goals first | omega | skip
  refine Qb (I _ (by omega)) ?_;simp [Ty.valid, *]
/-- returns this type, in memory of its own -/
def zEF (f:FuncId) (args:List PV) (t:Ty):Prop:=∀ (N:Nat) (Q:QT [.ag 2]),(∀ d' N',N<=N'->t.Is d'->Own N N' d'->Q d' N')->ACalls prog f [.ag 2] args N Q
def tInt:Ty:=.mk 1 []
def tBool:Ty:=.mk 2 []
def tZero:Ty:=.mk 0 []
def tH (a b:Ty):Ty:=.mk 3 [a,b]
def zAk (a:Ty):Ty:=.mk 4 [a]
def Ty.base (t:Ty):Bool:=(t.k==1||t.k==2)&&(t.as.length:Int)==0
theorem wD (k:Int):(Ty.mk k []).Is (.ag [.j k,.sl none 2 [] 0]):=Ty.is_mk.2 ⟨_,_,_,rfl,by simp,rfl⟩
theorem ye {N N':Nat} {x:Value}:Own N N' (.ag [.lit x,.sl none 2 [] 0]):=⟨by simp [D.foot,zC],⟨trivial,⟨by simp,trivial⟩,trivial⟩,by simp [D.foot,zC],by simp [D.foot,zC]⟩
theorem zBX:∀ l:List Ty,l.length<=zV l
 | []=>oB _
 | .mk k l::I=>by simp only [zV,Ty.cnt,oJ];have:=zBX I;omega
theorem yo:∀ (t u:Ty) (d e:D),t.Is d->u.Is e->uN 68 [.dg 2 d,.dg 2 e] (sn t u):=by
 refine Ty.ind λk l ih u d e hd he N Q hQ=>?_
 cases u with
 | mk k' O=>
 obtain ⟨a,es,c,rfl,hlen,ab⟩:=Ty.is_mk.1 hd
 obtain ⟨a',ac,c',rfl,ai,aa⟩:=Ty.is_mk.1 he
 have hl:=ab.len
 have ao:=aa.len
 simp only [sn] at hQ
 have key:l.length=O.length->∀ (N':Nat),N<=N'->(∀ N'',N'<=N''->Q (rm l (O.drop 0)) N'')->y5 Q N (0:Nat) (.ag [.j k,.sl a 2 es c]) (.ag [.j k',.sl a' 2 ac c']) N':=by
  intro aq
  refine up ab hlen (λi xs=>∀ (N':Nat),N<=N'->(∀ N'',N'<=N''->Q (rm xs (O.drop i)) N'')->y5 Q N i (.ag [.j k,.sl a 2 es c]) (.ag [.j k',.sl a' 2 ac c']) N') ?_ ?_
  ·intro i aj hi N' ak I
   refine sH _ _ _ _ _ _ ?_
   repeat' first|with_reducible intro _|simp only[aj,Y1,Y2,Y3,Y4]|with_reducible refine X ?_ ?_|refine⟨_,_,_,rfl,?_⟩|refine⟨_,rfl,?_⟩|refine And.intro (by first|omega|trivial|(show _=_;rfl)|(with_reducible constructor)<;>first|omega|trivial|rfl) ?_|fail
   refine Qb (I _ (by assumption)) ?_
   rw [mA (by omega)]
   rfl
  ·intro i x xs J _ al N' ak I
   have hb:=J.b
   have ae:i<O.length:=by omega
   have hg:O[i]?=some O[i]:=oF ae
   have am:O.drop i=O[i]::O.drop (i+1):=mG ae
   refine sH _ _ _ _ _ _ ?_
   rw [am] at I
   repeat' first|with_reducible intro _|simp only[J.lt,J.w,oK,Y1,Y2,Y3,Y4]|with_reducible refine X ?_ ?_|refine⟨_,_,_,rfl,?_⟩|refine⟨_,rfl,?_⟩|refine And.intro (by first|omega|trivial|(show _=_;rfl)|(with_reducible constructor)<;>first|omega|trivial|rfl) ?_|refine (ih x J.m _ _ _ J.r (aa.get hg)) _ _ ?_|fail
   ·exact Qb (I _ (by omega)) (by simp [rm, *])
   ·exact al _ (by omega) λN'' h=>Qb (I N'' (by omega)) (by simp [rm, *])
 refine zEo N _ _ Q λ_ _=>?_
 repeat' first|with_reducible intro _|simp only[Y1,Y2,Y3,Y4]|with_reducible refine X ?_ ?_|refine⟨_,_,_,rfl,?_⟩|refine⟨_,rfl,?_⟩|refine And.intro (by first|omega|trivial|(show _=_;rfl)|(with_reducible constructor)<;>first|omega|trivial|rfl) ?_|fail
 ·exact Qb (hQ _ (by assumption)) (by simp [*])
 ·exact Qb (hQ _ (by assumption)) (by rw [zFA (by omega),md])
 ·exact key (by omega) N (oB _) λN'' ah=>Qb (hQ _ ah) (by simp [*])
theorem r8 (t:Ty) (d:D) (hd:t.Is d):uN 152 [.dg 2 d] t.base:=λN Q J=>by
 cases t with
 | mk k l=>
 obtain ⟨a,es,c,rfl,hlen,I⟩:=Ty.is_mk.1 hd
 have O:=I.len
 refine zI8 N _ Q λ_=>?_
 repeat' first|with_reducible intro _|simp only[Y1,Y2,Y3,Y4]|with_reducible refine X ?_ ?_|refine⟨_,_,_,rfl,?_⟩|refine⟨_,rfl,?_⟩|refine And.intro (by first|omega|trivial|(show _=_;rfl)|(with_reducible constructor)<;>first|omega|trivial|rfl) ?_|fail
 all_goals refine Qb (J _ (by assumption)) ?_
 all_goals simp [Ty.base,Ty.k,Ty.as,O, *]
theorem xW:zEF 132 [] tInt:=λN Q J=>zLc N Q λN' I=>J _ _ I (wD _) ye
theorem tE:zEF 166 [] tBool:=λN Q J=>zIU N Q λN' I=>J _ _ I (wD _) ye
theorem xK {α:Type} {l:List α} {i:Nat} {x:α} (h:l[i]?=some x):l.take (i+1)=l.take i++[x]:=by
 rw [List.take_add_one,h];rfl
theorem zT:∀ (t:Ty) (d:D),t.Is d->t.cnt<=1073741824->zEF 76 [.dg 2 d] t:=by
 refine Ty.ind λk l ih d hd hc N Q hQ=>?_
 obtain ⟨a,es,c,rfl,hlen,aa⟩:=Ty.is_mk.1 hd
 have hl:=aa.len
 simp only [Ty.cnt] at hc
 have al:=zBX l
 refine zIu N _ Q λ_=>⟨_,rfl,?_⟩
 have key:=up aa hlen (λi xs=>∀ (N':Nat),N<=N'->(i=0->te Q N i (.ag [.j k,.sl a 2 es c]) 0 none [] 0 k none [] 0 N')/\∀ (m q:Nat) (r:List D),m=r.length->All2 Ty.Is (l.take i) r->OwnL N N' r ->
  wL Q N i (.ag [.j k,.sl a 2 es c]) 0 none [] 0 k m q r q N') ?_ ?_
 ·exact (key N (oB _)).1 rfl
 ·intro i ab hi N' ai
  refine ⟨λh0=>q9 _ _ _ _ _ _ _ _ _ _ _ _ _ ?_,λm q r hm hr ho=>sI _ _ _ _ _ _ _ _ _ _ _ _ _ _ ?_⟩
  ·repeat' first|with_reducible intro _|simp only[ab,Y1,Y2,Y3,Y4]|with_reducible refine X ?_ ?_|refine⟨_,_,_,rfl,?_⟩|refine⟨_,rfl,?_⟩|refine And.intro (by first|omega|trivial|(show _=_;rfl)|(with_reducible constructor)<;>first|omega|trivial|rfl) ?_|fail
   have:l=[]:=oO (by omega)
   subst this
   exact hQ _ _ (by omega) (wD _) ye
  ·repeat' first|with_reducible intro _|simp only[ab,Y1,Y2,Y3,Y4]|with_reducible refine X ?_ ?_|refine⟨_,_,_,rfl,?_⟩|refine⟨_,rfl,?_⟩|refine And.intro (by first|omega|trivial|(show _=_;rfl)|(with_reducible constructor)<;>first|omega|trivial|rfl) ?_|fail
   rename_i a' N3 J hf N4 aj
   rw [od (by omega)] at hr
   exact hQ _ _ (by omega) (Ty.is_mk.2 ⟨_,_,_,rfl,by have:=hr.len;omega,hr⟩) (zA5 (ze (yP ((qm ho hf (by omega)).mono (oB _) aj))))
 ·intro i x xs I _ ac N' ai
  have hb:=I.b
  have am:=vE I.m
  refine ⟨λh0=>q9 _ _ _ _ _ _ _ _ _ _ _ _ _ ?_,λm q r hm hr ho=>sI _ _ _ _ _ _ _ _ _ _ _ _ _ _ ?_⟩
  ·repeat' first|with_reducible intro _|simp only[I.lt,I.w,oK,Y1,Y2,Y3,Y4]|with_reducible refine X ?_ ?_|refine⟨_,_,_,rfl,?_⟩|refine⟨_,rfl,?_⟩|refine And.intro (by first|omega|trivial|(show _=_;rfl)|(with_reducible constructor)<;>first|omega|trivial|rfl) ?_|refine (ih x I.m _ I.r (by omega)) _ _ ?_|fail
   rename_i N2 ae d' N3 J hx O ak ah
   subst h0
   exact ⟨by unfold zB;simp,λc2=>(ac _ (by omega)).2 _ _ _ rfl (by rw [xK I.g];exact ⟨_,_,rfl,hx,rfl⟩) (yP (O.mono (by omega) (oB _)))⟩
  ·repeat' first|with_reducible intro _|simp only[I.lt,I.w,oK,Y1,Y2,Y3,Y4]|with_reducible refine X ?_ ?_|refine⟨_,_,_,rfl,?_⟩|refine⟨_,rfl,?_⟩|refine And.intro (by first|omega|trivial|(show _=_;rfl)|(with_reducible constructor)<;>first|omega|trivial|rfl) ?_|refine (ih x I.m _ I.r (by omega)) _ _ ?_|fail
   rename_i N2 ae d' N3 J hx O ak ah
   have ao:=hr.len
   have aq:(l.take i).length=i:=by rw [o8];omega
   refine ⟨by unfold zB;simp only [oE,np];omega,λc2=>?_⟩
   exact (ac _ (by omega)).2 _ _ _ rfl (by rw [xK I.g];exact hr.snoc hx) (y7 (ho.mono (oB _) ae) (yP O) (by omega) J)
theorem qv (t u:Ty) (d e:D) (hd:t.Is d) (he:u.Is e) (I:t.cnt<=1073741824) (J:u.cnt<=1073741824):zEF 150 [.dg 2 d,.dg 2 e] (tH t u):=λN Q hQ=>by
 refine zDv N _ _ Q λ_ _=>?_
 repeat' first|with_reducible intro _|simp only[Y1,Y2,Y3,Y4]|with_reducible refine X ?_ ?_|refine⟨_,_,_,rfl,?_⟩|refine⟨_,rfl,?_⟩|refine And.intro (by first|omega|trivial|(show _=_;rfl)|(with_reducible constructor)<;>first|omega|trivial|rfl) ?_|refine (zT t d hd I) _ _ ?_|refine (zT u e he J) _ _ ?_|fail
 rename_i N1 O d1 N2 ae h1 o1 ah b1 N3 aa d2 N4 ab h2 o2 ai b2 a' N5 aj hf N6 ac
 exact hQ _ _ (by omega) (Ty.is_mk.2 ⟨_,_,_,rfl,by simp,_,_,rfl,h1,_,_,rfl,h2,rfl⟩)
  (zA5 (ze (yP ((qm (y7 ((yP o1).mono O aa) (yP o2) (by omega) ab) hf (by omega)).mono (oB _) ac))))
theorem zJd (t:Ty) (d:D) (hd:t.Is d) (I:t.cnt<=1073741824):zEF 149 [.dg 2 d] (zAk t):=λN Q hQ=>by
 refine zBl N _ Q λ_=>?_
 repeat' first|with_reducible intro _|simp only[Y1,Y2,Y3,Y4]|with_reducible refine X ?_ ?_|refine⟨_,_,_,rfl,?_⟩|refine⟨_,rfl,?_⟩|refine And.intro (by first|omega|trivial|(show _=_;rfl)|(with_reducible constructor)<;>first|omega|trivial|rfl) ?_|refine (zT t d hd I) _ _ ?_|fail
 rename_i N1 J d1 N2 aa h1 o1 ab b1 a' N5 ac hf N6 O
 exact hQ _ _ (by omega) (Ty.is_mk.2 ⟨_,_,_,rfl,by simp,_,_,rfl,h1,rfl⟩)
  (zA5 (ze (yP ((qm ((yP o1).mono J (oB _)) hf (by omega)).mono (oB _) O))))
theorem upN {n:Nat} (hn:n<=4611686018427387904) (P:Nat->Prop) (hend:decide ((n:Int)<(n:Int))=false->P n)
  (hstep:∀ i:Nat,i<n->decide ((i:Int)<(n:Int))=true->IntKind.i64.wrap ((i:Int)+1)=((i+1:Nat):Int)->P (i+1)->P i):P 0:=by
 have key : ∀ (m i:Nat),i+m=n->P i:=by
  intro m
  induction m with
  | zero => intro i h;have:i=n:=by omega
            subst this;exact hend (by simp)
  | succ m ih=>intro i h;exact hstep i (by omega) (mF (by omega)) (by rw [i64_in _ (by omega)];simp) (ih (i+1) (by omega))
 exact key n 0 (by omega)
abbrev zDx (s:ByteArray) (i:Nat):Int:=((s.data.getD i (OfNat.ofNat 0)).toNat:Int)
def zHz (s:ByteArray) (i:Nat):Bool:=(decide (zDx s i≥97)&&decide (zDx s i<=122))||(!(decide ((i:Int)=0))&&(!(decide (zDx s i<48))&&!(decide (zDx s i>57))))
def sY (s:ByteArray) (i:Nat):Bool:=(List.range' i (s.size - i)).all (zHz s)
theorem zCS {s:ByteArray} {i:Nat} (h:i<s.size):sY s i=(zHz s i&&sY s (i+1)):=by
 unfold sY
 rw [show s.size - i=(s.size - (i+1))+1 by omega,List.range'_succ]
 rfl
theorem zDn {s:ByteArray}:sY s s.size=true:=by simp [sY]
def zH3 (s:ByteArray):Bool:=inB s.size 1 4&&(!(decide (s=bytes [105,102]))&&(!(decide (s=bytes [108,101,116]))&&(!(decide (s=bytes [114,101,99]))&&(!(decide (s=bytes [114,117,110]))&&!(decide (s=bytes [108,105,102,116]))))))
def rE (s:ByteArray):Bool:=sY s 0&&zH3 s
theorem rt (s:ByteArray) (hs:s.size<=4611686018427387904):uN 151 [.str s] (rE s):=λN Q hQ=>by
 refine zIR N s Q ?_
 have key:=upN hs (λi=>∀ N',N<=N'->(∀ N'',N'<=N''->Q (sY s i&&zH3 s) N'')->xP Q N s i N') ?_ ?_
 ·exact key N (oB _) hQ
 ·intro J N' O I
  refine pV _ _ _ _ _ ?_
  repeat' first|with_reducible intro _|simp only[J,Y1,Y2,Y3,Y4]|with_reducible refine X ?_ ?_|refine⟨_,_,_,rfl,?_⟩|refine⟨_,rfl,?_⟩|refine And.intro (by first|omega|trivial|(show _=_;rfl)|(with_reducible constructor)<;>first|omega|trivial|rfl) ?_|refine (vF _ _ _) _ _ ?_|fail
  all_goals (refine Qb (I _ (by omega)) ?_;rw [zDn])
  all_goals simp [zH3,sJ, *]
 ·intro i hi J hw aa N' O I
  refine pV _ _ _ _ _ ?_
  rw [zCS hi] at I
  repeat' first|with_reducible intro _|simp only[J,hw,oK,Y1,Y2,Y3,Y4]|with_reducible refine X ?_ ?_|refine⟨_,_,_,rfl,?_⟩|refine⟨_,rfl,?_⟩|refine And.intro (by first|omega|trivial|(show _=_;rfl)|(with_reducible constructor)<;>first|omega|trivial|rfl) ?_|fail
  all_goals first
   | (refine Qb (I _ (by omega)) ?_;unfold zHz zDx;simp only [*];simp;done)
   | (refine aa _ (by omega) λN'' h=>Qb (I N'' (by omega)) ?_;unfold zHz zDx;simp only [*];simp;done)
end Go.Proofs.YtlahkdflngobiaaGreatDoor
