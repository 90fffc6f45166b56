/- Terms and typings as plain data; well-formed terms and contexts: the reference's functions. -/
import Derived.Test.YtlahkdflngobiaaGreatA2
set_option linter.unusedVariables false
set_option linter.unusedSimpArgs false
namespace Go.Proofs.YtlahkdflngobiaaGreat
open Go Go.Proofs Go.Proofs.Tryz Go.IntWalk
inductive Tm where
 | mk (k:Int) (nm ot:ByteArray) (n:Int) (ty re:Ty) (l:List Tm)
def Tm.as:Tm->List Tm
 | .mk _ _ _ _ _ _ l=>l
/-- the cells of a term ahead of its parts -/
structure Tm.Hd (nm ot:ByteArray) (ty re:Ty) (t0 t1 r0 r1:D):Prop where
 nm:nm.size<=4611686018427387904
 ot:ot.size<=4611686018427387904
 ty:ty.Is (.ag [t0,t1])
 re:re.Is (.ag [r0,r1])
mutual
def Tm.Is:Tm->D->Prop
 | .mk k nm ot n ty re l,d=>∃ t0 t1 r0 r1 a es c,d=.ag [.j k,.t nm,.t ot,.j n,t0,t1,r0,r1,.sl a 9 es c]/\Tm.Hd nm ot ty re t0 t1 r0 r1/\es.length<=4611686018427387904/\zN5 l es
def zN5:List Tm->List D->Prop
 | [],es=>es=[]
 | t::I,es=>∃ d ds,es=d::ds/\t.Is d/\zN5 I ds
end
theorem zIH:∀ {l:List Tm} {es:List D},zN5 l es↔All2 Tm.Is l es
 | [],es=>by simp only [zN5,All2]
 | t::U,es=>by
   simp only [zN5,All2]
   exact ⟨λ⟨d,ds,I,J,O⟩=>⟨d,ds,I,J,zIH.1 O⟩,λ⟨d,ds,I,J,O⟩=>⟨d,ds,I,J,zIH.2 O⟩⟩
theorem Tm.is_mk {k:Int} {nm ot:ByteArray} {n:Int} {ty re:Ty} {l:List Tm} {d:D}:(Tm.mk k nm ot n ty re l).Is d ↔
  ∃ t0 t1 r0 r1 a es c,d=.ag [.j k,.t nm,.t ot,.j n,t0,t1,r0,r1,.sl a 9 es c]/\Tm.Hd nm ot ty re t0 t1 r0 r1/\es.length<=4611686018427387904/\All2 Tm.Is l es:=by
 simp only [Tm.Is,zIH]
theorem Tm.ind {P:Tm->Prop} (h:∀ k nm ot n ty re l,(∀ t∈l,P t)->P (.mk k nm ot n ty re l)):∀ t,P t:=λt=>
 Tm.rec (motive_1:=P) (motive_2:=λl=>∀ t∈l,P t) (λk nm ot n ty re l I=>h k nm ot n ty re l I) (by simp) (λt l J O u hu=>by
  rcases oG.1 hu with rfl | hu
  ·exact J
  ·exact O u hu) t
mutual
def Tm.cnt:Tm->Nat
 | .mk _ _ _ _ ty re l=>1+ty.cnt+re.cnt+zR l
def zR:List Tm->Nat
 | []=>0
 | t::I=>t.cnt+zR I
end
theorem ym:∀ {l:List Tm} {t:Tm},t∈l->t.cnt<=zR l
 | u::us,t,h=>by
   simp only [zR]
   rcases oG.1 h with rfl | h
   ·omega
   ·have:=ym h;omega
theorem xK:∀ l:List Tm,l.length<=zR l
 | []=>oD _
 | .mk _ _ _ _ _ _ _::I=>by simp only [zR,Tm.cnt,oJ];have:=xK I;omega
structure Tg where
 nm:ByteArray
 ty:Ty
 lv:Int
def Tg.Is (g:Tg) (d:D):Prop:=∃ t0 t1,d=.ag [.t g.nm,t0,t1,.j g.lv]/\g.nm.size<=4611686018427387904/\g.ty.Is (.ag [t0,t1])
theorem Tg.is_mk {nm:ByteArray} {ty:Ty} {lv:Int} {d:D}:(Tg.mk nm ty lv).Is d↔∃ t0 t1,d=.ag [.t nm,t0,t1,.j lv]/\nm.size<=4611686018427387904/\ty.Is (.ag [t0,t1]):=lA
def zF6 (s:ByteArray):Int:=if s=bytes [43] then 2 else if s=bytes [45] then 2 else if s=bytes [42] then 2 else if s=bytes [61] then 2 else if s=bytes [60] then 2 else if s=bytes [38] then 2 else if s=bytes [124] then 2 else if s=bytes [33] then 1 else 0
theorem pU (s:ByteArray):rN 169 [.str s] (zF6 s):=λN Q I=>by
 refine zF1 N s Q ?_
 repeat' first|with_reducible intro _|simp only[Y1,Y2,Y3,Y4]|with_reducible refine X ?_ ?_|refine⟨_,_,_,rfl,?_⟩|refine⟨_,rfl,?_⟩|refine And.intro (by first|omega|trivial|(show _=_;rfl)|(with_reducible constructor)<;>first|omega|trivial|rfl) ?_|fail
 all_goals (refine Qi (I _ (by assumption)) ?_;unfold zF6;(repeat' split)<;>first | rfl | contradiction)
def Ty.zero (t:Ty):Bool:=t.k==0&&(t.as.length:Int)==0
theorem zA9 (t:Ty) (d:D) (hd:t.Is d):vl 167 [.dg 2 d] t.zero:=λN Q O=>by
 cases t with
 | mk k l=>
 obtain ⟨a,es,c,rfl,J,I⟩:=Ty.is_mk.1 hd
 have U:=I.len
 refine zHC N _ Q λ_=>?_
 repeat' first|with_reducible intro _|simp only[Y1,Y2,Y3,Y4]|with_reducible refine X ?_ ?_|refine⟨_,_,_,rfl,?_⟩|refine⟨_,rfl,?_⟩|refine And.intro (by first|omega|trivial|(show _=_;rfl)|(with_reducible constructor)<;>first|omega|trivial|rfl) ?_|fail
 all_goals refine Qb (O _ (by assumption)) ?_
 all_goals simp [Ty.zero,Ty.k,Ty.as,U, *]
def x9 (k:Int) (nm ot:ByteArray):Bool:=
 if k=4 then decide (zF6 nm>0)&&decide (ot=bytes []) else if k=1\/k=6\/k=8 then yb nm&&decide (ot=bytes []) else if k=9 then yb nm&&(yb ot&&!decide (nm=ot)) else decide (nm=bytes [])&&decide (ot=bytes [])
theorem zUu (a b:Int):(a==b)=decide (a=b):=by rw [nz];simp
def qS (k:Int):Bool:=k==6||k==9
def zK (k:Int) (nm ot:ByteArray) (n:Int) (ty re:Ty):Bool:=
 (qS k==ty.valid)&&((qS k||ty.zero)&&(((k==9)==re.valid)&&((k==9||re.zero)&&(inB n 0 (if k=2 then 10006 else if k=3 then 1 else 0)&&x9 k nm ot))))
def zCx (k:Int) (nm:ByteArray):Int:=
 if k=1\/k=2\/k=3 then 0 else if k=4 then zF6 nm else if k=6\/k=9\/k=10\/k=11\/k=12\/k=13 then 1 else if k=7\/k=8 then 2 else if k=5 then 3 else -1
mutual
def Tm.ok:Tm->Bool
 | .mk k nm ot n ty re l=>rt l&&(zK k nm ot n ty re&&(l.length:Int)==zCx k nm)
def rt:List Tm->Bool
 | []=>true
 | t::I=>t.ok&&rt I
end
theorem zFt {k n:Int} {nm ot:ByteArray} {ty re:Ty} {t0 t1 r0 r1 x:D} (h:Tm.Hd nm ot ty re t0 t1 r0 r1):vl 168 [.dg 9 (.ag [.j k,.t nm,.t ot,.j n,t0,t1,r0,r1,x])] (x9 k nm ot):=λN Q I=>by
 refine zFv N _ Q λ_=>?_
 repeat' first|with_reducible intro _|simp only[Y1,Y2,Y3,Y4]|with_reducible refine X ?_ ?_|refine⟨_,_,_,rfl,?_⟩|refine⟨_,rfl,?_⟩|refine And.intro (by first|omega|trivial|(show _=_;rfl)|(with_reducible constructor)<;>first|omega|trivial|rfl) ?_|refine (pU _) _ _ ?_|refine (sV _ h.nm) _ _ ?_|refine (sV _ h.ot) _ _ ?_|fail
 all_goals (refine Qb (I _ (by omega)) ?_;simp [x9,tD, *])
theorem zEH {k n:Int} {nm ot:ByteArray} {ty re:Ty} {t0 t1 r0 r1 x:D} (h:Tm.Hd nm ot ty re t0 t1 r0 r1) (hc:ty.cnt<=1073741824) (I:re.cnt<=1073741824) :
  vl 135 [.dg 9 (.ag [.j k,.t nm,.t ot,.j n,t0,t1,r0,r1,x])] (zK k nm ot n ty re):=λN Q J=>by
 refine zEV N _ Q λ_=>?_
 repeat' first|with_reducible intro _|simp only[Y1,Y2,Y3,Y4]|with_reducible refine X ?_ ?_|refine⟨_,_,_,rfl,?_⟩|refine⟨_,rfl,?_⟩|refine And.intro (by first|omega|trivial|(show _=_;rfl)|(with_reducible constructor)<;>first|omega|trivial|rfl) ?_|refine (xZ _ _ h.ty hc) _ _ ?_|refine (xZ _ _ h.re I) _ _ ?_|refine (zA9 _ _ h.ty) _ _ ?_|refine (zA9 _ _ h.re) _ _ ?_|refine (yk _ _ _) _ _ ?_|refine (zFt h) _ _ ?_|fail
 all_goals first | (exfalso;omega) | (refine Qb (J _ (by omega)) ?_;simp [zK,qS, *];done) | (refine Qb (J _ (by omega)) ?_;simp_all [zK,qS];done) | (refine Qb (J _ (by omega)) ?_;simp_all only [zK,qS,zUu];simp_all;done)
theorem wA {k n:Int} {nm ot:ByteArray} {t0 t1 r0 r1 x:D}:rN 136 [.dg 9 (.ag [.j k,.t nm,.t ot,.j n,t0,t1,r0,r1,x])] (zCx k nm):=λN Q I=>by
 refine zF4 N _ Q λ_=>?_
 repeat' first|with_reducible intro _|simp only[Y1,Y2,Y3,Y4]|with_reducible refine X ?_ ?_|refine⟨_,_,_,rfl,?_⟩|refine⟨_,rfl,?_⟩|refine And.intro (by first|omega|trivial|(show _=_;rfl)|(with_reducible constructor)<;>first|omega|trivial|rfl) ?_|refine (pU _) _ _ ?_|fail
 all_goals (refine Qi (I _ (by omega)) ?_;simp [zCx, *])
theorem zAh:∀ (t:Tm) (d:D),t.Is d->t.cnt<=1073741824->vl 91 [.dg 9 d] t.ok:=by
 refine Tm.ind λk nm ot n ty re l ih d hd hc N Q hQ=>?_
 obtain ⟨t0,t1,r0,r1,a,es,c,rfl,hh,O,U⟩:=Tm.is_mk.1 hd
 have hl:=U.len
 simp only [Tm.cnt] at hc
 refine zHI N _ Q λ_=>?_
 have key:=up U O (λi xs=>∀ (N':Nat),N<=N'->(∀ N'',N'<=N''->Q (rt xs&&(zK k nm ot n ty re&&(l.length:Int)==zCx k nm)) N'')->vB Q N i (.ag [.j k,.t nm,.t ot,.j n,t0,t1,r0,r1,.sl a 9 es c]) N') ?_ ?_
 ·exact key N (oD _) hQ
 ·intro i Y _ N' aa J
  refine qR _ _ _ _ _ ?_
  repeat' first|with_reducible intro _|simp only[Y,Y1,Y2,Y3,Y4]|with_reducible refine X ?_ ?_|refine⟨_,_,_,rfl,?_⟩|refine⟨_,rfl,?_⟩|refine And.intro (by first|omega|trivial|(show _=_;rfl)|(with_reducible constructor)<;>first|omega|trivial|rfl) ?_|refine (zEH hh (by omega) (by omega)) _ _ ?_|refine wA _ _ ?_|fail
  all_goals (refine Qb (J _ (by omega)) ?_;simp [rt, *])
 ·intro i x xs I _ ab N' aa J
  have hb:=I.b
  have ac:=ym I.m
  refine qR _ _ _ _ _ ?_
  repeat' first|with_reducible intro _|simp only[I.lt,I.w,oH,Y1,Y2,Y3,Y4]|with_reducible refine X ?_ ?_|refine⟨_,_,_,rfl,?_⟩|refine⟨_,rfl,?_⟩|refine And.intro (by first|omega|trivial|(show _=_;rfl)|(with_reducible constructor)<;>first|omega|trivial|rfl) ?_|refine (ih x I.m _ I.r (by omega)) _ _ ?_|fail
  ·refine Qb (J _ (by omega)) ?_;simp [rt, *]
  ·exact ab _ (by omega) λN'' h=>Qb (J N'' (by omega)) (by simp [rt, *])
theorem yE {n a b:Int}:inB n a b=true↔a<=n/\n<=b:=by simp [inB]
def zN (k n:Int):Int:=if k=10 then n+1 else if k=11 then n - 1 else n
mutual
def Tm.lev:Tm->Int->Bool
 | .mk k _ _ _ _ _ l,n=>inB n 0 2&&tE l (zN k n)
def tE:List Tm->Int->Bool
 | [],_=>true
 | t::I,n=>t.lev n&&tE I n
end
theorem sT {k n m:Int} {c1 I J O U Y c8:D} (h:0<=m/\m<=2):rN 145 [.dg 9 (.ag [.j k,c1,I,.j n,J,O,U,Y,c8]),.j m] (zN k m):=λN Q hQ=>by
 refine zAZ N _ m Q λ_=>?_
 rw [i64_in (m+1) (by omega),i64_in (m - 1) (by omega)]
 repeat' first|with_reducible intro _|simp only[Y1,Y2,Y3,Y4]|with_reducible refine X ?_ ?_|refine⟨_,_,_,rfl,?_⟩|refine⟨_,rfl,?_⟩|refine And.intro (by first|omega|trivial|(show _=_;rfl)|(with_reducible constructor)<;>first|omega|trivial|rfl) ?_|fail
 all_goals (refine Qi (hQ _ (by omega)) ?_;simp [zN, *])
theorem zEG:∀ (t:Tm) (d:D),t.Is d->∀ m:Int,vl 100 [.dg 9 d,.j m] (t.lev m):=by
 refine Tm.ind λk nm ot n ty re l ih d hd m N Q hQ=>?_
 obtain ⟨t0,t1,r0,r1,a,es,c,rfl,hh,U,Y⟩:=Tm.is_mk.1 hd
 have hl:=Y.len
 refine zKV N _ m Q λ_=>?_
 cases I:inB m 0 2 with
 | false=>
   repeat' first|with_reducible intro _|simp only[I,Y1,Y2,Y3,Y4]|with_reducible refine X ?_ ?_|refine⟨_,_,_,rfl,?_⟩|refine⟨_,rfl,?_⟩|refine And.intro (by first|omega|trivial|(show _=_;rfl)|(with_reducible constructor)<;>first|omega|trivial|rfl) ?_|refine (yk _ _ _) _ _ ?_|fail
   exact Qb (hQ _ (by omega)) (by simp [Tm.lev,I])
 | true=>
   have hb:=yE.1 I
   have key:=up Y U (λi xs=>∀ (N':Nat),N<=N'->(∀ N'',N'<=N''->Q (tE xs (zN k m)) N'')->uK Q N m i (.ag [.j k,.t nm,.t ot,.j n,t0,t1,r0,r1,.sl a 9 es c]) N') ?_ ?_
   ·repeat' first|with_reducible intro _|simp only[I,Y1,Y2,Y3,Y4]|with_reducible refine X ?_ ?_|refine⟨_,_,_,rfl,?_⟩|refine⟨_,rfl,?_⟩|refine And.intro (by first|omega|trivial|(show _=_;rfl)|(with_reducible constructor)<;>first|omega|trivial|rfl) ?_|refine (yk _ _ _) _ _ ?_|fail
    exact key _ (by omega) λN'' h=>Qb (hQ N'' (by omega)) (by simp [Tm.lev,I])
   ·intro i aa _ N' ab O
    refine zAs _ _ _ _ _ _ ?_
    repeat' first|with_reducible intro _|simp only[aa,Y1,Y2,Y3,Y4]|with_reducible refine X ?_ ?_|refine⟨_,_,_,rfl,?_⟩|refine⟨_,rfl,?_⟩|refine And.intro (by first|omega|trivial|(show _=_;rfl)|(with_reducible constructor)<;>first|omega|trivial|rfl) ?_|fail
    exact Qb (O _ (by omega)) (by simp [tE])
   ·intro i x xs J _ ac N' ab O
    have ae:=J.b
    refine zAs _ _ _ _ _ _ ?_
    repeat' first|with_reducible intro _|simp only[J.lt,J.w,oH,Y1,Y2,Y3,Y4]|with_reducible refine X ?_ ?_|refine⟨_,_,_,rfl,?_⟩|refine⟨_,rfl,?_⟩|refine And.intro (by first|omega|trivial|(show _=_;rfl)|(with_reducible constructor)<;>first|omega|trivial|rfl) ?_|refine (sT hb) _ _ ?_|refine (ih x J.m _ J.r _) _ _ ?_|fail
    ·refine Qb (O _ (by omega)) ?_;simp [tE, *]
    ·exact ac _ (by omega) λN'' h=>Qb (O N'' (by omega)) (by simp [tE, *])
def zDU (t:Tm) (n:Int):Bool:=t.ok&&t.lev n
theorem zEp (t:Tm) (d:D) (hd:t.Is d) (hc:t.cnt<=1073741824) (m:Int):vl 62 [.dg 9 d,.j m] (zDU t m):=λN Q I=>by
 refine zFM N _ m Q λ_=>?_
 repeat' first|with_reducible intro _|simp only[Y1,Y2,Y3,Y4]|with_reducible refine X ?_ ?_|refine⟨_,_,_,rfl,?_⟩|refine⟨_,rfl,?_⟩|refine And.intro (by first|omega|trivial|(show _=_;rfl)|(with_reducible constructor)<;>first|omega|trivial|rfl) ?_|refine (zAh t d hd hc) _ _ ?_|refine (zEG t d hd m) _ _ ?_|fail
 all_goals (refine Qb (I _ (by omega)) ?_;simp [zDU, *])
structure Ctx (g:List Tg) (es:List D):Prop where
 len:es.length<=4611686018427387904
 all:All2 Tg.Is g es
def Tg.ok (g:Tg):Bool:=yb g.nm&&(g.ty.valid&&inB g.lv 0 2)
def zI3:List Tg->Bool
 | []=>true
 | g::I=>g.ok&&zI3 I
def zHW (g:List Tg):Bool:=zI3 g&&decide ((g.length:Int)<=12)
def tg0:Tg:=⟨bytes [],tZero,0⟩
def ua (g:List Tg) (s:ByteArray):Nat->Int
 | 0 => -1
 | k+1=>if (g.getD k tg0).nm=s then k else ua g s k
def yQ (g:List Tg) (s:ByteArray):Int:=ua g s g.length
theorem zE9 (g:List Tg) (s:ByteArray):∀ n:Nat,ua g s n = -1\/(0<=ua g s n/\ua g s n<n)
 | 0=>.inl rfl
 | n+1=>by
   simp only [ua]
   split
   ·exact .inr (by omega)
   ·rcases zE9 g s n with h | h
    ·exact .inl h
    ·exact .inr (by omega)
theorem zU5 {α:Type} {R:α->D->Prop} {l:List α} {es:List D} (h:All2 R l es) (I:es.length<=4611686018427387904) (P:Int->Prop) (U:P (-1))
  (hs:∀ (i:Nat) x,At R l es i x->decide ((i:Int)≥0)=true->IntKind.i64.wrap ((i:Int) - 1)=(i:Int) - 1->P ((i:Int) - 1)->P i):P ((es.length:Int) - 1):=by
 have Y:=h.len
 have key:∀ n:Nat,n<=l.length->P ((n:Int) - 1):=by
  intro n
  induction n with
  | zero=>intro _;exact U
  | succ n ih=>
    intro J
    have O:l[n]?=some l[n]:=oE J
    have e:((n+1:Nat):Int) - 1=n:=by omega
    rw [e]
    exact hs n _ ⟨mG (by omega),⟨by omega,by omega⟩,by rw [i64_in _ (by omega)];simp,h.get O,mD J,O⟩ (mG (by omega)) (i64_in _ (by omega)) (ih (by omega))
 rw [Y]
 exact key _ (oD _)
theorem zIF {α:Type} {l:List α} {i:Nat} {x d:α} (h:l[i]?=some x):l.getD i d=x:=by simp [oA,h]
theorem uH {g:List Tg} {es:List D} (h:Ctx g es) (a:Option Addr) (c:Nat) (s:ByteArray):rN 137 [.sv a 4 es c,.str s] (yQ g s):=λN Q hQ=>by
 have hl:=h.all.len
 have h1:=h.len
 refine zHi N a es c s Q λ_=>?_
 have key:=zU5 h.all h.len (λm=>∀ (N':Nat),N<=N'->(∀ N'',N'<=N''->Q (ua g s (m+1).toNat) N'')->wt Q N a es c s m N') ?_ ?_
 ·rw [i64_in _ (by omega)]
  exact key N (oD _) λN' J=>Qi (hQ N' J) (by rw [yQ,<-hl];congr 1;omega)
 ·intro N' J I
  refine qI _ _ _ _ _ _ _ _ ?_
  repeat' first|with_reducible intro _|simp only[Y1,Y2,Y3,Y4]|with_reducible refine X ?_ ?_|refine⟨_,_,_,rfl,?_⟩|refine⟨_,rfl,?_⟩|refine And.intro (by first|omega|trivial|(show _=_;rfl)|(with_reducible constructor)<;>first|omega|trivial|rfl) ?_|fail
  ·omega
  ·exact I _ (by assumption)
 ·intro i x O U hw ih N' J I
  have hb:=O.b
  obtain ⟨t0,t1,hd,hs,ht⟩:=O.r
  have e1:((i:Int)+1).toNat=i+1:=by omega
  have e2:((i:Int) - 1+1).toNat=i:=by omega
  rw [e1] at I
  simp only [ua,zIF O.g] at I
  rw [e2] at ih
  refine qI _ _ _ _ _ _ _ _ ?_
  repeat' first|with_reducible intro _|simp only[U,hw,oH,hd,Y1,Y2,Y3,Y4]|with_reducible refine X ?_ ?_|refine⟨_,_,_,rfl,?_⟩|refine⟨_,rfl,?_⟩|refine And.intro (by first|omega|trivial|(show _=_;rfl)|(with_reducible constructor)<;>first|omega|trivial|rfl) ?_|fail
  ·rename_i Y _ _;exact Qi (I _ (by omega)) (by rw [if_pos Y])
  ·rename_i Y;exact ih _ (by omega) λN'' h=>Qi (I N'' (by omega)) (by rw [if_neg Y])
theorem Ty.is_cells {t:Ty} {d:D} (h:t.Is d):t.Is (.ag [D.cell d 0,D.cell d 1]):=by
 cases t with
 | mk k l=>obtain ⟨a,es,c,rfl,_,_⟩:=Ty.is_mk.1 h;exact h
def zEM (g:List Tg) (n:Int) (x:Tg) (i:Nat):Bool:=x.ty.base&&(decide (x.lv<=n)&&decide (yQ g x.nm=(i:Int)))
def sG (g:List Tg) (n:Int):List Tg->Nat->List Tg
 | [],_=>[]
 | x::xs,i=>if zEM g n x i then x::sG g n xs (i+1) else sG g n xs (i+1)
def tc (g:List Tg) (n:Int):List Tg:=sG g n g 0
theorem zB6 (g:List Tg) (n:Int):∀ (l:List Tg) (i:Nat),(∀ x∈sG g n l i,x∈l)/\(sG g n l i).length<=l.length
 | [],i=>by simp [sG]
 | x::xs,i=>by
   have h:=zB6 g n xs (i+1)
   simp only [sG]
   split
   ·refine ⟨λy hy=>?_,by simp;exact h.2⟩
    rcases oG.1 hy with rfl | hy
    ·exact nY
    ·exact nq _ (h.1 y hy)
   ·exact ⟨λy hy=>nq _ (h.1 y hy),by have:=h.2;simp;omega⟩
theorem pG {g:List Tg} {es:List D} (h:Ctx g es) (hg:g.length<=1073741824) (hc:∀ x∈g,x.ty.cnt<=1073741824) (a:Option Addr) (c:Nat) (n:Int) :
  ∀ (N:Nat) (Q:QT [.sl 4]),(∀ a' J c' N',N<=N'->Ctx (tc g n) J->Q a' J c' N')->ACalls prog 170 [.sl 4] [.sv a 4 es c,.j n] N Q:=λN Q hQ=>by
 have hl:=h.all.len
 refine zF2 N a es c n Q λ_=>?_
 have key:=up h.all h.len (λi xs=>∀ (r:List D) (m q:Nat) (N':Nat) (done:List Tg),N<=N'->m=r.length->All2 Tg.Is done r->done.length<=i->done++sG g n xs i=tc g n->yK Q N a es c n m q i r q N') ?_ ?_
 ·exact key [] 0 0 N [] (oD _) rfl rfl (oD _) rfl
 ·intro i Y hi r m q N' done aa hm O ab hd
  refine s7 _ _ _ _ _ _ _ _ _ _ _ _ ?_
  repeat' first|with_reducible intro _|simp only[Y,Y1,Y2,Y3,Y4]|with_reducible refine X ?_ ?_|refine⟨_,_,_,rfl,?_⟩|refine⟨_,rfl,?_⟩|refine And.intro (by first|omega|trivial|(show _=_;rfl)|(with_reducible constructor)<;>first|omega|trivial|rfl) ?_|fail
  refine hQ _ _ _ _ (by omega) ⟨by have:=O.len;omega,?_⟩
  simp only [sG,nR] at hd
  rwa [<-hd]
 ·intro i x xs I _ U r m q N' done aa hm O ab hd
  have hb:=I.b
  have ae:=O.len
  obtain ⟨t0,t1,he,hs,ht⟩:=I.r
  simp only [sG] at hd
  refine s7 _ _ _ _ _ _ _ _ _ _ _ _ ?_
  repeat' first|with_reducible intro _|simp only[I.lt,I.w,oH,he,Y1,Y2,Y3,Y4]|with_reducible refine X ?_ ?_|refine⟨_,_,_,rfl,?_⟩|refine⟨_,rfl,?_⟩|refine And.intro (by first|omega|trivial|(show _=_;rfl)|(with_reducible constructor)<;>first|omega|trivial|rfl) ?_|refine (sd _ _ ht) _ _ ?_|refine (uH h a c _) _ _ ?_|refine (zI _ _ ht (hc x I.m)) _ _ ?_|fail
  ·rename_i N2 ah x' N3 ai hx ho _ _
   have ac:zEM g n x i=true:=by simp [zEM, *]
   rw [if_pos ac] at hd
   refine ⟨by unfold zA;simp only [oL,mB];omega,λc2=>U _ _ _ _ (done++[x]) (by omega) rfl (O.snoc ⟨_,_,rfl,hs,Ty.is_cells hx⟩) (by simp;omega) (by simpa using hd)⟩
  all_goals (refine U _ _ _ _ done (by omega) hm O (by omega) ?_;rw [<-hd,if_neg (by simp [zEM, *])])
theorem xH {g:List Tg} {es:List D} (h:Ctx g es) (hg:g.length<=1073741824) (a:Option Addr) (c:Nat) {s:ByteArray} (hs:s.size<=4611686018427387904) {t:Ty} {d:D} (J:t.Is d) (n:Int) :
  ∀ (N:Nat) (Q:QT [.sl 4]),(∀ O I U N',N<=N'->Ctx (g++[⟨s,t,n⟩]) I->Q O I U N')->ACalls prog 112 [.sl 4] [.sv a 4 es c,.str s,.dg 2 d,.j n] N Q:=λN Q Y=>by
 have hl:=h.all.len
 have hb:∀ x:D,zA ([]++es) [x] 56:=λx=>by unfold zA;simp only [oU,oL,mB];omega
 have aa:zA [] es 56:=by unfold zA;simp only [oU];omega
 refine zIl N a es c s d n Q λ_ _=>?_
 repeat' first|with_reducible intro _|simp only[Y1,Y2,Y3,Y4]|with_reducible refine X ?_ ?_|refine⟨_,_,_,rfl,?_⟩|refine⟨_,rfl,?_⟩|refine And.intro (by first|omega|trivial|(show _=_;rfl)|(with_reducible constructor)<;>first|omega|trivial|rfl) ?_|fail
 refine ⟨hb _,λc2=>?_⟩
 repeat' first|with_reducible intro _|simp only[Y1,Y2,Y3,Y4]|with_reducible refine X ?_ ?_|refine⟨_,_,_,rfl,?_⟩|refine⟨_,rfl,?_⟩|refine And.intro (by first|omega|trivial|(show _=_;rfl)|(with_reducible constructor)<;>first|omega|trivial|rfl) ?_|fail
 refine Y _ _ _ _ (by omega) ⟨by simp;omega,?_⟩
 simp only [oU]
 exact h.all.snoc ⟨_,_,rfl,hs,Ty.is_cells J⟩
def zMP (o:Option Ty) (d:D) (b:Bool):Prop:=match o with
 | some t=>b=true/\t.Is d
 | none=>b=false
/-- the kind of what an operation works on -/
def zJQ (s:ByteArray):Int:=if s=bytes [38] then 2 else if s=bytes [124] then 2 else if s=bytes [33] then 2 else 1
def zDB (s:ByteArray):Ty:=if s=bytes [43] then tInt else if s=bytes [45] then tInt else if s=bytes [42] then tInt else tBool
def zQg (w:Int):List Ty->Bool
 | []=>true
 | t::I=>decide (t.k=w)&&zQg w I
def zRb (s:ByteArray) (I:List Ty):Option Ty:=if zQg (zJQ s) I then some (zDB s) else none
theorem zKr {ts:List Ty} {es:List D} (h:All2 Ty.Is ts es) (hlen:es.length<=4611686018427387904) (a:Option Addr) (c:Nat) (s:ByteArray) :
  ∀ (N:Nat) (Q:QT [.ag 2,.bool]),(∀ d b N',N<=N'->zMP (zRb s ts) d b->(∀ x∈d.foot,N<=x)->Q d b N')->ACalls prog 171 [.ag 2,.bool] [.str s,.sv a 2 es c] N Q:=fun N Q hQ=>by
 refine zK2 N s a es c Q fun _=>?_
 have key:ya Q N s a es c (zJQ s) (0:Nat) 0 none [] 0 N:=by
  refine up h hlen (fun i xs=>∀ (N':Nat),N<=N'->zQg (zJQ s) xs=zQg (zJQ s) ts->ya Q N s a es c (zJQ s) i 0 none [] 0 N') ?_ ?_ N (oD _) rfl
  ·intro i hlt _ N' hN' hk
   refine zA5 _ _ _ _ _ _ _ _ _ _ _ _ _ ?_
   have ho:zRb s ts=some (zDB s):=by rw [zRb,<-hk];rfl
   rw [ho] at hQ
   repeat' first|with_reducible intro _|simp only[hlt,Y1,Y2,Y3,Y4]|with_reducible refine X ?_ ?_|refine⟨_,_,_,rfl,?_⟩|refine⟨_,rfl,?_⟩|refine And.intro (by first|omega|trivial|(show _=_;rfl)|(with_reducible constructor)<;>first|omega|trivial|rfl) ?_|refine wW _ _ ?_|refine uF _ _ ?_|fail
   all_goals
    rename_i hx ho _ _ _ _
    refine hQ _ _ _ (by omega) ⟨rfl,?_⟩ fun b hb=>by have:=ho.lo b hb;omega
    have e:zDB s=tInt\/zDB s=tBool:=by unfold zDB;(repeat' split)<;>simp
    first
     | (have e:zDB s=tInt:=by unfold zDB;(repeat' split)<;>first | rfl | contradiction
        rw [e];exact hx)
     | (have e:zDB s=tBool:=by unfold zDB;(repeat' split)<;>first | rfl | contradiction
        rw [e];exact hx)
  ·intro i x xs hat _ ih2 N' hN' hk
   have hb:=hat.b
   cases x with
   | mk k l=>
   obtain ⟨a1,es1,c1,he,_,_⟩:=Ty.is_mk.1 hat.r
   refine zA5 _ _ _ _ _ _ _ _ _ _ _ _ _ ?_
   repeat' first|with_reducible intro _|simp only[hat.lt,hat.w,oH,he,Y1,Y2,Y3,Y4]|with_reducible refine X ?_ ?_|refine⟨_,_,_,rfl,?_⟩|refine⟨_,rfl,?_⟩|refine And.intro (by first|omega|trivial|(show _=_;rfl)|(with_reducible constructor)<;>first|omega|trivial|rfl) ?_|fail
   ·rename_i hne _ _
    refine hQ _ _ _ (by omega) ?_ (by simp [D.foot,zD])
    have:zQg (zJQ s) ts=false:=by rw [<-hk];simp [zQg,Ty.k,hne]
    rw [zRb,this];rfl
   ·rename_i hne
    exact ih2 _ hN' (by rw [<-hk];simp [zQg,Ty.k,hne])
 have e:zJQ s=2\/zJQ s=1:=by unfold zJQ;(repeat' split)<;>simp
 repeat' first|with_reducible intro _|simp only[Y1,Y2,Y3,Y4]|with_reducible refine X ?_ ?_|refine⟨_,_,_,rfl,?_⟩|refine⟨_,rfl,?_⟩|refine And.intro (by first|omega|trivial|(show _=_;rfl)|(with_reducible constructor)<;>first|omega|trivial|rfl) ?_|fail
 all_goals
  first
   | (have e:zJQ s=2:=by unfold zJQ;(repeat' split)<;>first | rfl | contradiction
      rw [e] at key;exact key)
   | (have e:zJQ s=1:=by unfold zJQ;(repeat' split)<;>first | rfl | contradiction
      rw [e] at key;exact key)
/-- the type of a form of parts of these types -/
def y9 (k:Int) (s:ByteArray) (I:List Ty):Option Ty:=
 if k=4 then zRb s I
 else if k=5 then (if (I.getD 0 tZero).k=2/\tu (I.getD 1 tZero) (I.getD 2 tZero) then some (I.getD 1 tZero) else none)
 else if (I.getD 0 tZero).k=3/\tu ((I.getD 0 tZero).as.getD 0 tZero) (I.getD 1 tZero) then some ((I.getD 0 tZero).as.getD 1 tZero) else none
theorem Ty.form_len {k:Int} {l:List Ty} (h:(Ty.mk k l).valid=true):qw k l.length=true:=by
 simp only [Ty.valid,Ty.form,oI] at h
 exact h.2.2
theorem Ty.valid_cnt {t:Ty} (h:t.valid=true):t.cnt<=30:=by
 simp only [Ty.valid,oI,nO] at h
 exact h.1.1
theorem zHU {I:List Ty} {es:List D} (h:All2 Ty.Is I es) (Y:es.length<=4611686018427387904) (a:Option Addr) (c:Nat) {k n:Int} {s:ByteArray} {c2 c4 c5 c6 c7 c8:D}
  (hv:∀ t∈I,t.valid=true) (hk:k=4\/k=5/\I.length=3\/k=7/\I.length=2) :
  ∀ (N:Nat) (Q:QT [.ag 2,.bool]),(∀ d b N',N<=N'->zMP (y9 k s I) d b->(∀ x∈d.foot,x∈zD es\/N<=x)->Q d b N') ->
  ACalls prog 140 [.ag 2,.bool] [.dg 9 (.ag [.j k,.t s,c2,.j n,c4,c5,c6,c7,c8]),.sv a 2 es c] N Q:=λN Q hQ=>by
 refine zHw N _ a es c Q λ_ _=>?_
 rcases hk with rfl | ⟨rfl,hl⟩ | ⟨rfl,hl⟩
 ·repeat' first|with_reducible intro _|simp only[Y1,Y2,Y3,Y4]|with_reducible refine X ?_ ?_|refine⟨_,_,_,rfl,?_⟩|refine⟨_,rfl,?_⟩|refine And.intro (by first|omega|trivial|(show _=_;rfl)|(with_reducible constructor)<;>first|omega|trivial|rfl) ?_|refine (zKr h Y a c s) _ _ ?_|fail
  ·rename_i N1 ac d b N2 ae ho ah _ _ N3 ai
   exact hQ _ _ _ (by omega) (by simpa [y9] using ho) λx hx=>.inr (by have:=ah x hx;omega)
  all_goals (exfalso;omega)
 ·obtain ⟨t0,t1,t2,rfl⟩:∃ t0 t1 t2,I=[t0,t1,t2]:=by
   match I,hl with
   | [t0,t1,t2],_=>exact ⟨t0,t1,t2,rfl⟩
  obtain ⟨d0,_,rfl,h0,d1,_,rfl,h1,d2,_,rfl,h2,rfl⟩:=h
  cases t0 with
  | mk U J=>
  obtain ⟨a0,aj,c0,rfl,ak,aa⟩:=Ty.is_mk.1 h0
  have hq:∀ (b:Bool) (N':Nat),N<=N'->(U=2/\tu t1 t2=b\/¬U=2/\b=false)->Q d1 b N':=λb N' O hb=>by
   refine hQ _ _ _ O ?_ λx hx=>.inl (by simp only [zD,oK];exact .inr (.inl hx))
   rcases hb with ⟨e1,e2⟩ | ⟨e1,rfl⟩
   ·cases b<;>simp [y9,Ty.k,e1,e2,zMP,h1]
   ·simp [y9,Ty.k,e1,zMP]
  repeat' first|with_reducible intro _|simp only[oJ,oM,Y1,Y2,Y3,Y4]|with_reducible refine X ?_ ?_|refine⟨_,_,_,rfl,?_⟩|refine⟨_,rfl,?_⟩|refine And.intro (by first|omega|trivial|(show _=_;rfl)|(with_reducible constructor)<;>first|omega|trivial|rfl) ?_|refine (zi _ _ _ _ h1 h2) _ _ ?_|fail
  all_goals first | (exfalso;omega) | skip
  ·exact hq _ _ (by omega) (.inl ⟨by assumption,rfl⟩)
  ·exact hq _ _ (by omega) (.inr ⟨by assumption,rfl⟩)
 ·obtain ⟨t0,t1,rfl⟩:∃ t0 t1,I=[t0,t1]:=by
   match I,hl with
   | [t0,t1],_=>exact ⟨t0,t1,rfl⟩
  obtain ⟨d0,_,rfl,h0,d1,_,rfl,h1,rfl⟩:=h
  cases t0 with
  | mk U J=>
  obtain ⟨a0,aj,c0,rfl,ak,aa⟩:=Ty.is_mk.1 h0
  have hf:=Ty.form_len (hv _ nY)
  have al:=Ty.valid_cnt (hv _ nY)
  have hz:∀ N',N<=N'->¬(U=3/\tu (J.getD 0 tZero) t1=true)->Q (.ag [.j 0,.sl none 2 [] 0]) false N':=λN' O hb=>by
   refine hQ _ _ _ O ?_ (by simp [D.foot,zD])
   have:y9 7 s [.mk U J,t1]=none:=by
    simp only [y9]
    rw [if_neg (by omega),if_neg (by omega)]
    exact if_neg hb
   rw [this];rfl
  by_cases hk:U=3
  ·subst hk
   have ab:(J.length:Int)=2:=by simpa [qw] using hf
   have ab:J.length=2:=by omega
   obtain ⟨u0,u1,rfl⟩:∃ t0 t1,J=[t0,t1]:=by
    match J,ab with
    | [t0,t1],_=>exact ⟨t0,t1,rfl⟩
   obtain ⟨x0,_,rfl,am,x1,_,rfl,ao,rfl⟩:=aa
   simp only [Ty.cnt,zJ] at al
   repeat' first|with_reducible intro _|simp only[oJ,oM,Y1,Y2,Y3,Y4]|with_reducible refine X ?_ ?_|refine⟨_,_,_,rfl,?_⟩|refine⟨_,rfl,?_⟩|refine And.intro (by first|omega|trivial|(show _=_;rfl)|(with_reducible constructor)<;>first|omega|trivial|rfl) ?_|refine (zi _ _ _ _ am h1) _ _ ?_|refine (zI _ _ ao (by omega)) _ _ ?_|fail
   all_goals first | (exfalso;omega) | skip
   ·rename_i he N1 ac d' N2 ae aq ho _ _ N3 ai
    refine hQ _ _ _ (by omega) ?_ λx hx=>.inr (by have:=ho.lo x hx;omega)
    simp [y9,Ty.k,Ty.as,he,zMP,aq]
   ·rename_i he _ _
    exact hz _ (by omega) (by simp [he])
  ·repeat' first|with_reducible intro _|simp only[oJ,oM,Y1,Y2,Y3,Y4]|with_reducible refine X ?_ ?_|refine⟨_,_,_,rfl,?_⟩|refine⟨_,rfl,?_⟩|refine And.intro (by first|omega|trivial|(show _=_;rfl)|(with_reducible constructor)<;>first|omega|trivial|rfl) ?_|fail
   all_goals first | (exfalso;omega) | skip
   exact hz _ (by omega) λhc=>hk hc.1
def vld (o:Option Ty):Option Ty:=match o with
 | some t=>if t.valid then some t else none
 | none=>none
/-- the type of code, a splice, a run or a lift over this type -/
def yz (k:Int) (t:Ty):Option Ty:=
 if k=10 then some (qx t) else if k=13 then (if t.base then some (qx t) else none) else if t.k=4 then some (t.as.getD 0 tZero) else none
def qo (g:List Tg) (s:ByteArray) (n:Int):Option Ty:=
 if yQ g s<0 then none else if (g.getD (yQ g s).toNat tg0).lv=n then some (g.getD (yQ g s).toNat tg0).ty else none
mutual
def Tm.type:Tm->List Tg->Int->Option Ty
 | .mk k nm ot _ ty re l,g,n=>vld (
   if k=1 then qo g nm n
   else if k=2 then some tInt
   else if k=3 then some tBool
   else if k=6 then (match vo l 0 (g++[⟨nm,ty,n⟩]) n with | some b=>some (uJ ty b) | none=>none)
   else if k=8 then (match vo l 0 g n with | some a=>vo l 1 (g++[⟨nm,a,n⟩]) n | none=>none)
   else if k=9 then (match vo l 0 ((g++[⟨nm,uJ ty re,n⟩])++[⟨ot,ty,n⟩]) n with | some b=>if tu b re then some (uJ ty re) else none | none=>none)
   else if k=10\/k=11\/k=12\/k=13 then (match vo l 0 (if k=12 then tc g n else g) (zN k n) with | some t=>yz k t | none=>none)
   else (match zh l g n with | some I=>y9 k nm I | none=>none))
def vo:List Tm->Nat->List Tg->Int->Option Ty
 | [],_,_,_=>none
 | t::_,0,g,n=>t.type g n
 | _::I,i+1,g,n=>vo I i g n
def zh:List Tm->List Tg->Int->Option (List Ty)
 | [],_,_=>some []
 | t::I,g,n=>match t.type g n with
   | some u=>(match zh I g n with | some us=>some (u::us) | none=>none)
   | none=>none
end
theorem zBV {o:Option Ty} {t:Ty} (h:vld o=some t):o=some t/\t.valid=true:=by
 cases o with
 | none=>cases h
 | some u=>
   simp only [vld] at h
   split at h
   ·cases h;exact ⟨rfl,by assumption⟩
   ·cases h
theorem Tm.type_valid {e:Tm} {g:List Tg} {n:Int} {t:Ty} (h:e.type g n=some t):t.valid=true:=by
 cases e with
 | mk k nm ot m ty re l=>
   simp only [Tm.type] at h
   exact (zBV h).2
theorem zGW:∀ {l:List Tm} {g:List Tg} {n:Int} {I:List Ty},zh l g n=some I->I.length=l.length/\∀ t∈I,t.valid=true
 | [],g,n,I,h=>by simp [zh] at h;subst h;simp
 | e :: es,g,n,I,h=>by
   simp only [zh] at h
   split at h
   ·rename_i u O
    split at h
    ·rename_i us J
     cases h
     have:=zGW J
     refine ⟨by simp [this.1],λt ht=>?_⟩
     rcases oG.1 ht with rfl | ht
     ·exact Tm.type_valid O
     ·exact this.2 t ht
    ·cases h
   ·cases h
/-- what typing may count on -/
structure Pre (g:List Tg) (e:Tm) (n:Int):Prop where
 ok:e.ok=true
 lev:e.lev n=true
 len:g.length+2*e.cnt<=1073741824
 ty:∀ x∈g,x.ty.cnt<=64
/-- the facts of a well-formed node -/
structure Node (k:Int) (nm ot:ByteArray) (n:Int) (ty re:Ty) (l:List Tm):Prop where
 f:zK k nm ot n ty re=true
 ar:(l.length:Int)=zCx k nm
 sub:∀ x∈l,x.ok=true
theorem zJX:∀ {l:List Tm} {x:Tm},rt l=true->x∈l->x.ok=true
 | t::I,x,h,hx=>by
   simp only [rt,oI] at h
   rcases oG.1 hx with rfl | hx
   ·exact h.1
   ·exact zJX h.2 hx
theorem zGs:∀ {l:List Tm} {n:Int} {x:Tm},tE l n=true->x∈l->x.lev n=true
 | t::I,n,x,h,hx=>by
   simp only [tE,oI] at h
   rcases oG.1 hx with rfl | hx
   ·exact h.1
   ·exact zGs h.2 hx
theorem yW {k:Int} {nm ot:ByteArray} {n:Int} {ty re:Ty} {l:List Tm} (h:(Tm.mk k nm ot n ty re l).ok=true):Node k nm ot n ty re l:=by
 simp only [Tm.ok,oI] at h
 exact ⟨h.2.1,by simpa using h.2.2,λx I=>zJX h.1 I⟩
theorem Node.vt {k n:Int} {nm ot:ByteArray} {ty re:Ty} {l:List Tm} (h:Node k nm ot n ty re l) (I:k=6\/k=9):ty.valid=true:=by
 have:=h.f
 have e:qS k=true:=by rcases I with rfl | rfl<;>rfl
 simp only [zK,oI,e] at this
 simpa using this.1
theorem Node.vr {k n:Int} {nm ot:ByteArray} {ty re:Ty} {l:List Tm} (h:Node k nm ot n ty re l) (I:k=9):re.valid=true:=by
 have:=h.f
 subst I
 simp only [zK,oI] at this
 simpa using this.2.2.1
theorem zIp {k:Int} {nm:ByteArray} (h:0<=zCx k nm):k=1\/k=2\/k=3\/k=4\/k=5\/k=6\/k=7\/k=8\/k=9\/k=10\/k=11\/k=12\/k=13:=by
 unfold zCx at h
 (repeat' split at h)<;>omega
theorem Ty.cnt_pos (t:Ty):1<=t.cnt:=by cases t;simp only [Ty.cnt];omega
theorem Pre.sub {g g':List Tg} {k:Int} {nm ot:ByteArray} {m:Int} {ty re:Ty} {l:List Tm} {n:Int} {x:Tm} (h:Pre g (.mk k nm ot m ty re l) n) (I:x∈l) (U:g'.length<=g.length+2) (J:∀ y∈g',y.ty.cnt<=64):Pre g' x (zN k n):=by
 have O:=h.len
 have Y:=ym I
 have h3:=ty.cnt_pos
 have h4:=re.cnt_pos
 simp only [Tm.cnt] at O
 refine ⟨(yW h.ok).sub x I,?_,by omega,J⟩
 have:=h.lev
 simp only [Tm.lev,oI] at this
 exact zGs this.2 I
theorem Pre.lv {g:List Tg} {e:Tm} {n:Int} (h:Pre g e n):0<=n/\n<=2:=by
 have:=h.lev
 cases e
 simp only [Tm.lev,oI] at this
 exact yE.1 this.1
theorem rS {g:List Tg} (h:∀ y∈g,y.ty.cnt<=64) {x:Tg} (I:x.ty.cnt<=64):∀ y∈g++[x],y.ty.cnt<=64:=λy hy=>by
 rcases oK.1 hy with hy | hy
 ·exact h y hy
 ·rw [nG] at hy;subst hy;exact I
theorem zIb (e:Tm) (g:List Tg) (n:Int):((e.type g n).getD tZero).cnt<=30:=by
 cases h:e.type g n with
 | none=>simp [tZero,Ty.cnt,zJ]
 | some t=>simpa using Ty.valid_cnt (Tm.type_valid h)
/-- returns this type and true, or the zero type and false -/
def zTf (f:FuncId) (args:List PV) (o:Option Ty):Prop:=∀ (N:Nat) (Q:QT [.ag 2,.bool]),(∀ d N',N<=N'->(o.getD tZero).Is d->Q d o.isSome N')->ACalls prog f [.ag 2,.bool] args N Q
/-- returns this type and true, or false -/
def zTn (f:FuncId) (args:List PV) (o:Option Ty):Prop:=∀ (N:Nat) (Q:QT [.ag 2,.bool]),(∀ d N',N<=N'->(∀ t,o=some t->t.Is d)->Q d o.isSome N')->ACalls prog f [.ag 2,.bool] args N Q
def IH (l:List Tm):Prop:=∀ x∈l,∀ d,x.Is d->∀ g es a c n,Pre g x n->Ctx g es->zTf 43 [.sv a 4 es c,.dg 9 d,.j n] (x.type g n)
theorem zRj {nm ot:ByteArray} {m n:Int} {ty re:Ty} {e0:Tm} {t0 t1 r0 r1 d0:D} {a1 a:Option Addr} {c1 c:Nat} {g:List Tg} {es:List D} (ih:IH [e0]) (O:Tm.Hd nm ot ty re t0 t1 r0 r1) (h0:e0.Is d0)
  (pre:Pre g (.mk 6 nm ot m ty re [e0]) n) (U:Ctx g es) :
  zTn 138 [.sv a 4 es c,.dg 9 (.ag [.j 6,.t nm,.t ot,.j m,t0,t1,r0,r1,.sl a1 9 [d0] c1]),.j n] (match e0.type (g++[⟨nm,ty,n⟩]) n with | some b=>some (uJ ty b) | none=>none):=λN Q J=>by
 have Y:=pre.len
 have hv:=Ty.valid_cnt ((yW pre.ok).vt (.inl rfl))
 have hp:Pre (g++[⟨nm,ty,n⟩]) e0 n:=by simpa [zN] using pre.sub (x:=e0) (by simp) (g':=g++[⟨nm,ty,n⟩]) (by simp) (rS pre.ty (show ty.cnt<=64 by omega))
 have hc:=zIb e0 (g++[⟨nm,ty,n⟩]) n
 refine sP N a es c _ n Q λ_ _=>?_
 repeat' first|with_reducible intro _|simp only[oJ,oM,Y1,Y2,Y3,Y4]|with_reducible refine X ?_ ?_|refine⟨_,_,_,rfl,?_⟩|refine⟨_,rfl,?_⟩|refine And.intro (by first|omega|trivial|(show _=_;rfl)|(with_reducible constructor)<;>first|omega|trivial|rfl) ?_|refine (xH U (by omega) a c O.nm O.ty n) _ _ ?_|refine (ih e0 nY d0 h0 (g++[⟨nm,ty,n⟩]) _ _ _ n hp (by assumption)) _ _ ?_|refine (rY ty ((e0.type (g++[⟨nm,ty,n⟩]) n).getD tZero) _ _ O.ty (by assumption) (by omega) (by omega)) _ _ ?_|fail
 all_goals first | (exfalso;omega) | skip
 rename_i x1 N6 aa I ho _ _ N7 ab
 cases h:e0.type (g++[⟨nm,ty,n⟩]) n with
 | none=>rw [h] at J;exact J _ _ (by omega) (by simp)
 | some b=>rw [h] at J I;exact J _ _ (by omega) (by simpa using I)
theorem zRe {nm ot:ByteArray} {m n:Int} {ty re:Ty} {e0 e1:Tm} {t0 t1 r0 r1 d0 d1:D} {a1 a:Option Addr} {c1 c:Nat} {g:List Tg} {es:List D} (Y:IH [e0,e1]) (hh:Tm.Hd nm ot ty re t0 t1 r0 r1) (h0:e0.Is d0) (h1:e1.Is d1)
  (pre:Pre g (.mk 8 nm ot m ty re [e0,e1]) n) (J:Ctx g es) :
  zTn 138 [.sv a 4 es c,.dg 9 (.ag [.j 8,.t nm,.t ot,.j m,t0,t1,r0,r1,.sl a1 9 [d0,d1] c1]),.j n] (match e0.type g n with | some b=>e1.type (g++[⟨nm,b,n⟩]) n | none=>none):=λN Q O=>by
 have aa:=pre.len
 have hp:Pre g e0 n:=by simpa [zN] using pre.sub (x:=e0) (by simp) (g':=g) (by simp) pre.ty
 have hc:=zIb e0 g n
 have I:=Y e0 nY d0 h0 g es a c n hp J
 refine sP N a es c _ n Q λ_ _=>?_
 cases h:e0.type g n with
 | none=>
   rw [h] at O I
   repeat' first|with_reducible intro _|simp only[oJ,oM,md,Y1,Y2,Y3,Y4]|with_reducible refine X ?_ ?_|refine⟨_,_,_,rfl,?_⟩|refine⟨_,rfl,?_⟩|refine And.intro (by first|omega|trivial|(show _=_;rfl)|(with_reducible constructor)<;>first|omega|trivial|rfl) ?_|refine I _ _ ?_|fail
   all_goals first | (exfalso;omega) | skip
   exact O _ _ (by omega) (by simp)
 | some b=>
   rw [h] at O hc I
   dsimp only at O
   have U:Pre (g++[⟨nm,b,n⟩]) e1 n:=by simpa [zN] using pre.sub (x:=e1) (by simp) (g':=g++[⟨nm,b,n⟩]) (by simp) (rS pre.ty (by simpa using oR hc (by omega)))
   repeat' first|with_reducible intro _|simp only[oJ,oM,mf,Y1,Y2,Y3,Y4]|with_reducible refine X ?_ ?_|refine⟨_,_,_,rfl,?_⟩|refine⟨_,rfl,?_⟩|refine And.intro (by first|omega|trivial|(show _=_;rfl)|(with_reducible constructor)<;>first|omega|trivial|rfl) ?_|refine I _ _ ?_|refine (xH J (by omega) a c hh.nm (t:=b) (by assumption) n) _ _ ?_|refine (Y e1 (by simp) d1 h1 (g++[⟨nm,b,n⟩]) _ _ _ n U (by assumption)) _ _ ?_|fail
   all_goals first | (exfalso;omega) | skip
   rename_i hx _ _ _ _
   refine O _ _ (by omega) λt ht=>?_
   rw [ht] at hx
   exact hx
theorem zSM {nm ot:ByteArray} {m n:Int} {ty re:Ty} {e0:Tm} {t0 t1 r0 r1 d0:D} {a1 a:Option Addr} {c1 c:Nat} {g:List Tg} {es:List D} (ih:IH [e0]) (I:Tm.Hd nm ot ty re t0 t1 r0 r1) (h0:e0.Is d0)
  (pre:Pre g (.mk 9 nm ot m ty re [e0]) n) (U:Ctx g es) :
  zTn 138 [.sv a 4 es c,.dg 9 (.ag [.j 9,.t nm,.t ot,.j m,t0,t1,r0,r1,.sl a1 9 [d0] c1]),.j n]
   (match e0.type ((g++[⟨nm,uJ ty re,n⟩])++[⟨ot,ty,n⟩]) n with | some b=>if tu b re then some (uJ ty re) else none | none=>none):=λN Q J=>by
 have ab:=pre.len
 have hv:=Ty.valid_cnt ((yW pre.ok).vt (.inr rfl))
 have hr:=Ty.valid_cnt ((yW pre.ok).vr rfl)
 have aa:=rS (x:=⟨nm,uJ ty re,n⟩) pre.ty (show (uJ ty re).cnt<=64 by simp only [uJ,Ty.cnt,zJ];omega)
 have hp:=pre.sub (x:=e0) (by simp) (g':=(g++[⟨nm,uJ ty re,n⟩])++[⟨ot,ty,n⟩]) (by simp) (rS aa (show ty.cnt<=64 by omega))
 rw [show zN 9 n=n by simp [zN]] at hp
 have ac:1<=(Tm.mk 9 nm ot m ty re [e0]).cnt:=by simp only [Tm.cnt];omega
 have Y:(g++[⟨nm,uJ ty re,n⟩]:List Tg).length<=1073741824:=by rw [oL,mB];omega
 have O:∀ es a c,Ctx ((g++[⟨nm,uJ ty re,n⟩])++[⟨ot,ty,n⟩]) es->zTf 43 [.sv a 4 es c,.dg 9 d0,.j n] (e0.type ((g++[⟨nm,uJ ty re,n⟩])++[⟨ot,ty,n⟩]) n):=λes a c hc=>ih e0 nY d0 h0 _ es a c n hp hc
 refine sP N a es c _ n Q λ_ _=>?_
 cases h:e0.type ((g++[⟨nm,uJ ty re,n⟩])++[⟨ot,ty,n⟩]) n with
 | none=>
   rw [h] at J O
   dsimp only at J
   repeat' first|with_reducible intro _|simp only[oJ,oM,md,Y1,Y2,Y3,Y4]|with_reducible refine X ?_ ?_|refine⟨_,_,_,rfl,?_⟩|refine⟨_,rfl,?_⟩|refine And.intro (by first|omega|trivial|(show _=_;rfl)|(with_reducible constructor)<;>first|omega|trivial|rfl) ?_|refine (rY ty re _ _ I.ty I.re (by omega) (by omega)) _ _ ?_|refine (xH U (by omega) a c I.nm (t:=uJ ty re) (by assumption) n) _ _ ?_|refine (xH (g:=g++[⟨nm,uJ ty re,n⟩]) (by assumption) Y _ _ I.ot I.ty n) _ _ ?_|refine (O _ _ _ (by assumption)) _ _ ?_|fail
   all_goals first | (exfalso;omega) | skip
   exact J _ _ (by omega) (by simp)
 | some b=>
   rw [h] at J O
   dsimp only at J
   repeat' first|with_reducible intro _|simp only[oJ,oM,mf,Y1,Y2,Y3,Y4]|with_reducible refine X ?_ ?_|refine⟨_,_,_,rfl,?_⟩|refine⟨_,rfl,?_⟩|refine And.intro (by first|omega|trivial|(show _=_;rfl)|(with_reducible constructor)<;>first|omega|trivial|rfl) ?_|refine (rY ty re _ _ I.ty I.re (by omega) (by omega)) _ _ ?_|refine (xH U (by omega) a c I.nm (t:=uJ ty re) (by assumption) n) _ _ ?_|refine (xH (g:=g++[⟨nm,uJ ty re,n⟩]) (by assumption) Y _ _ I.ot I.ty n) _ _ ?_|refine (O _ _ _ (by assumption)) _ _ ?_|refine (zi b re _ _ (by assumption) I.re) _ _ ?_|fail
   all_goals first | (exfalso;omega) | skip
   cases he:tu b re with
   | false=>rw [he] at J;exact J _ _ (by omega) (by simp)
   | true=>rw [he] at J;exact J _ _ (by omega) λt ht=>by cases ht;assumption
/-- code, splices, runs and lifts -/
theorem zRq {k:Int} {nm ot:ByteArray} {m n:Int} {ty re:Ty} {e0:Tm} {t0 t1 r0 r1 d0:D} {a1 a:Option Addr} {c1 c:Nat} {g:List Tg} {es:List D} (hk:k=10\/k=11\/k=12\/k=13) (ih:IH [e0]) (h0:e0.Is d0)
  (pre:Pre g (.mk k nm ot m ty re [e0]) n) (ah:Ctx g es) :
  zTn 139 [.sv a 4 es c,.dg 9 (.ag [.j k,.t nm,.t ot,.j m,t0,t1,r0,r1,.sl a1 9 [d0] c1]),.j n]
   (match e0.type (if k=12 then tc g n else g) (zN k n) with | some t=>yz k t | none=>none):=λN Q I=>by
 have ao:=pre.len
 have ai:=zB6 g n g 0
 have hp:=pre.sub (x:=e0) (by simp) (g':=if k=12 then tc g n else g) (by split<;>simp [tc];omega) (by split;exact λy hy=>pre.ty y (ai.1 y hy);exact pre.ty)
 have aa:∀ es a c,Ctx (if k=12 then tc g n else g) es->zTf 43 [.sv a 4 es c,.dg 9 d0,.j (zN k n)] (e0.type (if k=12 then tc g n else g) (zN k n)):=λes a c hc=>ih e0 nY d0 h0 _ es a c _ hp hc
 have aj:∀ x∈g,x.ty.cnt<=1073741824:=λx hx=>oR (pre.ty x hx) (by omega)
 refine zGE N a es c _ n Q λ_ _=>?_
 cases h:e0.type (if k=12 then tc g n else g) (zN k n) with
 | none=>
   rw [h] at I aa
   dsimp only at I
   repeat' first|with_reducible intro _|simp only[oJ,oM,md,Y1,Y2,Y3,Y4]|with_reducible refine X ?_ ?_|refine⟨_,_,_,rfl,?_⟩|refine⟨_,rfl,?_⟩|refine And.intro (by first|omega|trivial|(show _=_;rfl)|(with_reducible constructor)<;>first|omega|trivial|rfl) ?_|refine (pG ah (by omega) aj a c n) _ _ ?_|refine (sT pre.lv) _ _ ?_|refine (aa _ _ _ (by first | (rw [if_pos (by assumption)];assumption) | (rw [if_neg (by assumption)];assumption))) _ _ ?_|fail
   all_goals first | (exfalso;omega) | skip
   all_goals exact I _ _ (by omega) (by simp)
 | some t=>
   have hv:=Tm.type_valid h
   rw [h] at I aa
   dsimp only at I
   cases t with
   | mk O J=>
   have hf:=Ty.form_len hv
   have ak:=Ty.valid_cnt hv
   repeat' first|with_reducible intro _|simp only[oJ,oM,mf,Y1,Y2,Y3,Y4]|with_reducible refine X ?_ ?_|refine⟨_,_,_,rfl,?_⟩|refine⟨_,rfl,?_⟩|refine And.intro (by first|omega|trivial|(show _=_;rfl)|(with_reducible constructor)<;>first|omega|trivial|rfl) ?_|refine (pG ah (by omega) aj a c n) _ _ ?_|refine (sT pre.lv) _ _ ?_|refine (aa _ _ _ (by first | (rw [if_pos (by assumption)];assumption) | (rw [if_neg (by assumption)];assumption))) _ _ ?_|refine (zIU (.mk O J) _ (by assumption) (by omega)) _ _ ?_|refine (sd (.mk O J) _ (by assumption)) _ _ ?_|fail
   all_goals first | (exfalso;omega) | skip
   ·rename_i hd _ _ U Y
    obtain ⟨a2,al,c2,rfl,am,ab⟩:=Ty.is_mk.1 hd
    by_cases h4:O=4
    ·subst h4
     have ac:(J.length:Int)=1:=by simpa [qw] using hf
     obtain ⟨u,rfl⟩:∃ u,J=[u]:=by
      match J,ac with
      | [u],_=>exact ⟨u,rfl⟩
      | [],h=>simp at h
      | _::_::_,h=>simp at h;omega
     obtain ⟨x0,_,rfl,ae,rfl⟩:=ab
     simp only [Ty.cnt,zJ] at ak
     have hs:yz k (.mk 4 [u])=some u:=by simp [yz,U,Y,Ty.k,Ty.as]
     rw [hs] at I
     repeat' first|with_reducible intro _|simp only[oJ,oM,Y1,Y2,Y3,Y4]|with_reducible refine X ?_ ?_|refine⟨_,_,_,rfl,?_⟩|refine⟨_,rfl,?_⟩|refine And.intro (by first|omega|trivial|(show _=_;rfl)|(with_reducible constructor)<;>first|omega|trivial|rfl) ?_|refine (zI u _ ae (by omega)) _ _ ?_|fail
     all_goals first | (exfalso;omega) | skip
     exact I _ _ (by omega) λt ht=>by cases ht;assumption
    ·have hs:yz k (.mk O J)=none:=by simp [yz,U,Y,Ty.k,h4]
     rw [hs] at I
     repeat' first|with_reducible intro _|simp only[oJ,oM,Y1,Y2,Y3,Y4]|with_reducible refine X ?_ ?_|refine⟨_,_,_,rfl,?_⟩|refine⟨_,rfl,?_⟩|refine And.intro (by first|omega|trivial|(show _=_;rfl)|(with_reducible constructor)<;>first|omega|trivial|rfl) ?_|fail
     all_goals first | (exfalso;omega) | skip
     exact I _ _ (by omega) (by simp)
   ·have hs:yz k (.mk O J)=some (qx (.mk O J)):=by rw [yz,if_pos (by assumption)]
    rw [hs] at I
    exact I _ _ (by omega) λt ht=>by cases ht;assumption
   ·have hs:yz k (.mk O J)=if (Ty.mk O J).base then some (qx (.mk O J)) else none:=by rw [yz,if_neg (by assumption),if_pos (by assumption)]
    rw [hs] at I
    cases hb:(Ty.mk O J).base with
    | false=>rw [hb] at I;exact I _ _ (by omega) (by simp)
    | true=>rw [hb] at I;exact I _ _ (by omega) λt ht=>by cases ht;assumption
   ·rename_i hd _ _ U Y
    obtain ⟨a2,al,c2,rfl,am,ab⟩:=Ty.is_mk.1 hd
    by_cases h4:O=4
    ·subst h4
     have ac:(J.length:Int)=1:=by simpa [qw] using hf
     obtain ⟨u,rfl⟩:∃ u,J=[u]:=by
      match J,ac with
      | [u],_=>exact ⟨u,rfl⟩
      | [],h=>simp at h
      | _::_::_,h=>simp at h;omega
     obtain ⟨x0,_,rfl,ae,rfl⟩:=ab
     simp only [Ty.cnt,zJ] at ak
     have hs:yz k (.mk 4 [u])=some u:=by simp [yz,U,Y,Ty.k,Ty.as]
     rw [hs] at I
     repeat' first|with_reducible intro _|simp only[oJ,oM,Y1,Y2,Y3,Y4]|with_reducible refine X ?_ ?_|refine⟨_,_,_,rfl,?_⟩|refine⟨_,rfl,?_⟩|refine And.intro (by first|omega|trivial|(show _=_;rfl)|(with_reducible constructor)<;>first|omega|trivial|rfl) ?_|refine (zI u _ ae (by omega)) _ _ ?_|fail
     all_goals first | (exfalso;omega) | skip
     exact I _ _ (by omega) λt ht=>by cases ht;assumption
    ·have hs:yz k (.mk O J)=none:=by simp [yz,U,Y,Ty.k,h4]
     rw [hs] at I
     repeat' first|with_reducible intro _|simp only[oJ,oM,Y1,Y2,Y3,Y4]|with_reducible refine X ?_ ?_|refine⟨_,_,_,rfl,?_⟩|refine⟨_,rfl,?_⟩|refine And.intro (by first|omega|trivial|(show _=_;rfl)|(with_reducible constructor)<;>first|omega|trivial|rfl) ?_|fail
     all_goals first | (exfalso;omega) | skip
     exact I _ _ (by omega) (by simp)
/-- the type of a term ahead of the test that it is valid -/
def Tm.raw:Tm->List Tg->Int->Option Ty
 | .mk k nm ot _ ty re l,g,n=>
   if k=1 then qo g nm n
   else if k=2 then some tInt
   else if k=3 then some tBool
   else if k=6 then (match vo l 0 (g++[⟨nm,ty,n⟩]) n with | some b=>some (uJ ty b) | none=>none)
   else if k=8 then (match vo l 0 g n with | some a=>vo l 1 (g++[⟨nm,a,n⟩]) n | none=>none)
   else if k=9 then (match vo l 0 ((g++[⟨nm,uJ ty re,n⟩])++[⟨ot,ty,n⟩]) n with | some b=>if tu b re then some (uJ ty re) else none | none=>none)
   else if k=10\/k=11\/k=12\/k=13 then (match vo l 0 (if k=12 then tc g n else g) (zN k n) with | some t=>yz k t | none=>none)
   else (match zh l g n with | some I=>y9 k nm I | none=>none)
theorem Tm.type_eq (e:Tm) (g:List Tg) (n:Int):e.type g n=vld (e.raw g n):=by
 cases e;simp only [Tm.type,Tm.raw]<;>rfl
theorem zQ7 {a:Option Addr} {r:List D} {d:D} {N:Nat} (ha:ApA a r) (hb:vI N [a]) (h:∀ x∈d.foot,x∈zD r\/N<=x):Off [a] d:=by
 intro a' I ad J O
 rw [nG] at I
 subst I
 rcases h _ O with h | h
 ·have:∀ r:List D,ad.block∈zD r->∃ d∈r,ad.block∈d.foot:=by
   intro r
   induction r with
   | nil=>intro h;simp [zD] at h
   | cons x r ih=>
     intro h
     simp only [zD,oK] at h
     rcases h with h | h
     ·exact ⟨x,by simp,h⟩
     ·obtain ⟨d,hd,O⟩:=ih h
      exact ⟨d,by simp [hd],O⟩
  obtain ⟨d',U,Y⟩:=this r h
  exact ha ad J d' U Y
 ·have:=hb a' (by simp) ad J
  omega
theorem zPF {k:Int} {nm ot:ByteArray} {m n:Int} {ty re:Ty} {l:List Tm} {t0 t1 r0 r1:D} {es1:List D} {a1 a:Option Addr} {c1 c:Nat} {g:List Tg} {es:List D} (hk:k=4\/k=5\/k=7) (ih:IH l) (h0:All2 Tm.Is l es1) (hl1:es1.length<=4611686018427387904)
  (pre:Pre g (.mk k nm ot m ty re l) n) (ctx:Ctx g es) (N:Nat) (Q:QT [.ag 2,.bool]) (hQ:∀ d N',N<=N'->(∀ t,Tm.raw (.mk k nm ot m ty re l) g n=some t->t.Is d)->Q d (Tm.raw (.mk k nm ot m ty re l) g n).isSome N') :
  xS Q N a es c n 0 0 (0:Nat) (.ag [.j k,.t nm,.t ot,.j m,t0,t1,r0,r1,.sl a1 9 es1 c1]) 0 none [] 0 [] 0 N:=by
 have hlen:=pre.len
 have hcl:=xK l
 have hln:=h0.len
 have nd:=yW pre.ok
 simp only [Tm.cnt] at hlen
 have hraw:Tm.raw (.mk k nm ot m ty re l) g n=(match zh l g n with | some ts=>y9 k nm ts | none=>none):=by
  simp only [Tm.raw]
  rw [if_neg (by omega),if_neg (by omega),if_neg (by omega),if_neg (by omega),if_neg (by omega),if_neg (by omega),if_neg (by omega)]
 rw [hraw] at hQ
 refine up h0 hl1 (fun i xs=>∀ (r:List D) (q p:Nat) (N':Nat) (ts:List Ty),N<=N'->p=r.length->All2 Ty.Is ts r->ts.length=i->(∀ t∈ts,t.valid=true) ->
  zh l g n=(match zh xs g n with | some us=>some (ts++us) | none=>none) ->
  xS Q N a es c n p q i (.ag [.j k,.t nm,.t ot,.j m,t0,t1,r0,r1,.sl a1 9 es1 c1]) 0 none [] 0 r q N') ?_ ?_ [] 0 0 N [] (oD _) rfl rfl rfl (by simp) ?_
 ·intro i hlt hi r q p N' ts hN' hp hr hti hv hargs
  have hrl:=hr.len
  simp only [zh,nR] at hargs
  rw [hargs] at hQ
  dsimp only at hQ
  have hk2:k=4\/k=5/\ts.length=3\/k=7/\ts.length=2:=by
   have:=nd.ar
   rcases hk with rfl | rfl | rfl
   ·exact .inl rfl
   ·exact .inr (.inl ⟨rfl, by have:(l.length:Int)=3:=this
                              omega⟩)
   ·exact .inr (.inr ⟨rfl, by have:(l.length:Int)=2:=this
                              omega⟩)
  refine sm _ _ _ _ _ _ _ _ _ _ _ _ _ _ _ _ _ ?_
  repeat' first|with_reducible intro _|simp only[hlt,Y1,Y2,Y3,Y4]|with_reducible refine X ?_ ?_|refine⟨_,_,_,rfl,?_⟩|refine⟨_,rfl,?_⟩|refine And.intro (by first|omega|trivial|(show _=_;rfl)|(with_reducible constructor)<;>first|omega|trivial|rfl) ?_|refine (zHU hr (by omega) _ _ hv hk2) _ _ ?_|fail
  rename_i a2 hap hoff N4 hN4 hba d b N5 hN5 ho hfo _
  refine ⟨zQ7 hap hba hfo,fun _ N6 hN6=>?_⟩
  cases h:y9 k nm ts with
  | none=>rw [h] at ho hQ;simp only [zMP] at ho;subst ho;exact hQ _ _ (by omega) (by simp)
  | some t=>rw [h] at ho hQ;obtain ⟨rfl,ho⟩:=ho;exact hQ _ _ (by omega) fun t ht=>by cases ht;exact ho
 ·intro i x xs hat _ ih2 r q p N' ts hN' hp hr hti hv hargs
  have hb:=hat.b
  have hrl:=hr.len
  have hpx:=pre.sub hat.m (g':=g) (by omega) pre.ty
  rw [show zN k n=n by simp only [zN];rw [if_neg (by omega),if_neg (by omega)]] at hpx
  have ih0:=ih x hat.m _ hat.r g es a c n hpx ctx
  simp only [zh] at hargs
  refine sm _ _ _ _ _ _ _ _ _ _ _ _ _ _ _ _ _ ?_
  cases h:x.type g n with
  | none=>
    rw [h] at ih0 hargs
    dsimp only at hargs
    rw [hargs] at hQ
    repeat' first|with_reducible intro _|simp only[hat.lt,hat.w,oH,md,Y1,Y2,Y3,Y4]|with_reducible refine X ?_ ?_|refine⟨_,_,_,rfl,?_⟩|refine⟨_,rfl,?_⟩|refine And.intro (by first|omega|trivial|(show _=_;rfl)|(with_reducible constructor)<;>first|omega|trivial|rfl) ?_|refine ih0 _ _ ?_|fail
    all_goals first | (exfalso;omega) | skip
    exact hQ _ _ (by omega) (by simp)
  | some t=>
    have hvt:=Tm.type_valid h
    rw [h] at ih0 hargs
    dsimp only at hargs
    repeat' first|with_reducible intro _|simp only[hat.lt,hat.w,oH,mf,Y1,Y2,Y3,Y4]|with_reducible refine X ?_ ?_|refine⟨_,_,_,rfl,?_⟩|refine⟨_,rfl,?_⟩|refine And.intro (by first|omega|trivial|(show _=_;rfl)|(with_reducible constructor)<;>first|omega|trivial|rfl) ?_|refine ih0 _ _ ?_|fail
    all_goals first | (exfalso;omega) | skip
    rename_i N2 hN2 d N3 hN3 hd _ _
    refine ⟨by unfold zA;simp only [oL,mB];omega,fun c2=>ih2 _ _ _ _ (ts++[t]) (by omega) rfl (hr.snoc hd) (by simp [hti]) (fun u hu=>?_) ?_⟩
    ·rcases oK.1 hu with hu | hu
     ·exact hv u hu
     ·rw [nG] at hu;subst hu;exact hvt
    ·rw [hargs];cases zh xs g n<;>simp
 ·cases zh l g n<;>simp
theorem zCo {α:Type} {l:List α} (h:l.length=1):∃ a,l=[a]:=by
 match l,h with
 | [a],_=>exact ⟨a,rfl⟩
theorem zLp {α:Type} {l:List α} (h:l.length=2):∃ a b,l=[a,b]:=by
 match l,h with
 | [a,b],_=>exact ⟨a,b,rfl⟩
theorem zHZ {e:Tm} {d:D} (he:e.Is d) (ih:match e with | .mk _ _ _ _ _ _ l=>IH l) {g:List Tg} {es:List D} {a:Option Addr} {c:Nat} {n:Int} (pre:Pre g e n) (ctx:Ctx g es) :
  zTn 92 [.sv a 4 es c,.dg 9 d,.j n] (e.raw g n):=fun N Q hQ=>by
 cases e with
 | mk k nm ot m ty re l=>
 dsimp only at ih
 obtain ⟨t0,t1,r0,r1,a1,es1,c1,rfl,hh,hlen1,hes1⟩:=Tm.is_mk.1 he
 have hl:=hes1.len
 have hl2:=ctx.all.len
 have nd:=yW pre.ok
 have har:=nd.ar
 have hkk:=zIp (k:=k) (nm:=nm) (by omega)
 refine zH0 N a es c _ n Q fun _ _=>?_
 rcases hkk with rfl | rfl | rfl | h | h | rfl | h | rfl | rfl | h | h | h | h
 ·-- a variable
  have hraw:Tm.raw (.mk 1 nm ot m ty re l) g n=qo g nm n:=by simp [Tm.raw]
  rw [hraw] at hQ
  rcases zE9 g nm g.length with hlx | hlx
  ·have hlx:yQ g nm = -1:=hlx
   have:qo g nm n=none:=by simp [qo,hlx]
   rw [this] at hQ
   repeat' first|with_reducible intro _|simp only[hlx,Y1,Y2,Y3,Y4]|with_reducible refine X ?_ ?_|refine⟨_,_,_,rfl,?_⟩|refine⟨_,rfl,?_⟩|refine And.intro (by first|omega|trivial|(show _=_;rfl)|(with_reducible constructor)<;>first|omega|trivial|rfl) ?_|refine (uH ctx a c nm) _ _ ?_|fail
   all_goals first | (exfalso;omega) | skip
   exact hQ _ _ (by omega) (by simp)
  ·have hlx:0<=yQ g nm/\yQ g nm<g.length:=hlx
   have hg:g[(yQ g nm).toNat]?=some g[(yQ g nm).toNat]:=oE (by omega)
   have hx:=ctx.all.get hg
   have hgd:g.getD (yQ g nm).toNat tg0=g[(yQ g nm).toNat]:=zIF hg
   obtain ⟨u0,u1,hd,hs,ht⟩:=hx
   have hm:g[(yQ g nm).toNat]∈g:=mD _
   have hcn:=pre.ty _ hm
   have:qo g nm n=if g[(yQ g nm).toNat].lv=n then some g[(yQ g nm).toNat].ty else none:=by
    rw [qo,if_neg (by omega),hgd]
   rw [this] at hQ
   generalize g[(yQ g nm).toNat]=x at *
   repeat' first|with_reducible intro _|simp only[hd,Y1,Y2,Y3,Y4]|with_reducible refine X ?_ ?_|refine⟨_,_,_,rfl,?_⟩|refine⟨_,rfl,?_⟩|refine And.intro (by first|omega|trivial|(show _=_;rfl)|(with_reducible constructor)<;>first|omega|trivial|rfl) ?_|refine (uH ctx a c nm) _ _ ?_|refine (zI _ _ ht (by omega)) _ _ ?_|fail
   all_goals first | (exfalso;omega) | skip
   ·rw [if_neg (by assumption)] at hQ;exact hQ _ _ (by omega) (by simp)
   ·rw [if_pos (by assumption)] at hQ;exact hQ _ _ (by omega) fun t ht=>by cases ht;assumption
 ·have hraw:Tm.raw (.mk 2 nm ot m ty re l) g n=some tInt:=by simp [Tm.raw]
  rw [hraw] at hQ
  repeat' first|with_reducible intro _|simp only[Y1,Y2,Y3,Y4]|with_reducible refine X ?_ ?_|refine⟨_,_,_,rfl,?_⟩|refine⟨_,rfl,?_⟩|refine And.intro (by first|omega|trivial|(show _=_;rfl)|(with_reducible constructor)<;>first|omega|trivial|rfl) ?_|refine wW _ _ ?_|fail
  all_goals first | (exfalso;omega) | skip
  exact hQ _ _ (by omega) fun t ht=>by cases ht;assumption
 ·have hraw:Tm.raw (.mk 3 nm ot m ty re l) g n=some tBool:=by simp [Tm.raw]
  rw [hraw] at hQ
  repeat' first|with_reducible intro _|simp only[Y1,Y2,Y3,Y4]|with_reducible refine X ?_ ?_|refine⟨_,_,_,rfl,?_⟩|refine⟨_,rfl,?_⟩|refine And.intro (by first|omega|trivial|(show _=_;rfl)|(with_reducible constructor)<;>first|omega|trivial|rfl) ?_|refine uF _ _ ?_|fail
  all_goals first | (exfalso;omega) | skip
  exact hQ _ _ (by omega) fun t ht=>by cases ht;assumption
 ·have hk:k=4\/k=5\/k=7:=by omega
  have:=zPF hk ih hes1 hlen1 pre ctx (a:=a) (c:=c) (t0:=t0) (t1:=t1) (r0:=r0) (r1:=r1) (a1:=a1) (c1:=c1) N Q hQ
  repeat' first|with_reducible intro _|simp only[Y1,Y2,Y3,Y4]|with_reducible refine X ?_ ?_|refine⟨_,_,_,rfl,?_⟩|refine⟨_,rfl,?_⟩|refine And.intro (by first|omega|trivial|(show _=_;rfl)|(with_reducible constructor)<;>first|omega|trivial|rfl) ?_|fail
  all_goals first | (exfalso;omega) | exact this
 ·have hk:k=4\/k=5\/k=7:=by omega
  have:=zPF hk ih hes1 hlen1 pre ctx (a:=a) (c:=c) (t0:=t0) (t1:=t1) (r0:=r0) (r1:=r1) (a1:=a1) (c1:=c1) N Q hQ
  repeat' first|with_reducible intro _|simp only[Y1,Y2,Y3,Y4]|with_reducible refine X ?_ ?_|refine⟨_,_,_,rfl,?_⟩|refine⟨_,rfl,?_⟩|refine And.intro (by first|omega|trivial|(show _=_;rfl)|(with_reducible constructor)<;>first|omega|trivial|rfl) ?_|fail
  all_goals first | (exfalso;omega) | exact this
 ·have h1 : l.length = 1 := by have:(l.length:Int)=1:=har
                               omega
  obtain ⟨e0,rfl⟩:=zCo h1
  obtain ⟨d0,_,rfl,h0,rfl⟩:=hes1
  have hraw:Tm.raw (.mk 6 nm ot m ty re [e0]) g n=(match e0.type (g++[⟨nm,ty,n⟩]) n with | some b=>some (uJ ty b) | none=>none):=by simp [Tm.raw,vo]
  rw [hraw] at hQ
  repeat' first|with_reducible intro _|simp only[Y1,Y2,Y3,Y4]|with_reducible refine X ?_ ?_|refine⟨_,_,_,rfl,?_⟩|refine⟨_,rfl,?_⟩|refine And.intro (by first|omega|trivial|(show _=_;rfl)|(with_reducible constructor)<;>first|omega|trivial|rfl) ?_|refine (zRj ih hh h0 pre ctx) _ _ ?_|fail
  all_goals first | (exfalso;omega) | skip
  exact hQ _ _ (by omega) (by assumption)
 ·have hk:k=4\/k=5\/k=7:=by omega
  have:=zPF hk ih hes1 hlen1 pre ctx (a:=a) (c:=c) (t0:=t0) (t1:=t1) (r0:=r0) (r1:=r1) (a1:=a1) (c1:=c1) N Q hQ
  repeat' first|with_reducible intro _|simp only[Y1,Y2,Y3,Y4]|with_reducible refine X ?_ ?_|refine⟨_,_,_,rfl,?_⟩|refine⟨_,rfl,?_⟩|refine And.intro (by first|omega|trivial|(show _=_;rfl)|(with_reducible constructor)<;>first|omega|trivial|rfl) ?_|fail
  all_goals first | (exfalso;omega) | exact this
 ·have h1 : l.length = 2 := by have:(l.length:Int)=2:=har
                               omega
  obtain ⟨e0,e1,rfl⟩:=zLp h1
  obtain ⟨d0,_,rfl,h0,d1,_,rfl,h1,rfl⟩:=hes1
  have hraw:Tm.raw (.mk 8 nm ot m ty re [e0,e1]) g n=(match e0.type g n with | some b=>e1.type (g++[⟨nm,b,n⟩]) n | none=>none):=by simp [Tm.raw,vo]
  rw [hraw] at hQ
  repeat' first|with_reducible intro _|simp only[Y1,Y2,Y3,Y4]|with_reducible refine X ?_ ?_|refine⟨_,_,_,rfl,?_⟩|refine⟨_,rfl,?_⟩|refine And.intro (by first|omega|trivial|(show _=_;rfl)|(with_reducible constructor)<;>first|omega|trivial|rfl) ?_|refine (zRe ih hh h0 h1 pre ctx) _ _ ?_|fail
  all_goals first | (exfalso;omega) | skip
  exact hQ _ _ (by omega) (by assumption)
 ·have h1 : l.length = 1 := by have:(l.length:Int)=1:=har
                               omega
  obtain ⟨e0,rfl⟩:=zCo h1
  obtain ⟨d0,_,rfl,h0,rfl⟩:=hes1
  have hraw:Tm.raw (.mk 9 nm ot m ty re [e0]) g n=(match e0.type ((g++[⟨nm,uJ ty re,n⟩])++[⟨ot,ty,n⟩]) n with | some b=>if tu b re then some (uJ ty re) else none | none=>none):=by simp only [Tm.raw,vo];rfl
  rw [hraw] at hQ
  repeat' first|with_reducible intro _|simp only[Y1,Y2,Y3,Y4]|with_reducible refine X ?_ ?_|refine⟨_,_,_,rfl,?_⟩|refine⟨_,rfl,?_⟩|refine And.intro (by first|omega|trivial|(show _=_;rfl)|(with_reducible constructor)<;>first|omega|trivial|rfl) ?_|refine (zSM ih hh h0 pre ctx) _ _ ?_|fail
  all_goals first | (exfalso;omega) | skip
  exact hQ _ _ (by omega) (by assumption)
 all_goals
  have h1:l.length=1:=by
   have hk:k=10\/k=11\/k=12\/k=13:=by omega
   have:(l.length:Int)=1:=by rw [har];rcases hk with rfl | rfl | rfl | rfl<;>rfl
   omega
  obtain ⟨e0,rfl⟩:=zCo h1
  obtain ⟨d0,_,rfl,h0,rfl⟩:=hes1
  have hk:k=10\/k=11\/k=12\/k=13:=by omega
  have hraw:Tm.raw (.mk k nm ot m ty re [e0]) g n=(match e0.type (if k=12 then tc g n else g) (zN k n) with | some t=>yz k t | none=>none):=by
   simp only [Tm.raw,vo]
   rw [if_neg (by omega),if_neg (by omega),if_neg (by omega),if_neg (by omega),if_neg (by omega),if_neg (by omega),if_pos hk]
  rw [hraw] at hQ
  repeat' first|with_reducible intro _|simp only[Y1,Y2,Y3,Y4]|with_reducible refine X ?_ ?_|refine⟨_,_,_,rfl,?_⟩|refine⟨_,rfl,?_⟩|refine And.intro (by first|omega|trivial|(show _=_;rfl)|(with_reducible constructor)<;>first|omega|trivial|rfl) ?_|refine (zRq hk ih h0 pre ctx) _ _ ?_|fail
  all_goals first | (exfalso;omega) | skip
  exact hQ _ _ (by omega) (by assumption)
theorem sN:∀ {l:List Tm} {i:Nat} {g:List Tg} {n:Int} {t:Ty},vo l i g n=some t->t.valid=true
 | [],i,g,n,t,h=>by simp [vo] at h
 | e::es,0,g,n,t,h=>by simp only [vo] at h;exact Tm.type_valid h
 | e::es,i+1,g,n,t,h=>by simp only [vo] at h;exact sN h
theorem zIh {l:List Ty} {m:Nat} (h:∀ t∈l,t.cnt<=m) (I:1<=m) (i:Nat):(l.getD i tZero).cnt<=m:=by
 rw [oA]
 cases hi:l[i]? with
 | none=>simpa [tZero,Ty.cnt,zJ] using I
 | some t=>exact h t (oB hi)
theorem zRZ (t:Ty) (i:Nat):(t.as.getD i tZero).cnt<=t.cnt:=by
 cases t with
 | mk k l=>exact zIh (l:=l) (λu I=>by have:=wQ (l:=l) I;simp only [Ty.cnt];omega) (by simp only [Ty.cnt];omega) i
theorem zSO {g:List Tg} {m:Nat} (h:∀ x∈g,x.ty.cnt<=m) (I:1<=m) (i:Nat):(g.getD i tg0).ty.cnt<=m:=by
 rw [oA]
 cases hi:g[i]? with
 | none=>simpa [tg0,tZero,Ty.cnt,zJ] using I
 | some t=>exact h t (oB hi)
theorem zML {k:Int} {s:ByteArray} {I:List Ty} {t:Ty} (J:∀ t∈I,t.cnt<=64) (h:y9 k s I=some t):t.cnt<=64:=by
 simp only [y9] at h
 split at h
 ·simp only [zRb] at h
  split at h
  ·cases h;unfold zDB;(repeat' split)<;>simp [tInt,tBool,Ty.cnt,zJ]
  ·cases h
 ·split at h
  ·split at h
   ·cases h;exact zIh J (by omega) _
   ·cases h
  ·split at h
   ·cases h;exact oR (zRZ _ _) (zIh J (by omega) _)
   ·cases h
theorem zKn {k:Int} {u t:Ty} (J:u.cnt<=30) (h:yz k u=some t):t.cnt<=64:=by
 have I:(qx u).cnt<=64:=by simp only [qx,Ty.cnt,zJ];omega
 have O:=zRZ u 0
 simp only [yz] at h
 (repeat' split at h)<;>cases h<;>first | exact I | omega
theorem zN3 {e:Tm} {g:List Tg} {n:Int} {t:Ty} (pre:Pre g e n) (h:e.raw g n=some t):t.cnt<=64:=by
 cases e with
 | mk k nm ot m ty re l=>
 have nd:=yW pre.ok
 simp only [Tm.raw] at h
 split at h
 ·simp only [qo] at h
  (repeat' split at h)<;>cases h
  exact zSO pre.ty (by omega) _
 split at h
 ·cases h;simp [tInt,Ty.cnt,zJ]
 split at h
 ·cases h;simp [tBool,Ty.cnt,zJ]
 split at h
 ·rename_i U
  have Y:=Ty.valid_cnt (nd.vt (.inl U))
  split at h
  ·rename_i b I
   have:=Ty.valid_cnt (sN I)
   cases h;simp only [uJ,Ty.cnt,zJ];omega
  ·cases h
 split at h
 ·split at h
  ·have:=Ty.valid_cnt (sN h);omega
  ·cases h
 split at h
 ·rename_i O
  have Y:=Ty.valid_cnt (nd.vt (.inr O))
  have hr:=Ty.valid_cnt (nd.vr O)
  split at h
  ·split at h
   ·cases h;simp only [uJ,Ty.cnt,zJ];omega
   ·cases h
  ·cases h
 split at h
 ·split at h
  ·rename_i b I
   exact zKn (Ty.valid_cnt (sN I)) h
  ·cases h
 ·split at h
  ·rename_i ts J
   exact zML (λu hu=>oR (Ty.valid_cnt ((zGW J).2 u hu)) (by omega)) h
  ·cases h
theorem xN:tZero.Is (.ag [.j 0,.sl none 2 [] 0]):=xP 0
theorem zHK:∀ (e:Tm),∀ d,e.Is d->∀ g es a c n,Pre g e n->Ctx g es->zTf 43 [.sv a 4 es c,.dg 9 d,.j n] (e.type g n):=by
 refine Tm.ind λk nm ot m ty re l U d hd g es a c n pre O N Q I=>?_
 have hs:=zHZ (a:=a) (c:=c) hd U pre O
 rw [Tm.type_eq] at I
 refine zIP N a es c _ n Q λ_ _=>?_
 cases h:Tm.raw (.mk k nm ot m ty re l) g n with
 | none=>
   rw [h] at hs I
   repeat' first|with_reducible intro _|simp only[md,Y1,Y2,Y3,Y4]|with_reducible refine X ?_ ?_|refine⟨_,_,_,rfl,?_⟩|refine⟨_,rfl,?_⟩|refine And.intro (by first|omega|trivial|(show _=_;rfl)|(with_reducible constructor)<;>first|omega|trivial|rfl) ?_|refine hs _ _ ?_|fail
   all_goals first | (exfalso;omega) | skip
   exact I _ _ (by omega) xN
 | some t=>
   have hc:=zN3 pre h
   rw [h] at hs I
   simp only [vld] at I
   cases J:t.valid with
   | false=>
     rw [J] at I
     repeat' first|with_reducible intro _|simp only[mf,J,Y1,Y2,Y3,Y4]|with_reducible refine X ?_ ?_|refine⟨_,_,_,rfl,?_⟩|refine⟨_,rfl,?_⟩|refine And.intro (by first|omega|trivial|(show _=_;rfl)|(with_reducible constructor)<;>first|omega|trivial|rfl) ?_|refine hs _ _ ?_|refine (xZ t _ (by rename_i h _ _ _ _;exact h t rfl) (by omega)) _ _ ?_|fail
     all_goals first | (exfalso;omega) | skip
     exact I _ _ (by omega) xN
   | true=>
     rw [J] at I
     repeat' first|with_reducible intro _|simp only[mf,J,Y1,Y2,Y3,Y4]|with_reducible refine X ?_ ?_|refine⟨_,_,_,rfl,?_⟩|refine⟨_,rfl,?_⟩|refine And.intro (by first|omega|trivial|(show _=_;rfl)|(with_reducible constructor)<;>first|omega|trivial|rfl) ?_|refine hs _ _ ?_|refine (xZ t _ (by rename_i h _ _ _ _;exact h t rfl) (by omega)) _ _ ?_|fail
     all_goals first | (exfalso;omega) | skip
     rename_i Y _ _ _ _ _ _ _ _ _
     exact I _ _ (by omega) (Y t rfl)
/-- what TypeOf comes to -/
def zGJ (g:List Tg) (e:Tm) (n:Int):Option Ty:=if zHW g/\zDU e n then e.type g n else none
theorem zKM:∀ {g:List Tg},zI3 g=true->∀ x∈g,x.ty.valid=true
 | y::ys,h,x,hx=>by
   simp only [zI3,Tg.ok,oI] at h
   rcases oG.1 hx with rfl | hx
   ·exact h.1.2.1
   ·exact zKM h.2 x hx
theorem zTU {g:List Tg} {e:Tm} {n:Int} (J:zHW g=true) (I:zDU e n=true) (hc:e.cnt<=1048576000 / 2):Pre g e n:=by
 simp only [zHW,oI,nO] at J
 simp only [zDU,oI] at I
 exact ⟨I.1,I.2,by omega,λx O=>oR (Ty.valid_cnt (zKM J.1 x O)) (by omega)⟩
end Go.Proofs.YtlahkdflngobiaaGreat
