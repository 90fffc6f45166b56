/- Terms and typings as plain data; well-formed terms and contexts: the reference's functions. -/
import Derived.Test.YtmfjakahanbnlaaGreatDoorA2
set_option linter.unusedVariables false
set_option linter.unusedSimpArgs false
namespace Go.Proofs.YtmfjakahanbnlaaGreatDoor
open Go Go.Proofs Go.Proofs.Tryz Go.IntWalk
inductive Tm where
 | mk (k:Int) (nm ot:ByteArray) (n:Int) (ty re:Ty) (l:List Tm)
def Tm.as:Tm->List Tm
 | .mk _ _ _ _ _ _ l=>l
/-- the cells of a term ahead of its parts -/
structure Tm.Hd (nm ot:ByteArray) (ty re:Ty) (t0 t1 r0 r1:D):Prop where
 nm:nm.size<=4611686018427387904
 ot:ot.size<=4611686018427387904
 ty:ty.Is (.ag [t0,t1])
 re:re.Is (.ag [r0,r1])
mutual
def Tm.Is:Tm->D->Prop
 | .mk k nm ot n ty re l,d=>∃ t0 t1 r0 r1 a es c,d=.ag [.lit (.int .i64 k),.lit (.string nm),.lit (.string ot),.lit (.int .i64 n),t0,t1,r0,r1,.sl a 9 es c]/\Tm.Hd nm ot ty re t0 t1 r0 r1/\es.length<=4611686018427387904/\zNz l es
def zNz:List Tm->List D->Prop
 | [],es=>es=[]
 | t::I,es=>∃ d ds,es=d::ds/\t.Is d/\zNz I ds
end
theorem zHn:∀ {l:List Tm} {es:List D},zNz l es↔All2 Tm.Is l es
 | [],es=>by simp only [zNz,All2]
 | t::U,es=>by
   simp only [zNz,All2]
   exact ⟨λ⟨d,ds,I,J,O⟩=>⟨d,ds,I,J,zHn.1 O⟩,λ⟨d,ds,I,J,O⟩=>⟨d,ds,I,J,zHn.2 O⟩⟩
theorem Tm.is_mk {k:Int} {nm ot:ByteArray} {n:Int} {ty re:Ty} {l:List Tm} {d:D}:(Tm.mk k nm ot n ty re l).Is d ↔
  ∃ t0 t1 r0 r1 a es c,d=.ag [.lit (.int .i64 k),.lit (.string nm),.lit (.string ot),.lit (.int .i64 n),t0,t1,r0,r1,.sl a 9 es c]/\Tm.Hd nm ot ty re t0 t1 r0 r1/\es.length<=4611686018427387904/\All2 Tm.Is l es:=by
 simp only [Tm.Is,zHn]
theorem Tm.ind {P:Tm->Prop} (h:∀ k nm ot n ty re l,(∀ t∈l,P t)->P (.mk k nm ot n ty re l)):∀ t,P t:=λt=>
 Tm.rec (motive_1:=P) (motive_2:=λl=>∀ t∈l,P t) (λk nm ot n ty re l I=>h k nm ot n ty re l I) (by simp) (λt l J O u hu=>by
  rcases oI.1 hu with rfl | hu
  ·exact J
  ·exact O u hu) t
mutual
def Tm.cnt:Tm->Nat
 | .mk _ _ _ _ ty re l=>1+ty.cnt+re.cnt+zJ l
def zJ:List Tm->Nat
 | []=>0
 | t::I=>t.cnt+zJ I
end
theorem w4:∀ {l:List Tm} {t:Tm},t∈l->t.cnt<=zJ l
 | u::us,t,h=>by
   simp only [zJ]
   rcases oI.1 h with rfl | h
   ·omega
   ·have:=w4 h;omega
theorem ua:∀ l:List Tm,l.length<=zJ l
 | []=>oD _
 | .mk _ _ _ _ _ _ _::I=>by simp only [zJ,Tm.cnt,oN];have:=ua I;omega
structure Tg where
 nm:ByteArray
 ty:Ty
 lv:Int
def Tg.Is (g:Tg) (d:D):Prop:=∃ t0 t1,d=.ag [.lit (.string g.nm),t0,t1,.lit (.int .i64 g.lv)]/\g.nm.size<=4611686018427387904/\g.ty.Is (.ag [t0,t1])
theorem Tg.is_mk {nm:ByteArray} {ty:Ty} {lv:Int} {d:D}:(Tg.mk nm ty lv).Is d↔∃ t0 t1,d=.ag [.lit (.string nm),t0,t1,.lit (.int .i64 lv)]/\nm.size<=4611686018427387904/\ty.Is (.ag [t0,t1]):=mu
def zDC (s:ByteArray):Int:=if s=bytes [43] then 2 else if s=bytes [45] then 2 else if s=bytes [42] then 2 else if s=bytes [61] then 2 else if s=bytes [60] then 2 else if s=bytes [38] then 2 else if s=bytes [124] then 2 else if s=bytes [33] then 1 else 0
theorem tP (s:ByteArray):pc 170 [.str s] (zDC s):=λN Q I=>by
 refine zFj N s Q ?_
 repeat' first|with_reducible intro _|simp only[Y1,Y2,Y3,Y4]|with_reducible refine X ?_ ?_|refine⟨_,_,_,rfl,?_⟩|refine⟨_,rfl,?_⟩|refine And.intro (by first|omega|trivial|(show _=_;rfl)|(with_reducible constructor)<;>first|omega|trivial|rfl) ?_|fail
 all_goals (refine Qi (I _ (by assumption)) ?_;unfold zDC;(repeat' split)<;>first | rfl | contradiction)
def Ty.zero (t:Ty):Bool:=t.k==0&&(t.as.length:Int)==0
theorem pu (t:Ty) (d:D) (hd:t.Is d):ue 168 [.dg 2 d] t.zero:=λN Q O=>by
 cases t with
 | mk k l=>
 obtain ⟨a,es,c,rfl,J,I⟩:=Ty.is_mk.1 hd
 have U:=I.len
 refine zIB N _ Q λ_=>?_
 repeat' first|with_reducible intro _|simp only[Y1,Y2,Y3,Y4]|with_reducible refine X ?_ ?_|refine⟨_,_,_,rfl,?_⟩|refine⟨_,rfl,?_⟩|refine And.intro (by first|omega|trivial|(show _=_;rfl)|(with_reducible constructor)<;>first|omega|trivial|rfl) ?_|fail
 all_goals refine Qb (O _ (by assumption)) ?_
 all_goals simp [Ty.zero,Ty.k,Ty.as,U, *]
def xB (k:Int) (nm ot:ByteArray):Bool:=
 if k=4 then decide (zDC nm>0)&&decide (ot=bytes []) else if k=1\/k=6\/k=8 then yc nm&&decide (ot=bytes []) else if k=9 then yc nm&&(yc ot&&!decide (nm=ot)) else decide (nm=bytes [])&&decide (ot=bytes [])
theorem zUC (a b:Int):(a==b)=decide (a=b):=by rw [mG];simp
def rE (k:Int):Bool:=k==6||k==9
def zH (k:Int) (nm ot:ByteArray) (n:Int) (ty re:Ty):Bool:=
 (rE k==ty.valid)&&((rE k||ty.zero)&&(((k==9)==re.valid)&&((k==9||re.zero)&&(inB n 0 (if k=2 then 10006 else if k=3 then 1 else 0)&&xB k nm ot))))
def zFR (k:Int) (nm:ByteArray):Int:=
 if k=1\/k=2\/k=3 then 0 else if k=4 then zDC nm else if k=6\/k=9\/k=10\/k=11\/k=12\/k=13 then 1 else if k=7\/k=8 then 2 else if k=5 then 3 else -1
mutual
def Tm.ok:Tm->Bool
 | .mk k nm ot n ty re l=>th l&&(zH k nm ot n ty re&&(l.length:Int)==zFR k nm)
def th:List Tm->Bool
 | []=>true
 | t::I=>t.ok&&th I
end
theorem zF7 {k n:Int} {nm ot:ByteArray} {ty re:Ty} {t0 t1 r0 r1 x:D} (h:Tm.Hd nm ot ty re t0 t1 r0 r1):ue 169 [.dg 9 (.ag [.lit (.int .i64 k),.lit (.string nm),.lit (.string ot),.lit (.int .i64 n),t0,t1,r0,r1,x])] (xB k nm ot):=λN Q I=>by
 refine zFW N _ Q λ_=>?_
 repeat' first|with_reducible intro _|simp only[Y1,Y2,Y3,Y4]|with_reducible refine X ?_ ?_|refine⟨_,_,_,rfl,?_⟩|refine⟨_,rfl,?_⟩|refine And.intro (by first|omega|trivial|(show _=_;rfl)|(with_reducible constructor)<;>first|omega|trivial|rfl) ?_|refine (tP _) _ _ ?_|refine (zAH _ h.nm) _ _ ?_|refine (zAH _ h.ot) _ _ ?_|fail
 all_goals (refine Qb (I _ (by omega)) ?_;simp [xB,vH, *])
theorem zFJ {k n:Int} {nm ot:ByteArray} {ty re:Ty} {t0 t1 r0 r1 x:D} (h:Tm.Hd nm ot ty re t0 t1 r0 r1) (hc:ty.cnt<=1073741824) (I:re.cnt<=1073741824) :
  ue 106 [.dg 9 (.ag [.lit (.int .i64 k),.lit (.string nm),.lit (.string ot),.lit (.int .i64 n),t0,t1,r0,r1,x])] (zH k nm ot n ty re):=λN Q J=>by
 refine zDi N _ Q λ_=>?_
 repeat' first|with_reducible intro _|simp only[Y1,Y2,Y3,Y4]|with_reducible refine X ?_ ?_|refine⟨_,_,_,rfl,?_⟩|refine⟨_,rfl,?_⟩|refine And.intro (by first|omega|trivial|(show _=_;rfl)|(with_reducible constructor)<;>first|omega|trivial|rfl) ?_|refine (u3 _ _ h.ty hc) _ _ ?_|refine (u3 _ _ h.re I) _ _ ?_|refine (pu _ _ h.ty) _ _ ?_|refine (pu _ _ h.re) _ _ ?_|refine (xR _ _ _) _ _ ?_|refine (zF7 h) _ _ ?_|fail
 all_goals first | (exfalso;omega) | (refine Qb (J _ (by omega)) ?_;simp [zH,rE, *];done) | (refine Qb (J _ (by omega)) ?_;simp_all [zH,rE];done) | (refine Qb (J _ (by omega)) ?_;simp_all only [zH,rE,zUC];simp_all;done)
theorem xh {k n:Int} {nm ot:ByteArray} {t0 t1 r0 r1 x:D}:pc 107 [.dg 9 (.ag [.lit (.int .i64 k),.lit (.string nm),.lit (.string ot),.lit (.int .i64 n),t0,t1,r0,r1,x])] (zFR k nm):=λN Q I=>by
 refine zFx N _ Q λ_=>?_
 repeat' first|with_reducible intro _|simp only[Y1,Y2,Y3,Y4]|with_reducible refine X ?_ ?_|refine⟨_,_,_,rfl,?_⟩|refine⟨_,rfl,?_⟩|refine And.intro (by first|omega|trivial|(show _=_;rfl)|(with_reducible constructor)<;>first|omega|trivial|rfl) ?_|refine (tP _) _ _ ?_|fail
 all_goals (refine Qi (I _ (by omega)) ?_;simp [zFR, *])
theorem zAr:∀ (t:Tm) (d:D),t.Is d->t.cnt<=1073741824->ue 46 [.dg 9 d] t.ok:=by
 refine Tm.ind λk nm ot n ty re l ih d hd hc N Q hQ=>?_
 obtain ⟨t0,t1,r0,r1,a,es,c,rfl,hh,O,U⟩:=Tm.is_mk.1 hd
 have hl:=U.len
 simp only [Tm.cnt] at hc
 refine zIy N _ Q λ_=>?_
 have key:=up U O (λi xs=>∀ (N':Nat),N<=N'->(∀ N'',N'<=N''->Q (th xs&&(zH k nm ot n ty re&&(l.length:Int)==zFR k nm)) N'')->wb Q N i (.ag [.lit (.int .i64 k),.lit (.string nm),.lit (.string ot),.lit (.int .i64 n),t0,t1,r0,r1,.sl a 9 es c]) N') ?_ ?_
 ·exact key N (oD _) hQ
 ·intro i Y _ N' aa J
  refine rk _ _ _ _ _ ?_
  repeat' first|with_reducible intro _|simp only[Y,Y1,Y2,Y3,Y4]|with_reducible refine X ?_ ?_|refine⟨_,_,_,rfl,?_⟩|refine⟨_,rfl,?_⟩|refine And.intro (by first|omega|trivial|(show _=_;rfl)|(with_reducible constructor)<;>first|omega|trivial|rfl) ?_|refine (zFJ hh (by omega) (by omega)) _ _ ?_|refine xh _ _ ?_|fail
  all_goals (refine Qb (J _ (by omega)) ?_;simp [th, *])
 ·intro i x xs I _ ab N' aa J
  have hb:=I.b
  have ac:=w4 I.m
  refine rk _ _ _ _ _ ?_
  repeat' first|with_reducible intro _|simp only[I.lt,I.w,oG,Y1,Y2,Y3,Y4]|with_reducible refine X ?_ ?_|refine⟨_,_,_,rfl,?_⟩|refine⟨_,rfl,?_⟩|refine And.intro (by first|omega|trivial|(show _=_;rfl)|(with_reducible constructor)<;>first|omega|trivial|rfl) ?_|refine (ih x I.m _ I.r (by omega)) _ _ ?_|fail
  ·refine Qb (J _ (by omega)) ?_;simp [th, *]
  ·exact ab _ (by omega) λN'' h=>Qb (J N'' (by omega)) (by simp [th, *])
theorem yN {n a b:Int}:inB n a b=true↔a<=n/\n<=b:=by simp [inB]
def ya (k n:Int):Int:=if k=10 then n+1 else if k=11 then n - 1 else n
mutual
def Tm.lev:Tm->Int->Bool
 | .mk k _ _ _ _ _ l,n=>inB n 0 2&&rN l (ya k n)
def rN:List Tm->Int->Bool
 | [],_=>true
 | t::I,n=>t.lev n&&rN I n
end
theorem zHP {k n m:Int} {I J O U Y c7 c8:D} (h:0<=m/\m<=2):pc 204 [.dg 9 (.ag [.lit (.int .i64 k),I,J,.lit (.int .i64 n),O,U,Y,c7,c8]),.int .i64 m] (ya k m):=λN Q hQ=>by
 refine zAi N _ m Q λ_=>?_
 rw [i64_in (m+1) (by omega),i64_in (m - 1) (by omega)]
 repeat' first|with_reducible intro _|simp only[Y1,Y2,Y3,Y4]|with_reducible refine X ?_ ?_|refine⟨_,_,_,rfl,?_⟩|refine⟨_,rfl,?_⟩|refine And.intro (by first|omega|trivial|(show _=_;rfl)|(with_reducible constructor)<;>first|omega|trivial|rfl) ?_|fail
 all_goals (refine Qi (hQ _ (by omega)) ?_;simp [ya, *])
theorem zEb:∀ (t:Tm) (d:D),t.Is d->∀ m:Int,ue 140 [.dg 9 d,.int .i64 m] (t.lev m):=by
 refine Tm.ind λk nm ot n ty re l ih d hd m N Q hQ=>?_
 obtain ⟨t0,t1,r0,r1,a,es,c,rfl,hh,U,Y⟩:=Tm.is_mk.1 hd
 have hl:=Y.len
 refine zK3 N _ m Q λ_=>?_
 cases I:inB m 0 2 with
 | false=>
   repeat' first|with_reducible intro _|simp only[I,Y1,Y2,Y3,Y4]|with_reducible refine X ?_ ?_|refine⟨_,_,_,rfl,?_⟩|refine⟨_,rfl,?_⟩|refine And.intro (by first|omega|trivial|(show _=_;rfl)|(with_reducible constructor)<;>first|omega|trivial|rfl) ?_|refine (xR _ _ _) _ _ ?_|fail
   exact Qb (hQ _ (by omega)) (by simp [Tm.lev,I])
 | true=>
   have hb:=yN.1 I
   have key:=up Y U (λi xs=>∀ (N':Nat),N<=N'->(∀ N'',N'<=N''->Q (rN xs (ya k m)) N'')->vl Q N m i (.ag [.lit (.int .i64 k),.lit (.string nm),.lit (.string ot),.lit (.int .i64 n),t0,t1,r0,r1,.sl a 9 es c]) N') ?_ ?_
   ·repeat' first|with_reducible intro _|simp only[I,Y1,Y2,Y3,Y4]|with_reducible refine X ?_ ?_|refine⟨_,_,_,rfl,?_⟩|refine⟨_,rfl,?_⟩|refine And.intro (by first|omega|trivial|(show _=_;rfl)|(with_reducible constructor)<;>first|omega|trivial|rfl) ?_|refine (xR _ _ _) _ _ ?_|fail
    exact key _ (by omega) λN'' h=>Qb (hQ N'' (by omega)) (by simp [Tm.lev,I])
   ·intro i aa _ N' ab O
    refine zAd _ _ _ _ _ _ ?_
    repeat' first|with_reducible intro _|simp only[aa,Y1,Y2,Y3,Y4]|with_reducible refine X ?_ ?_|refine⟨_,_,_,rfl,?_⟩|refine⟨_,rfl,?_⟩|refine And.intro (by first|omega|trivial|(show _=_;rfl)|(with_reducible constructor)<;>first|omega|trivial|rfl) ?_|fail
    exact Qb (O _ (by omega)) (by simp [rN])
   ·intro i x xs J _ ac N' ab O
    have ae:=J.b
    refine zAd _ _ _ _ _ _ ?_
    repeat' first|with_reducible intro _|simp only[J.lt,J.w,oG,Y1,Y2,Y3,Y4]|with_reducible refine X ?_ ?_|refine⟨_,_,_,rfl,?_⟩|refine⟨_,rfl,?_⟩|refine And.intro (by first|omega|trivial|(show _=_;rfl)|(with_reducible constructor)<;>first|omega|trivial|rfl) ?_|refine (zHP hb) _ _ ?_|refine (ih x J.m _ J.r _) _ _ ?_|fail
    ·refine Qb (O _ (by omega)) ?_;simp [rN, *]
    ·exact ac _ (by omega) λN'' h=>Qb (O N'' (by omega)) (by simp [rN, *])
def qn (t:Tm) (n:Int):Bool:=t.ok&&t.lev n
theorem qF (t:Tm) (d:D) (hd:t.Is d) (hc:t.cnt<=1073741824) (m:Int):ue 82 [.dg 9 d,.int .i64 m] (qn t m):=λN Q I=>by
 refine zEv N _ m Q λ_=>?_
 repeat' first|with_reducible intro _|simp only[Y1,Y2,Y3,Y4]|with_reducible refine X ?_ ?_|refine⟨_,_,_,rfl,?_⟩|refine⟨_,rfl,?_⟩|refine And.intro (by first|omega|trivial|(show _=_;rfl)|(with_reducible constructor)<;>first|omega|trivial|rfl) ?_|refine (zAr t d hd hc) _ _ ?_|refine (zEb t d hd m) _ _ ?_|fail
 all_goals (refine Qb (I _ (by omega)) ?_;simp [qn, *])
structure Ctx (g:List Tg) (es:List D):Prop where
 len:es.length<=4611686018427387904
 all:All2 Tg.Is g es
def Tg.ok (g:Tg):Bool:=yc g.nm&&(g.ty.valid&&inB g.lv 0 2)
def tg0:Tg:=⟨bytes [],tZero,0⟩
def zMY (g:List Tg) (s:ByteArray):Nat->Int
 | 0 => -1
 | k+1=>if (g.getD k tg0).nm=s then k else zMY g s k
def zO0 (g:List Tg) (s:ByteArray):Int:=zMY g s g.length
theorem zUl {α:Type} {R:α->D->Prop} {l:List α} {es:List D} (h:All2 R l es) (I:es.length<=4611686018427387904) (P:Int->Prop) (U:P (-1))
  (hs:∀ (i:Nat) x,At R l es i x->decide ((i:Int)≥0)=true->IntKind.i64.wrap ((i:Int) - 1)=(i:Int) - 1->P ((i:Int) - 1)->P i):P ((es.length:Int) - 1):=by
 have Y:=h.len
 have key:∀ n:Nat,n<=l.length->P ((n:Int) - 1):=by
  intro n
  induction n with
  | zero=>intro _;exact U
  | succ n ih=>
    intro J
    have O:l[n]?=some l[n]:=oF J
    have e:((n+1:Nat):Int) - 1=n:=by omega
    rw [e]
    exact hs n _ ⟨mD (by omega),⟨by omega,by omega⟩,by rw [i64_in _ (by omega)];simp,h.get O,mM J,O⟩ (mD (by omega)) (i64_in _ (by omega)) (ih (by omega))
 rw [Y]
 exact key _ (oD _)
theorem zR4 {α:Type} {l:List α} {i:Nat} {x d:α} (h:l[i]?=some x):l.getD i d=x:=by simp [oA,h]
theorem zA6 {g:List Tg} {es:List D} (h:Ctx g es) (a:Option Addr) (c:Nat) (s:ByteArray):pc 259 [.sv a 4 es c,.str s] (zO0 g s):=λN Q hQ=>by
 have hl:=h.all.len
 have h1:=h.len
 refine zIP N a es c s Q λ_=>?_
 have key:=zUl h.all h.len (λm=>∀ (N':Nat),N<=N'->(∀ N'',N'<=N''->Q (zMY g s (m+1).toNat) N'')->we Q N a es c s m N') ?_ ?_
 ·rw [i64_in _ (by omega)]
  exact key N (oD _) λN' J=>Qi (hQ N' J) (by rw [zO0,<-hl];congr 1;omega)
 ·intro N' J I
  refine rv _ _ _ _ _ _ _ _ ?_
  repeat' first|with_reducible intro _|simp only[Y1,Y2,Y3,Y4]|with_reducible refine X ?_ ?_|refine⟨_,_,_,rfl,?_⟩|refine⟨_,rfl,?_⟩|refine And.intro (by first|omega|trivial|(show _=_;rfl)|(with_reducible constructor)<;>first|omega|trivial|rfl) ?_|fail
  ·omega
  ·exact I _ (by assumption)
 ·intro i x O U hw ih N' J I
  have hb:=O.b
  obtain ⟨t0,t1,hd,hs,ht⟩:=O.r
  have e1:((i:Int)+1).toNat=i+1:=by omega
  have e2:((i:Int) - 1+1).toNat=i:=by omega
  rw [e1] at I
  simp only [zMY,zR4 O.g] at I
  rw [e2] at ih
  refine rv _ _ _ _ _ _ _ _ ?_
  repeat' first|with_reducible intro _|simp only[U,hw,oG,hd,Y1,Y2,Y3,Y4]|with_reducible refine X ?_ ?_|refine⟨_,_,_,rfl,?_⟩|refine⟨_,rfl,?_⟩|refine And.intro (by first|omega|trivial|(show _=_;rfl)|(with_reducible constructor)<;>first|omega|trivial|rfl) ?_|fail
  ·rename_i Y _ _;exact Qi (I _ (by omega)) (by rw [if_pos Y])
  ·rename_i Y;exact ih _ (by omega) λN'' h=>Qi (I N'' (by omega)) (by rw [if_neg Y])
theorem Ty.is_cells {t:Ty} {d:D} (h:t.Is d):t.Is (.ag [D.cell d 0,D.cell d 1]):=by
 cases t with
 | mk k l=>obtain ⟨a,es,c,rfl,_,_⟩:=Ty.is_mk.1 h;exact h
def zMG (g:List Tg) (n:Int) (x:Tg) (i:Nat):Bool:=x.ty.base&&(decide (x.lv<=n)&&decide (zO0 g x.nm=(i:Int)))
def rp (g:List Tg) (n:Int):List Tg->Nat->List Tg
 | [],_=>[]
 | x::xs,i=>if zMG g n x i then x::rp g n xs (i+1) else rp g n xs (i+1)
def zQD (g:List Tg) (n:Int):List Tg:=rp g n g 0
theorem zG8 (g:List Tg) (n:Int):∀ (l:List Tg) (i:Nat),(∀ x∈rp g n l i,x∈l)/\(rp g n l i).length<=l.length
 | [],i=>by simp [rp]
 | x::xs,i=>by
   have h:=zG8 g n xs (i+1)
   simp only [rp]
   split
   ·refine ⟨λy hy=>?_,by simp;exact h.2⟩
    rcases oI.1 hy with rfl | hy
    ·exact List.mem_cons_self
    ·exact ni _ (h.1 y hy)
   ·exact ⟨λy hy=>ni _ (h.1 y hy),by have:=h.2;simp;omega⟩
theorem zFV {g:List Tg} {es:List D} (h:Ctx g es) (hg:g.length<=1073741824) (hc:∀ x∈g,x.ty.cnt<=1073741824) (a:Option Addr) (c:Nat) (n:Int) :
  ∀ (N:Nat) (Q:QT [.sl 4]),(∀ a' J c' N',N<=N'->Ctx (zQD g n) J->Q a' J c' N')->ACalls prog 263 [.sl 4] [.sv a 4 es c,.int .i64 n] N Q:=λN Q hQ=>by
 have hl:=h.all.len
 refine zGB N a es c n Q λ_=>?_
 have key:=up h.all h.len (λi xs=>∀ (r:List D) (m q:Nat) (N':Nat) (done:List Tg),N<=N'->m=r.length->All2 Tg.Is done r->done.length<=i->done++rp g n xs i=zQD g n->yA Q N a es c n m q i r q N') ?_ ?_
 ·exact key [] 0 0 N [] (oD _) rfl rfl (oD _) rfl
 ·intro i Y hi r m q N' done aa hm O ab hd
  refine sY _ _ _ _ _ _ _ _ _ _ _ _ ?_
  repeat' first|with_reducible intro _|simp only[Y,Y1,Y2,Y3,Y4]|with_reducible refine X ?_ ?_|refine⟨_,_,_,rfl,?_⟩|refine⟨_,rfl,?_⟩|refine And.intro (by first|omega|trivial|(show _=_;rfl)|(with_reducible constructor)<;>first|omega|trivial|rfl) ?_|fail
  refine hQ _ _ _ _ (by omega) ⟨by have:=O.len;omega,?_⟩
  simp only [rp,om] at hd
  rwa [<-hd]
 ·intro i x xs I _ U r m q N' done aa hm O ab hd
  have hb:=I.b
  have ae:=O.len
  obtain ⟨t0,t1,he,hs,ht⟩:=I.r
  simp only [rp] at hd
  refine sY _ _ _ _ _ _ _ _ _ _ _ _ ?_
  repeat' first|with_reducible intro _|simp only[I.lt,I.w,oG,he,Y1,Y2,Y3,Y4]|with_reducible refine X ?_ ?_|refine⟨_,_,_,rfl,?_⟩|refine⟨_,rfl,?_⟩|refine And.intro (by first|omega|trivial|(show _=_;rfl)|(with_reducible constructor)<;>first|omega|trivial|rfl) ?_|refine (zBJ _ _ ht) _ _ ?_|refine (zA6 h a c _) _ _ ?_|refine (zS _ _ ht (hc x I.m)) _ _ ?_|fail
  ·rename_i N2 ah x' N3 ai hx ho _ _
   have ac:zMG g n x i=true:=by simp [zMG, *]
   rw [if_pos ac] at hd
   refine ⟨by unfold zB;simp only [oH,md];omega,λc2=>U _ _ _ _ (done++[x]) (by omega) rfl (O.snoc ⟨_,_,rfl,hs,Ty.is_cells hx⟩) (by simp;omega) (by simpa using hd)⟩
  all_goals (refine U _ _ _ _ done (by omega) hm O (by omega) ?_;rw [<-hd,if_neg (by simp [zMG, *])])
theorem sB {g:List Tg} {es:List D} (h:Ctx g es) (hg:g.length<=1073741824) (a:Option Addr) (c:Nat) {s:ByteArray} (hs:s.size<=4611686018427387904) {t:Ty} {d:D} (J:t.Is d) (n:Int) :
  ∀ (N:Nat) (Q:QT [.sl 4]),(∀ O I U N',N<=N'->Ctx (g++[⟨s,t,n⟩]) I->Q O I U N')->ACalls prog 217 [.sl 4] [.sv a 4 es c,.str s,.dg 2 d,.int .i64 n] N Q:=λN Q Y=>by
 have hl:=h.all.len
 have hb:∀ x:D,zB ([]++es) [x] 56:=λx=>by unfold zB;simp only [oX,oH,md];omega
 have aa:zB [] es 56:=by unfold zB;simp only [oX];omega
 refine zII N a es c s d n Q λ_ _=>?_
 repeat' first|with_reducible intro _|simp only[Y1,Y2,Y3,Y4]|with_reducible refine X ?_ ?_|refine⟨_,_,_,rfl,?_⟩|refine⟨_,rfl,?_⟩|refine And.intro (by first|omega|trivial|(show _=_;rfl)|(with_reducible constructor)<;>first|omega|trivial|rfl) ?_|fail
 refine ⟨hb _,λc2=>?_⟩
 repeat' first|with_reducible intro _|simp only[Y1,Y2,Y3,Y4]|with_reducible refine X ?_ ?_|refine⟨_,_,_,rfl,?_⟩|refine⟨_,rfl,?_⟩|refine And.intro (by first|omega|trivial|(show _=_;rfl)|(with_reducible constructor)<;>first|omega|trivial|rfl) ?_|fail
 refine Y _ _ _ _ (by omega) ⟨by simp;omega,?_⟩
 simp only [oX]
 exact h.all.snoc ⟨_,_,rfl,hs,Ty.is_cells J⟩
theorem Ty.valid_cnt {t:Ty} (h:t.valid=true):t.cnt<=30:=by
 simp only [Ty.valid,oK,nS] at h
 exact h.1.1
/-- what typing may count on -/
structure Pre (g:List Tg) (e:Tm) (n:Int):Prop where
 ok:e.ok=true
 lev:e.lev n=true
 len:g.length+2*e.cnt<=1073741824
 ty:∀ x∈g,x.ty.cnt<=64
/-- the facts of a well-formed node -/
structure Node (k:Int) (nm ot:ByteArray) (n:Int) (ty re:Ty) (l:List Tm):Prop where
 f:zH k nm ot n ty re=true
 ar:(l.length:Int)=zFR k nm
 sub:∀ x∈l,x.ok=true
theorem zJq:∀ {l:List Tm} {x:Tm},th l=true->x∈l->x.ok=true
 | t::I,x,h,hx=>by
   simp only [th,oK] at h
   rcases oI.1 hx with rfl | hx
   ·exact h.1
   ·exact zJq h.2 hx
theorem zSU {k:Int} {nm ot:ByteArray} {n:Int} {ty re:Ty} {l:List Tm} (h:(Tm.mk k nm ot n ty re l).ok=true):Node k nm ot n ty re l:=by
 simp only [Tm.ok,oK] at h
 exact ⟨h.2.1,by simpa using h.2.2,λx I=>zJq h.1 I⟩
theorem Node.vt {k n:Int} {nm ot:ByteArray} {ty re:Ty} {l:List Tm} (h:Node k nm ot n ty re l) (I:k=6\/k=9):ty.valid=true:=by
 have:=h.f
 have e:rE k=true:=by rcases I with rfl | rfl<;>rfl
 simp only [zH,oK,e] at this
 simpa using this.1
theorem Node.vr {k n:Int} {nm ot:ByteArray} {ty re:Ty} {l:List Tm} (h:Node k nm ot n ty re l) (I:k=9):re.valid=true:=by
 have:=h.f
 subst I
 simp only [zH,oK] at this
 simpa using this.2.2.1
theorem zN0 {k:Int} {nm:ByteArray} (h:0<=zFR k nm):k=1\/k=2\/k=3\/k=4\/k=5\/k=6\/k=7\/k=8\/k=9\/k=10\/k=11\/k=12\/k=13:=by
 unfold zFR at h
 (repeat' split at h)<;>omega
theorem Ty.cnt_pos (t:Ty):1<=t.cnt:=by cases t;simp only [Ty.cnt];omega
theorem Pre.lv {g:List Tg} {e:Tm} {n:Int} (h:Pre g e n):0<=n/\n<=2:=by
 have:=h.lev
 cases e
 simp only [Tm.lev,oK] at this
 exact yN.1 this.1
theorem zPP:tZero.Is (.ag [.lit (.int .i64 0),.sl none 2 [] 0]):=xb 0
end Go.Proofs.YtmfjakahanbnlaaGreatDoor
