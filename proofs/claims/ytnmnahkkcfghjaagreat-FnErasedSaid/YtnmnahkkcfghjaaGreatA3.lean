/- Terms and typings as plain data; well-formed terms and contexts: the reference's functions. -/
import Derived.Test.YtnmnahkkcfghjaaGreatA2
set_option linter.unusedVariables false
set_option linter.unusedSimpArgs false
namespace Go.Proofs.YtnmnahkkcfghjaaGreat
open Go Go.Proofs Go.Proofs.Tryz Go.IntWalk
inductive Tm where
 | mk (k:Int) (nm ot:ByteArray) (n:Int) (ty re:Ty) (l:List Tm)
def Tm.as:Tm->List Tm
 | .mk _ _ _ _ _ _ l=>l
/-- the cells of a term ahead of its parts -/
structure Tm.Hd (nm ot:ByteArray) (ty re:Ty) (t0 t1 r0 r1:D):Prop where
 nm:nm.size<=4611686018427387904
 ot:ot.size<=4611686018427387904
 ty:ty.Is (.ag [t0,t1])
 re:re.Is (.ag [r0,r1])
mutual
def Tm.Is:Tm->D->Prop
 | .mk k nm ot n ty re l,d=>∃ t0 t1 r0 r1 a es c,d=.ag [.j k,.t nm,.t ot,.j n,t0,t1,r0,r1,.sl a 9 es c]/\Tm.Hd nm ot ty re t0 t1 r0 r1/\es.length<=4611686018427387904/\zLe l es
def zLe:List Tm->List D->Prop
 | [],es=>es=[]
 | t::I,es=>∃ d ds,es=d::ds/\t.Is d/\zLe I ds
end
theorem zF8:∀ {l:List Tm} {es:List D},zLe l es↔All2 Tm.Is l es
 | [],es=>by simp only [zLe,All2]
 | t::U,es=>by
   simp only [zLe,All2]
   exact ⟨λ⟨d,ds,I,J,O⟩=>⟨d,ds,I,J,zF8.1 O⟩,λ⟨d,ds,I,J,O⟩=>⟨d,ds,I,J,zF8.2 O⟩⟩
theorem Tm.is_mk {k:Int} {nm ot:ByteArray} {n:Int} {ty re:Ty} {l:List Tm} {d:D}:(Tm.mk k nm ot n ty re l).Is d ↔
  ∃ t0 t1 r0 r1 a es c,d=.ag [.j k,.t nm,.t ot,.j n,t0,t1,r0,r1,.sl a 9 es c]/\Tm.Hd nm ot ty re t0 t1 r0 r1/\es.length<=4611686018427387904/\All2 Tm.Is l es:=by
 simp only [Tm.Is,zF8]
theorem Tm.ind {P:Tm->Prop} (h:∀ k nm ot n ty re l,(∀ t∈l,P t)->P (.mk k nm ot n ty re l)):∀ t,P t:=λt=>
 Tm.rec (motive_1:=P) (motive_2:=λl=>∀ t∈l,P t) (λk nm ot n ty re l I=>h k nm ot n ty re l I) (by simp) (λt l J O u hu=>by
  rcases oF.1 hu with rfl | hu
  ·exact J
  ·exact O u hu) t
mutual
def Tm.cnt:Tm->Nat
 | .mk _ _ _ _ ty re l=>1+ty.cnt+re.cnt+zI l
def zI:List Tm->Nat
 | []=>0
 | t::I=>t.cnt+zI I
end
theorem xt:∀ {l:List Tm} {t:Tm},t∈l->t.cnt<=zI l
 | u::us,t,h=>by
   simp only [zI]
   rcases oF.1 h with rfl | h
   ·omega
   ·have:=xt h;omega
theorem xq:∀ l:List Tm,l.length<=zI l
 | []=>oD _
 | .mk _ _ _ _ _ _ _::I=>by simp only [zI,Tm.cnt,oO];have:=xq I;omega
mutual
def Tm.dp:Tm->Nat
 | .mk _ _ _ _ _ _ l=>uq l+1
def uq:List Tm->Nat
 | []=>0
 | t::I=>max t.dp (uq I)
end
mutual
theorem Tm.dp_cnt:∀ t:Tm,t.dp<=t.cnt
 | .mk _ _ _ _ ty re l=>by simp only [Tm.dp,Tm.cnt];have:=zCo l;omega
theorem zCo:∀ l:List Tm,uq l<=zI l
 | []=>oD _
 | t::I=>by simp only [uq,zI];have:=t.dp_cnt;have:=zCo I;omega
end
theorem Tm.dp_pos (t:Tm):1<=t.dp:=by cases t;simp only [Tm.dp];omega
theorem vh:∀ {l:List Tm} {t:Tm},t∈l->t.dp<=uq l
 | u::us,t,h=>by
   simp only [uq]
   rcases oF.1 h with rfl | h
   ·omega
   ·have:=vh h;omega
mutual
/-- types and rows of a term are not too long -/
def Tm.G:Tm->Prop
 | .mk _ _ _ _ ty re l=>ty.cnt<=1073741824/\re.cnt<=1073741824/\l.length<=1073741824/\zJb l
def zJb:List Tm->Prop
 | []=>True
 | t::I=>t.G/\zJb I
end
theorem yK:∀ {l:List Tm} {x:Tm},zJb l->x∈l->x.G
 | t::I,x,h,hx=>by
   rcases oF.1 hx with rfl | hx
   ·exact h.1
   ·exact yK h.2 hx
theorem zCa:∀ {l:List Tm},(∀ x∈l,x.G)->zJb l
 | [],_=>trivial
 | t::J,h=>⟨h t (by simp),zCa λx I=>h x (by simp [I])⟩
mutual
theorem Tm.G_cnt:∀ t:Tm,t.cnt<=1073741824->t.G
 | .mk _ _ _ _ ty re l,h=>by
   simp only [Tm.cnt] at h
   have:=xq l
   exact ⟨by omega,by omega,by omega,zIr l (by omega)⟩
theorem zIr:∀ l:List Tm,zI l<=1073741824->zJb l
 | [],_=>trivial
 | t::I,h=>by
   simp only [zI] at h
   exact ⟨Tm.G_cnt t (by omega),zIr I (by omega)⟩
end
structure Tg where
 nm:ByteArray
 ty:Ty
 lv:Int
def Tg.Is (g:Tg) (d:D):Prop:=∃ t0 t1,d=.ag [.t g.nm,t0,t1,.j g.lv]/\g.nm.size<=4611686018427387904/\g.ty.Is (.ag [t0,t1])
theorem Tg.is_mk {nm:ByteArray} {ty:Ty} {lv:Int} {d:D}:(Tg.mk nm ty lv).Is d↔∃ t0 t1,d=.ag [.t nm,t0,t1,.j lv]/\nm.size<=4611686018427387904/\ty.Is (.ag [t0,t1]):=m9
def zGY (s:ByteArray):Int:=if s=bytes [43] then 2 else if s=bytes [45] then 2 else if s=bytes [42] then 2 else if s=bytes [61] then 2 else if s=bytes [60] then 2 else if s=bytes [38] then 2 else if s=bytes [124] then 2 else if s=bytes [33] then 1 else 0
theorem um (s:ByteArray):zGX 102 [.str s] (zGY s):=λN Q I=>by
 refine zDq N s Q ?_
 repeat' first|with_reducible intro _|simp only[Y1,Y2,Y3,Y4]|with_reducible refine X ?_ ?_|refine⟨_,_,_,rfl,?_⟩|refine⟨_,rfl,?_⟩|refine And.intro (by first|omega|trivial|(show _=_;rfl)|(with_reducible constructor)<;>first|omega|trivial|rfl) ?_|fail
 all_goals (refine Qi (I _ (by assumption)) ?_;unfold zGY;(repeat' split)<;>first | rfl | contradiction)
def Ty.zero (t:Ty):Bool:=t.k==0&&(t.as.length:Int)==0
theorem pP (t:Ty) (d:D) (hd:t.Is d):zBz 106 [.dg 2 d] t.zero:=λN Q O=>by
 cases t with
 | mk k l=>
 obtain ⟨a,es,c,rfl,J,I⟩:=Ty.is_mk.1 hd
 have U:=I.len
 refine zE0 N _ Q λ_=>?_
 repeat' first|with_reducible intro _|simp only[Y1,Y2,Y3,Y4]|with_reducible refine X ?_ ?_|refine⟨_,_,_,rfl,?_⟩|refine⟨_,rfl,?_⟩|refine And.intro (by first|omega|trivial|(show _=_;rfl)|(with_reducible constructor)<;>first|omega|trivial|rfl) ?_|fail
 all_goals refine Qb (O _ (by assumption)) ?_
 all_goals simp [Ty.zero,Ty.k,Ty.as,U, *]
def yu (k:Int) (nm ot:ByteArray):Bool:=
 if k=4 then decide (zGY nm>0)&&decide (ot=bytes []) else if k=1\/k=6\/k=8 then xJ nm&&decide (ot=bytes []) else if k=9 then xJ nm&&(xJ ot&&!decide (nm=ot)) else decide (nm=bytes [])&&decide (ot=bytes [])
theorem zTN (a b:Int):(a==b)=decide (a=b):=by rw [mf];simp
def sD (k:Int):Bool:=k==6||k==9
def zJ (k:Int) (nm ot:ByteArray) (n:Int) (ty re:Ty):Bool:=
 (sD k==ty.valid)&&((sD k||ty.zero)&&(((k==9)==re.valid)&&((k==9||re.zero)&&(inB n 0 (if k=2 then 10006 else if k=3 then 1 else 0)&&yu k nm ot))))
def zIt (k:Int) (nm:ByteArray):Int:=
 if k=1\/k=2\/k=3 then 0 else if k=4 then zGY nm else if k=6\/k=9\/k=10\/k=11\/k=12\/k=13 then 1 else if k=7\/k=8 then 2 else if k=5 then 3 else -1
mutual
def Tm.ok:Tm->Bool
 | .mk k nm ot n ty re l=>qR l&&(zJ k nm ot n ty re&&(l.length:Int)==zIt k nm)
def qR:List Tm->Bool
 | []=>true
 | t::I=>t.ok&&qR I
end
theorem zDm {k n:Int} {nm ot:ByteArray} {ty re:Ty} {t0 t1 r0 r1 x:D} (h:Tm.Hd nm ot ty re t0 t1 r0 r1):zBz 107 [.dg 9 (.ag [.j k,.t nm,.t ot,.j n,t0,t1,r0,r1,x])] (yu k nm ot):=λN Q I=>by
 refine zDn N _ Q λ_=>?_
 repeat' first|with_reducible intro _|simp only[Y1,Y2,Y3,Y4]|with_reducible refine X ?_ ?_|refine⟨_,_,_,rfl,?_⟩|refine⟨_,rfl,?_⟩|refine And.intro (by first|omega|trivial|(show _=_;rfl)|(with_reducible constructor)<;>first|omega|trivial|rfl) ?_|refine (um _) _ _ ?_|refine (tT _ h.nm) _ _ ?_|refine (tT _ h.ot) _ _ ?_|fail
 all_goals (refine Qb (I _ (by omega)) ?_;simp [yu,uO, *])
theorem zCT {k n:Int} {nm ot:ByteArray} {ty re:Ty} {t0 t1 r0 r1 x:D} (h:Tm.Hd nm ot ty re t0 t1 r0 r1) (hc:ty.cnt<=1073741824) (I:re.cnt<=1073741824) :
  zBz 94 [.dg 9 (.ag [.j k,.t nm,.t ot,.j n,t0,t1,r0,r1,x])] (zJ k nm ot n ty re):=λN Q J=>by
 refine zCl N _ Q λ_=>?_
 repeat' first|with_reducible intro _|simp only[Y1,Y2,Y3,Y4]|with_reducible refine X ?_ ?_|refine⟨_,_,_,rfl,?_⟩|refine⟨_,rfl,?_⟩|refine And.intro (by first|omega|trivial|(show _=_;rfl)|(with_reducible constructor)<;>first|omega|trivial|rfl) ?_|refine (yL _ _ h.ty hc) _ _ ?_|refine (yL _ _ h.re I) _ _ ?_|refine (pP _ _ h.ty) _ _ ?_|refine (pP _ _ h.re) _ _ ?_|refine (yR _ _ _) _ _ ?_|refine (zDm h) _ _ ?_|fail
 all_goals first | (exfalso;omega) | (refine Qb (J _ (by omega)) ?_;simp [zJ,sD, *];done) | (refine Qb (J _ (by omega)) ?_;simp_all [zJ,sD];done) | (refine Qb (J _ (by omega)) ?_;simp_all only [zJ,sD,zTN];simp_all;done)
theorem xV {k n:Int} {nm ot:ByteArray} {t0 t1 r0 r1 x:D}:zGX 81 [.dg 9 (.ag [.j k,.t nm,.t ot,.j n,t0,t1,r0,r1,x])] (zIt k nm):=λN Q I=>by
 refine zDu N _ Q λ_=>?_
 repeat' first|with_reducible intro _|simp only[Y1,Y2,Y3,Y4]|with_reducible refine X ?_ ?_|refine⟨_,_,_,rfl,?_⟩|refine⟨_,rfl,?_⟩|refine And.intro (by first|omega|trivial|(show _=_;rfl)|(with_reducible constructor)<;>first|omega|trivial|rfl) ?_|refine (um _) _ _ ?_|fail
 all_goals (refine Qi (I _ (by omega)) ?_;simp [zIt, *])
theorem qC:∀ (t:Tm) (d:D),t.Is d->t.G->zBz 70 [.dg 9 d] t.ok:=by
 refine Tm.ind λk nm ot n ty re l ih d hd hc N Q hQ=>?_
 obtain ⟨t0,t1,r0,r1,a,es,c,rfl,hh,O,U⟩:=Tm.is_mk.1 hd
 have hl:=U.len
 obtain ⟨g1,g2,_,g4⟩:=hc
 refine zE6 N _ Q λ_=>?_
 have key:=up U O (λi xs=>∀ (N':Nat),N<=N'->(∀ N'',N'<=N''->Q (qR xs&&(zJ k nm ot n ty re&&(l.length:Int)==zIt k nm)) N'')->wc Q N i (.ag [.j k,.t nm,.t ot,.j n,t0,t1,r0,r1,.sl a 9 es c]) N') ?_ ?_
 ·exact key N (oD _) hQ
 ·intro i Y _ N' aa J
  refine rH _ _ _ _ _ ?_
  repeat' first|with_reducible intro _|simp only[Y,Y1,Y2,Y3,Y4]|with_reducible refine X ?_ ?_|refine⟨_,_,_,rfl,?_⟩|refine⟨_,rfl,?_⟩|refine And.intro (by first|omega|trivial|(show _=_;rfl)|(with_reducible constructor)<;>first|omega|trivial|rfl) ?_|refine (zCT hh (by omega) (by omega)) _ _ ?_|refine xV _ _ ?_|fail
  all_goals (refine Qb (J _ (by omega)) ?_;simp [qR, *])
 ·intro i x xs I _ ab N' aa J
  have hb:=I.b
  have ac:=yK g4 I.m
  refine rH _ _ _ _ _ ?_
  repeat' first|with_reducible intro _|simp only[I.lt,I.w,oK,Y1,Y2,Y3,Y4]|with_reducible refine X ?_ ?_|refine⟨_,_,_,rfl,?_⟩|refine⟨_,rfl,?_⟩|refine And.intro (by first|omega|trivial|(show _=_;rfl)|(with_reducible constructor)<;>first|omega|trivial|rfl) ?_|refine (ih x I.m _ I.r ac) _ _ ?_|fail
  ·refine Qb (J _ (by omega)) ?_;simp [qR, *]
  ·exact ab _ (by omega) λN'' h=>Qb (J N'' (by omega)) (by simp [qR, *])
theorem zFM (t:Tm) (d:D) (h:t.Is d) (hc:t.cnt<=1073741824):zBz 70 [.dg 9 d] t.ok:=qC t d h (Tm.G_cnt t hc)
theorem vm {n a b:Int}:inB n a b=true↔a<=n/\n<=b:=by simp [inB]
def zW (k n:Int):Int:=if k=10 then n+1 else if k=11 then n - 1 else n
mutual
def Tm.lev:Tm->Int->Bool
 | .mk k _ _ _ _ _ l,n=>inB n 0 2&&sR l (zW k n)
def sR:List Tm->Int->Bool
 | [],_=>true
 | t::I,n=>t.lev n&&sR I n
end
theorem tR {k n m:Int} {c1 I J O U Y c8:D} (h:0<=m/\m<=2):zGX 95 [.dg 9 (.ag [.j k,c1,I,.j n,J,O,U,Y,c8]),.j m] (zW k m):=λN Q hQ=>by
 refine qk N _ m Q λ_=>?_
 rw [i64_in (m+1) (by omega),i64_in (m - 1) (by omega)]
 repeat' first|with_reducible intro _|simp only[Y1,Y2,Y3,Y4]|with_reducible refine X ?_ ?_|refine⟨_,_,_,rfl,?_⟩|refine⟨_,rfl,?_⟩|refine And.intro (by first|omega|trivial|(show _=_;rfl)|(with_reducible constructor)<;>first|omega|trivial|rfl) ?_|fail
 all_goals (refine Qi (hQ _ (by omega)) ?_;simp [zW, *])
theorem zCS:∀ (t:Tm) (d:D),t.Is d->∀ m:Int,zBz 71 [.dg 9 d,.j m] (t.lev m):=by
 refine Tm.ind λk nm ot n ty re l ih d hd m N Q hQ=>?_
 obtain ⟨t0,t1,r0,r1,a,es,c,rfl,hh,U,Y⟩:=Tm.is_mk.1 hd
 have hl:=Y.len
 refine zH2 N _ m Q λ_=>?_
 cases I:inB m 0 2 with
 | false=>
   repeat' first|with_reducible intro _|simp only[I,Y1,Y2,Y3,Y4]|with_reducible refine X ?_ ?_|refine⟨_,_,_,rfl,?_⟩|refine⟨_,rfl,?_⟩|refine And.intro (by first|omega|trivial|(show _=_;rfl)|(with_reducible constructor)<;>first|omega|trivial|rfl) ?_|refine (yR _ _ _) _ _ ?_|fail
   exact Qb (hQ _ (by omega)) (by simp [Tm.lev,I])
 | true=>
   have hb:=vm.1 I
   have key:=up Y U (λi xs=>∀ (N':Nat),N<=N'->(∀ N'',N'<=N''->Q (sR xs (zW k m)) N'')->vb Q N m i (.ag [.j k,.t nm,.t ot,.j n,t0,t1,r0,r1,.sl a 9 es c]) N') ?_ ?_
   ·repeat' first|with_reducible intro _|simp only[I,Y1,Y2,Y3,Y4]|with_reducible refine X ?_ ?_|refine⟨_,_,_,rfl,?_⟩|refine⟨_,rfl,?_⟩|refine And.intro (by first|omega|trivial|(show _=_;rfl)|(with_reducible constructor)<;>first|omega|trivial|rfl) ?_|refine (yR _ _ _) _ _ ?_|fail
    exact key _ (by omega) λN'' h=>Qb (hQ N'' (by omega)) (by simp [Tm.lev,I])
   ·intro i aa _ N' ab O
    refine qv _ _ _ _ _ _ ?_
    repeat' first|with_reducible intro _|simp only[aa,Y1,Y2,Y3,Y4]|with_reducible refine X ?_ ?_|refine⟨_,_,_,rfl,?_⟩|refine⟨_,rfl,?_⟩|refine And.intro (by first|omega|trivial|(show _=_;rfl)|(with_reducible constructor)<;>first|omega|trivial|rfl) ?_|fail
    exact Qb (O _ (by omega)) (by simp [sR])
   ·intro i x xs J _ ac N' ab O
    have ae:=J.b
    refine qv _ _ _ _ _ _ ?_
    repeat' first|with_reducible intro _|simp only[J.lt,J.w,oK,Y1,Y2,Y3,Y4]|with_reducible refine X ?_ ?_|refine⟨_,_,_,rfl,?_⟩|refine⟨_,rfl,?_⟩|refine And.intro (by first|omega|trivial|(show _=_;rfl)|(with_reducible constructor)<;>first|omega|trivial|rfl) ?_|refine (tR hb) _ _ ?_|refine (ih x J.m _ J.r _) _ _ ?_|fail
    ·refine Qb (O _ (by omega)) ?_;simp [sR, *]
    ·exact ac _ (by omega) λN'' h=>Qb (O N'' (by omega)) (by simp [sR, *])
def zAw (t:Tm) (n:Int):Bool:=t.ok&&t.lev n
theorem vK (t:Tm) (d:D) (hd:t.Is d) (hc:t.G) (m:Int):zBz 40 [.dg 9 d,.j m] (zAw t m):=λN Q I=>by
 refine zDS N _ m Q λ_=>?_
 repeat' first|with_reducible intro _|simp only[Y1,Y2,Y3,Y4]|with_reducible refine X ?_ ?_|refine⟨_,_,_,rfl,?_⟩|refine⟨_,rfl,?_⟩|refine And.intro (by first|omega|trivial|(show _=_;rfl)|(with_reducible constructor)<;>first|omega|trivial|rfl) ?_|refine (qC t d hd hc) _ _ ?_|refine (zCS t d hd m) _ _ ?_|fail
 all_goals (refine Qb (I _ (by omega)) ?_;simp [zAw, *])
theorem zC6 (t:Tm) (d:D) (hd:t.Is d) (hc:t.cnt<=1073741824) (m:Int):zBz 40 [.dg 9 d,.j m] (zAw t m):=vK t d hd (Tm.G_cnt t hc) m
structure Ctx (g:List Tg) (es:List D):Prop where
 len:es.length<=4611686018427387904
 all:All2 Tg.Is g es
def Tg.ok (g:Tg):Bool:=xJ g.nm&&(g.ty.valid&&inB g.lv 0 2)
def zFA:List Tg->Bool
 | []=>true
 | g::I=>g.ok&&zFA I
def zH5 (g:List Tg):Bool:=zFA g&&decide ((g.length:Int)<=12)
theorem sM {g:List Tg} {es:List D} (h:Ctx g es) (hc:∀ x∈g,x.ty.cnt<=1073741824) (a:Option Addr) (c:Nat):zBz 39 [.sv a 4 es c] (zH5 g):=λN Q hQ=>by
 have hl:=h.all.len
 refine zHm N a es c Q λ_=>?_
 have key:=up h.all h.len (λi xs=>∀ (N':Nat),N<=N'->(∀ N'',N'<=N''->Q (zFA xs&&decide ((g.length:Int)<=12)) N'')->wv Q N a es c i N') ?_ ?_
 ·exact key N (oD _) hQ
 ·intro i O _ N' U J
  refine qE _ _ _ _ _ _ _ ?_
  repeat' first|with_reducible intro _|simp only[O,Y1,Y2,Y3,Y4]|with_reducible refine X ?_ ?_|refine⟨_,_,_,rfl,?_⟩|refine⟨_,rfl,?_⟩|refine And.intro (by first|omega|trivial|(show _=_;rfl)|(with_reducible constructor)<;>first|omega|trivial|rfl) ?_|fail
  refine Qb (J _ (by omega)) ?_;simp [zFA,hl]
 ·intro i x xs I _ Y N' U J
  have hb:=I.b
  obtain ⟨t0,t1,hd,hs,ht⟩:=I.r
  refine qE _ _ _ _ _ _ _ ?_
  repeat' first|with_reducible intro _|simp only[I.lt,I.w,oK,hd,Y1,Y2,Y3,Y4]|with_reducible refine X ?_ ?_|refine⟨_,_,_,rfl,?_⟩|refine⟨_,rfl,?_⟩|refine And.intro (by first|omega|trivial|(show _=_;rfl)|(with_reducible constructor)<;>first|omega|trivial|rfl) ?_|refine (tT _ hs) _ _ ?_|refine (yL _ _ ht (hc x I.m)) _ _ ?_|refine (yR _ _ _) _ _ ?_|fail
  all_goals first
   | (refine Y _ (by omega) λN'' h=>Qb (J N'' (by omega)) ?_;simp [zFA,Tg.ok, *];done)
   | (refine Qb (J _ (by omega)) ?_;simp [zFA,Tg.ok, *];done)
def tg0:Tg:=⟨bytes [],tZero,0⟩
def vu (g:List Tg) (s:ByteArray):Nat->Int
 | 0 => -1
 | k+1=>if (g.getD k tg0).nm=s then k else vu g s k
def zM (g:List Tg) (s:ByteArray):Int:=vu g s g.length
theorem p7 (g:List Tg) (s:ByteArray):∀ n:Nat,vu g s n = -1\/(0<=vu g s n/\vu g s n<n)
 | 0=>.inl rfl
 | n+1=>by
   simp only [vu]
   split
   ·exact .inr (by omega)
   ·rcases p7 g s n with h | h
    ·exact .inl h
    ·exact .inr (by omega)
theorem zTL {α:Type} {R:α->D->Prop} {l:List α} {es:List D} (h:All2 R l es) (I:es.length<=4611686018427387904) (P:Int->Prop) (U:P (-1))
  (hs:∀ (i:Nat) x,At R l es i x->decide ((i:Int)≥0)=true->IntKind.i64.wrap ((i:Int) - 1)=(i:Int) - 1->P ((i:Int) - 1)->P i):P ((es.length:Int) - 1):=by
 have Y:=h.len
 have key:∀ n:Nat,n<=l.length->P ((n:Int) - 1):=by
  intro n
  induction n with
  | zero=>intro _;exact U
  | succ n ih=>
    intro J
    have O:l[n]?=some l[n]:=oH J
    have e:((n+1:Nat):Int) - 1=n:=by omega
    rw [e]
    exact hs n _ ⟨mQ (by omega),⟨by omega,by omega⟩,by rw [i64_in _ (by omega)];simp,h.get O,mG J,O⟩ (mQ (by omega)) (i64_in _ (by omega)) (ih (by omega))
 rw [Y]
 exact key _ (oD _)
theorem zMR {α:Type} {l:List α} {i:Nat} {x d:α} (h:l[i]?=some x):l.getD i d=x:=by simp [oA,h]
theorem vX {g:List Tg} {es:List D} (h:Ctx g es) (a:Option Addr) (c:Nat) (s:ByteArray):zGX 84 [.sv a 4 es c,.str s] (zM g s):=λN Q hQ=>by
 have hl:=h.all.len
 have h1:=h.len
 refine zFT N a es c s Q λ_=>?_
 have key:=zTL h.all h.len (λm=>∀ (N':Nat),N<=N'->(∀ N'',N'<=N''->Q (vu g s (m+1).toNat) N'')->wQ Q N a es c s m N') ?_ ?_
 ·rw [i64_in _ (by omega)]
  exact key N (oD _) λN' J=>Qi (hQ N' J) (by rw [zM,<-hl];congr 1;omega)
 ·intro N' J I
  refine s8 _ _ _ _ _ _ _ _ ?_
  repeat' first|with_reducible intro _|simp only[Y1,Y2,Y3,Y4]|with_reducible refine X ?_ ?_|refine⟨_,_,_,rfl,?_⟩|refine⟨_,rfl,?_⟩|refine And.intro (by first|omega|trivial|(show _=_;rfl)|(with_reducible constructor)<;>first|omega|trivial|rfl) ?_|fail
  ·omega
  ·exact I _ (by assumption)
 ·intro i x O U hw ih N' J I
  have hb:=O.b
  obtain ⟨t0,t1,hd,hs,ht⟩:=O.r
  have e1:((i:Int)+1).toNat=i+1:=by omega
  have e2:((i:Int) - 1+1).toNat=i:=by omega
  rw [e1] at I
  simp only [vu,zMR O.g] at I
  rw [e2] at ih
  refine s8 _ _ _ _ _ _ _ _ ?_
  repeat' first|with_reducible intro _|simp only[U,hw,oK,hd,Y1,Y2,Y3,Y4]|with_reducible refine X ?_ ?_|refine⟨_,_,_,rfl,?_⟩|refine⟨_,rfl,?_⟩|refine And.intro (by first|omega|trivial|(show _=_;rfl)|(with_reducible constructor)<;>first|omega|trivial|rfl) ?_|fail
  ·rename_i Y _ _;exact Qi (I _ (by omega)) (by rw [if_pos Y])
  ·rename_i Y;exact ih _ (by omega) λN'' h=>Qi (I N'' (by omega)) (by rw [if_neg Y])
theorem Ty.is_cells {t:Ty} {d:D} (h:t.Is d):t.Is (.ag [D.cell d 0,D.cell d 1]):=by
 cases t with
 | mk k l=>obtain ⟨a,es,c,rfl,_,_⟩:=Ty.is_mk.1 h;exact h
def r9 (g:List Tg) (n:Int) (x:Tg) (i:Nat):Bool:=x.ty.base&&(decide (x.lv<=n)&&decide (zM g x.nm=(i:Int)))
def wi (g:List Tg) (n:Int):List Tg->Nat->List Tg
 | [],_=>[]
 | x::xs,i=>if r9 g n x i then x::wi g n xs (i+1) else wi g n xs (i+1)
def uy (g:List Tg) (n:Int):List Tg:=wi g n g 0
theorem zAT (g:List Tg) (n:Int):∀ (l:List Tg) (i:Nat),(∀ x∈wi g n l i,x∈l)/\(wi g n l i).length<=l.length
 | [],i=>by simp [wi]
 | x::xs,i=>by
   have h:=zAT g n xs (i+1)
   simp only [wi]
   split
   ·refine ⟨λy hy=>?_,by simp;exact h.2⟩
    rcases oF.1 hy with rfl | hy
    ·exact mA
    ·exact nZ _ (h.1 y hy)
   ·exact ⟨λy hy=>nZ _ (h.1 y hy),by have:=h.2;simp;omega⟩
theorem uk {g:List Tg} {es:List D} (h:Ctx g es) (hg:g.length<=1073741824) (hc:∀ x∈g,x.ty.cnt<=1073741824) (a:Option Addr) (c:Nat) (n:Int) :
  ∀ (N:Nat) (Q:QT [.sl 4]),(∀ a' J c' N',N<=N'->Ctx (uy g n) J->Q a' J c' N')->ACalls prog 89 [.sl 4] [.sv a 4 es c,.j n] N Q:=λN Q hQ=>by
 have hl:=h.all.len
 refine zDr N a es c n Q λ_=>?_
 have key:=up h.all h.len (λi xs=>∀ (r:List D) (m q:Nat) (N':Nat) (done:List Tg),N<=N'->m=r.length->All2 Tg.Is done r->done.length<=i->done++wi g n xs i=uy g n->zx Q N a es c n m q i r q N') ?_ ?_
 ·exact key [] 0 0 N [] (oD _) rfl rfl (oD _) rfl
 ·intro i Y hi r m q N' done aa hm O ab hd
  refine t6 _ _ _ _ _ _ _ _ _ _ _ _ ?_
  repeat' first|with_reducible intro _|simp only[Y,Y1,Y2,Y3,Y4]|with_reducible refine X ?_ ?_|refine⟨_,_,_,rfl,?_⟩|refine⟨_,rfl,?_⟩|refine And.intro (by first|omega|trivial|(show _=_;rfl)|(with_reducible constructor)<;>first|omega|trivial|rfl) ?_|fail
  refine hQ _ _ _ _ (by omega) ⟨by have:=O.len;omega,?_⟩
  simp only [wi,nO] at hd
  rwa [<-hd]
 ·intro i x xs I _ U r m q N' done aa hm O ab hd
  have hb:=I.b
  have ae:=O.len
  obtain ⟨t0,t1,he,hs,ht⟩:=I.r
  simp only [wi] at hd
  refine t6 _ _ _ _ _ _ _ _ _ _ _ _ ?_
  repeat' first|with_reducible intro _|simp only[I.lt,I.w,oK,he,Y1,Y2,Y3,Y4]|with_reducible refine X ?_ ?_|refine⟨_,_,_,rfl,?_⟩|refine⟨_,rfl,?_⟩|refine And.intro (by first|omega|trivial|(show _=_;rfl)|(with_reducible constructor)<;>first|omega|trivial|rfl) ?_|refine (tg _ _ ht) _ _ ?_|refine (vX h a c _) _ _ ?_|refine (zH _ _ ht (hc x I.m)) _ _ ?_|fail
  ·rename_i N2 ah x' N3 ai hx ho _ _
   have ac:r9 g n x i=true:=by simp [r9, *]
   rw [if_pos ac] at hd
   refine ⟨by unfold zA;simp only [oI,nB];omega,λc2=>U _ _ _ _ (done++[x]) (by omega) rfl (O.snoc ⟨_,_,rfl,hs,Ty.is_cells hx⟩) (by simp;omega) (by simpa using hd)⟩
  all_goals (refine U _ _ _ _ done (by omega) hm O (by omega) ?_;rw [<-hd,if_neg (by simp [r9, *])])
theorem yC {g:List Tg} {es:List D} (h:Ctx g es) (hg:g.length<=1073741824) (a:Option Addr) (c:Nat) {s:ByteArray} (hs:s.size<=4611686018427387904) {t:Ty} {d:D} (J:t.Is d) (n:Int) :
  ∀ (N:Nat) (Q:QT [.sl 4]),(∀ O I U N',N<=N'->Ctx (g++[⟨s,t,n⟩]) I->Q O I U N')->ACalls prog 65 [.sl 4] [.sv a 4 es c,.str s,.dg 2 d,.j n] N Q:=λN Q Y=>by
 have hl:=h.all.len
 have hb:∀ x:D,zA ([]++es) [x] 56:=λx=>by unfold zA;simp only [oc,oI,nB];omega
 have aa:zA [] es 56:=by unfold zA;simp only [oc];omega
 refine zGS N a es c s d n Q λ_ _=>?_
 repeat' first|with_reducible intro _|simp only[Y1,Y2,Y3,Y4]|with_reducible refine X ?_ ?_|refine⟨_,_,_,rfl,?_⟩|refine⟨_,rfl,?_⟩|refine And.intro (by first|omega|trivial|(show _=_;rfl)|(with_reducible constructor)<;>first|omega|trivial|rfl) ?_|fail
 refine ⟨hb _,λc2=>?_⟩
 repeat' first|with_reducible intro _|simp only[Y1,Y2,Y3,Y4]|with_reducible refine X ?_ ?_|refine⟨_,_,_,rfl,?_⟩|refine⟨_,rfl,?_⟩|refine And.intro (by first|omega|trivial|(show _=_;rfl)|(with_reducible constructor)<;>first|omega|trivial|rfl) ?_|fail
 refine Y _ _ _ _ (by omega) ⟨by simp;omega,?_⟩
 simp only [oc]
 exact h.all.snoc ⟨_,_,rfl,hs,Ty.is_cells J⟩
def zJt (o:Option Ty) (d:D) (b:Bool):Prop:=match o with
 | some t=>b=true/\t.Is d
 | none=>b=false
/-- the kind of what an operation works on -/
def zDi (s:ByteArray):Int:=if s=bytes [38] then 2 else if s=bytes [124] then 2 else if s=bytes [33] then 2 else 1
def uH (s:ByteArray):Ty:=if s=bytes [43] then tInt else if s=bytes [45] then tInt else if s=bytes [42] then tInt else tBool
def zMa (w:Int):List Ty->Bool
 | []=>true
 | t::I=>decide (t.k=w)&&zMa w I
def zM7 (s:ByteArray) (I:List Ty):Option Ty:=if zMa (zDi s) I then some (uH s) else none
theorem zIJ {ts:List Ty} {es:List D} (h:All2 Ty.Is ts es) (hlen:es.length<=4611686018427387904) (a:Option Addr) (c:Nat) (s:ByteArray) :
  ∀ (N:Nat) (Q:QT [.ag 2,.bool]),(∀ d b N',N<=N'->zJt (zM7 s ts) d b->(∀ x∈d.foot,N<=x)->Q d b N')->ACalls prog 108 [.ag 2,.bool] [.str s,.sv a 2 es c] N Q:=fun N Q hQ=>by
 refine zIT N s a es c Q fun _=>?_
 have key:yM Q N s a es c (zDi s) (0:Nat) 0 none [] 0 N:=by
  refine up h hlen (fun i xs=>∀ (N':Nat),N<=N'->zMa (zDi s) xs=zMa (zDi s) ts->yM Q N s a es c (zDi s) i 0 none [] 0 N') ?_ ?_ N (oD _) rfl
  ·intro i hlt _ N' hN' hk
   refine pK _ _ _ _ _ _ _ _ _ _ _ _ _ ?_
   have ho:zM7 s ts=some (uH s):=by rw [zM7,<-hk];rfl
   rw [ho] at hQ
   repeat' first|with_reducible intro _|simp only[hlt,Y1,Y2,Y3,Y4]|with_reducible refine X ?_ ?_|refine⟨_,_,_,rfl,?_⟩|refine⟨_,rfl,?_⟩|refine And.intro (by first|omega|trivial|(show _=_;rfl)|(with_reducible constructor)<;>first|omega|trivial|rfl) ?_|refine xG _ _ ?_|refine xO _ _ ?_|fail
   all_goals
    rename_i hx ho _ _ _ _
    refine hQ _ _ _ (by omega) ⟨rfl,?_⟩ fun b hb=>by have:=ho.lo b hb;omega
    have e:uH s=tInt\/uH s=tBool:=by unfold uH;(repeat' split)<;>simp
    first
     | (have e:uH s=tInt:=by unfold uH;(repeat' split)<;>first | rfl | contradiction
        rw [e];exact hx)
     | (have e:uH s=tBool:=by unfold uH;(repeat' split)<;>first | rfl | contradiction
        rw [e];exact hx)
  ·intro i x xs hat _ ih2 N' hN' hk
   have hb:=hat.b
   cases x with
   | mk k l=>
   obtain ⟨a1,es1,c1,he,_,_⟩:=Ty.is_mk.1 hat.r
   refine pK _ _ _ _ _ _ _ _ _ _ _ _ _ ?_
   repeat' first|with_reducible intro _|simp only[hat.lt,hat.w,oK,he,Y1,Y2,Y3,Y4]|with_reducible refine X ?_ ?_|refine⟨_,_,_,rfl,?_⟩|refine⟨_,rfl,?_⟩|refine And.intro (by first|omega|trivial|(show _=_;rfl)|(with_reducible constructor)<;>first|omega|trivial|rfl) ?_|fail
   ·rename_i hne _ _
    refine hQ _ _ _ (by omega) ?_ (by simp [D.foot,zF])
    have:zMa (zDi s) ts=false:=by rw [<-hk];simp [zMa,Ty.k,hne]
    rw [zM7,this];rfl
   ·rename_i hne
    exact ih2 _ hN' (by rw [<-hk];simp [zMa,Ty.k,hne])
 have e:zDi s=2\/zDi s=1:=by unfold zDi;(repeat' split)<;>simp
 repeat' first|with_reducible intro _|simp only[Y1,Y2,Y3,Y4]|with_reducible refine X ?_ ?_|refine⟨_,_,_,rfl,?_⟩|refine⟨_,rfl,?_⟩|refine And.intro (by first|omega|trivial|(show _=_;rfl)|(with_reducible constructor)<;>first|omega|trivial|rfl) ?_|fail
 all_goals
  first
   | (have e:zDi s=2:=by unfold zDi;(repeat' split)<;>first | rfl | contradiction
      rw [e] at key;exact key)
   | (have e:zDi s=1:=by unfold zDi;(repeat' split)<;>first | rfl | contradiction
      rw [e] at key;exact key)
/-- the type of a form of parts of these types -/
def yo (k:Int) (s:ByteArray) (I:List Ty):Option Ty:=
 if k=4 then zM7 s I
 else if k=5 then (if (I.getD 0 tZero).k=2/\zDj (I.getD 1 tZero) (I.getD 2 tZero) then some (I.getD 1 tZero) else none)
 else if (I.getD 0 tZero).k=3/\zDj ((I.getD 0 tZero).as.getD 0 tZero) (I.getD 1 tZero) then some ((I.getD 0 tZero).as.getD 1 tZero) else none
theorem Ty.form_len {k:Int} {l:List Ty} (h:(Ty.mk k l).valid=true):rp k l.length=true:=by
 simp only [Ty.valid,Ty.form,oG] at h
 exact h.2.2
theorem Ty.valid_cnt {t:Ty} (h:t.valid=true):t.cnt<=30:=by
 simp only [Ty.valid,oG,o3] at h
 exact h.1.1
theorem zFH {I:List Ty} {es:List D} (h:All2 Ty.Is I es) (U:es.length<=4611686018427387904) (a:Option Addr) (c:Nat) {k n:Int} {s:ByteArray} {c2 c4 c5 c6 c7 c8:D}
  (hv:∀ t∈I,t.valid=true) (hk:k=4\/k=5/\I.length=3\/k=7/\I.length=2) :
  ∀ (N:Nat) (Q:QT [.ag 2,.bool]),(∀ d b N',N<=N'->zJt (yo k s I) d b->(∀ x∈d.foot,x∈zF es\/N<=x)->Q d b N') ->
  ACalls prog 98 [.ag 2,.bool] [.dg 9 (.ag [.j k,.t s,c2,.j n,c4,c5,c6,c7,c8]),.sv a 2 es c] N Q:=λN Q hQ=>by
 refine zFk N _ a es c Q λ_ _=>?_
 rcases hk with rfl | ⟨rfl,hl⟩ | ⟨rfl,hl⟩
 ·repeat' first|with_reducible intro _|simp only[Y1,Y2,Y3,Y4]|with_reducible refine X ?_ ?_|refine⟨_,_,_,rfl,?_⟩|refine⟨_,rfl,?_⟩|refine And.intro (by first|omega|trivial|(show _=_;rfl)|(with_reducible constructor)<;>first|omega|trivial|rfl) ?_|refine (zIJ h U a c s) _ _ ?_|fail
  ·rename_i N1 ac d b N2 ae ho ah _ _ N3 ai
   exact hQ _ _ _ (by omega) (by simpa [yo] using ho) λx Y=>.inr (by have:=ah x Y;omega)
  all_goals (exfalso;omega)
 ·obtain ⟨t0,t1,t2,rfl⟩:∃ t0 t1 t2,I=[t0,t1,t2]:=by
   match I,hl with
   | [t0,t1,t2],_=>exact ⟨t0,t1,t2,rfl⟩
  obtain ⟨d0,_,rfl,h0,d1,_,rfl,h1,d2,_,rfl,h2,rfl⟩:=h
  cases t0 with
  | mk O l0=>
  obtain ⟨a0,aj,c0,rfl,ak,aa⟩:=Ty.is_mk.1 h0
  have hq:∀ (b:Bool) (N':Nat),N<=N'->(O=2/\zDj t1 t2=b\/¬O=2/\b=false)->Q d1 b N':=λb N' J hb=>by
   refine hQ _ _ _ J ?_ λx Y=>.inl (by simp only [zF,oJ];exact .inr (.inl Y))
   rcases hb with ⟨e1,e2⟩ | ⟨e1,rfl⟩
   ·cases b<;>simp [yo,Ty.k,e1,e2,zJt,h1]
   ·simp [yo,Ty.k,e1,zJt]
  repeat' first|with_reducible intro _|simp only[oO,oX,Y1,Y2,Y3,Y4]|with_reducible refine X ?_ ?_|refine⟨_,_,_,rfl,?_⟩|refine⟨_,rfl,?_⟩|refine And.intro (by first|omega|trivial|(show _=_;rfl)|(with_reducible constructor)<;>first|omega|trivial|rfl) ?_|refine (zj _ _ _ _ h1 h2) _ _ ?_|fail
  all_goals first | (exfalso;omega) | skip
  ·exact hq _ _ (by omega) (.inl ⟨by assumption,rfl⟩)
  ·exact hq _ _ (by omega) (.inr ⟨by assumption,rfl⟩)
 ·obtain ⟨t0,t1,rfl⟩:∃ t0 t1,I=[t0,t1]:=by
   match I,hl with
   | [t0,t1],_=>exact ⟨t0,t1,rfl⟩
  obtain ⟨d0,_,rfl,h0,d1,_,rfl,h1,rfl⟩:=h
  cases t0 with
  | mk O l0=>
  obtain ⟨a0,aj,c0,rfl,ak,aa⟩:=Ty.is_mk.1 h0
  have hf:=Ty.form_len (hv _ mA)
  have al:=Ty.valid_cnt (hv _ mA)
  have hz:∀ N',N<=N'->¬(O=3/\zDj (l0.getD 0 tZero) t1=true)->Q (.ag [.j 0,.sl none 2 [] 0]) false N':=λN' J hb=>by
   refine hQ _ _ _ J ?_ (by simp [D.foot,zF])
   have:yo 7 s [.mk O l0,t1]=none:=by
    simp only [yo]
    rw [if_neg (by omega),if_neg (by omega)]
    exact if_neg hb
   rw [this];rfl
  by_cases hk:O=3
  ·subst hk
   have ab:(l0.length:Int)=2:=by simpa [rp] using hf
   have ab:l0.length=2:=by omega
   obtain ⟨u0,u1,rfl⟩:∃ t0 t1,l0=[t0,t1]:=by
    match l0,ab with
    | [t0,t1],_=>exact ⟨t0,t1,rfl⟩
   obtain ⟨x0,_,rfl,am,x1,_,rfl,ao,rfl⟩:=aa
   simp only [Ty.cnt,zG] at al
   repeat' first|with_reducible intro _|simp only[oO,oX,Y1,Y2,Y3,Y4]|with_reducible refine X ?_ ?_|refine⟨_,_,_,rfl,?_⟩|refine⟨_,rfl,?_⟩|refine And.intro (by first|omega|trivial|(show _=_;rfl)|(with_reducible constructor)<;>first|omega|trivial|rfl) ?_|refine (zj _ _ _ _ am h1) _ _ ?_|refine (zH _ _ ao (by omega)) _ _ ?_|fail
   all_goals first | (exfalso;omega) | skip
   ·rename_i he N1 ac d' N2 ae aq ho _ _ N3 ai
    refine hQ _ _ _ (by omega) ?_ λx Y=>.inr (by have:=ho.lo x Y;omega)
    simp [yo,Ty.k,Ty.as,he,zJt,aq]
   ·rename_i he _ _
    exact hz _ (by omega) (by simp [he])
  ·repeat' first|with_reducible intro _|simp only[oO,oX,Y1,Y2,Y3,Y4]|with_reducible refine X ?_ ?_|refine⟨_,_,_,rfl,?_⟩|refine⟨_,rfl,?_⟩|refine And.intro (by first|omega|trivial|(show _=_;rfl)|(with_reducible constructor)<;>first|omega|trivial|rfl) ?_|fail
   all_goals first | (exfalso;omega) | skip
   exact hz _ (by omega) λhc=>hk hc.1
def vld (o:Option Ty):Option Ty:=match o with
 | some t=>if t.valid then some t else none
 | none=>none
/-- the type of code, a splice, a run or a lift over this type -/
def zu (k:Int) (t:Ty):Option Ty:=
 if k=10 then some (yd t) else if k=13 then (if t.base then some (yd t) else none) else if t.k=4 then some (t.as.getD 0 tZero) else none
def xF (g:List Tg) (s:ByteArray) (n:Int):Option Ty:=
 if zM g s<0 then none else if (g.getD (zM g s).toNat tg0).lv=n then some (g.getD (zM g s).toNat tg0).ty else none
mutual
def Tm.type:Tm->List Tg->Int->Option Ty
 | .mk k nm ot _ ty re l,g,n=>vld (
   if k=1 then xF g nm n
   else if k=2 then some tInt
   else if k=3 then some tBool
   else if k=6 then (match tJ l 0 (g++[⟨nm,ty,n⟩]) n with | some b=>some (wA ty b) | none=>none)
   else if k=8 then (match tJ l 0 g n with | some a=>tJ l 1 (g++[⟨nm,a,n⟩]) n | none=>none)
   else if k=9 then (match tJ l 0 ((g++[⟨nm,wA ty re,n⟩])++[⟨ot,ty,n⟩]) n with | some b=>if zDj b re then some (wA ty re) else none | none=>none)
   else if k=10\/k=11\/k=12\/k=13 then (match tJ l 0 (if k=12 then uy g n else g) (zW k n) with | some t=>zu k t | none=>none)
   else (match ya l g n with | some I=>yo k nm I | none=>none))
def tJ:List Tm->Nat->List Tg->Int->Option Ty
 | [],_,_,_=>none
 | t::_,0,g,n=>t.type g n
 | _::I,i+1,g,n=>tJ I i g n
def ya:List Tm->List Tg->Int->Option (List Ty)
 | [],_,_=>some []
 | t::I,g,n=>match t.type g n with
   | some u=>(match ya I g n with | some us=>some (u::us) | none=>none)
   | none=>none
end
theorem zJd {o:Option Ty} {t:Ty} (h:vld o=some t):o=some t/\t.valid=true:=by
 cases o with
 | none=>cases h
 | some u=>
   simp only [vld] at h
   split at h
   ·cases h;exact ⟨rfl,by assumption⟩
   ·cases h
theorem Tm.type_valid {e:Tm} {g:List Tg} {n:Int} {t:Ty} (h:e.type g n=some t):t.valid=true:=by
 cases e with
 | mk k nm ot m ty re l=>
   simp only [Tm.type] at h
   exact (zJd h).2
theorem zEG:∀ {l:List Tm} {g:List Tg} {n:Int} {I:List Ty},ya l g n=some I->I.length=l.length/\∀ t∈I,t.valid=true
 | [],g,n,I,h=>by simp [ya] at h;subst h;simp
 | e :: es,g,n,I,h=>by
   simp only [ya] at h
   split at h
   ·rename_i u O
    split at h
    ·rename_i us J
     cases h
     have:=zEG J
     refine ⟨by simp [this.1],λt ht=>?_⟩
     rcases oF.1 ht with rfl | ht
     ·exact Tm.type_valid O
     ·exact this.2 t ht
    ·cases h
   ·cases h
/-- what typing may count on -/
structure Pre (g:List Tg) (e:Tm) (n:Int):Prop where
 ok:e.ok=true
 lev:e.lev n=true
 len:g.length+2*e.dp<=1073741824
 ty:∀ x∈g,x.ty.cnt<=64
/-- the facts of a well-formed node -/
structure Node (k:Int) (nm ot:ByteArray) (n:Int) (ty re:Ty) (l:List Tm):Prop where
 f:zJ k nm ot n ty re=true
 ar:(l.length:Int)=zIt k nm
 sub:∀ x∈l,x.ok=true
theorem zHF:∀ {l:List Tm} {x:Tm},qR l=true->x∈l->x.ok=true
 | t::I,x,h,hx=>by
   simp only [qR,oG] at h
   rcases oF.1 hx with rfl | hx
   ·exact h.1
   ·exact zHF h.2 hx
theorem zAz:∀ {l:List Tm} {n:Int} {x:Tm},sR l n=true->x∈l->x.lev n=true
 | t::I,n,x,h,hx=>by
   simp only [sR,oG] at h
   rcases oF.1 hx with rfl | hx
   ·exact h.1
   ·exact zAz h.2 hx
theorem wT {k:Int} {nm ot:ByteArray} {n:Int} {ty re:Ty} {l:List Tm} (h:(Tm.mk k nm ot n ty re l).ok=true):Node k nm ot n ty re l:=by
 simp only [Tm.ok,oG] at h
 exact ⟨h.2.1,by simpa using h.2.2,λx I=>zHF h.1 I⟩
theorem Node.vt {k n:Int} {nm ot:ByteArray} {ty re:Ty} {l:List Tm} (h:Node k nm ot n ty re l) (I:k=6\/k=9):ty.valid=true:=by
 have:=h.f
 have e:sD k=true:=by rcases I with rfl | rfl<;>rfl
 simp only [zJ,oG,e] at this
 simpa using this.1
theorem Node.vr {k n:Int} {nm ot:ByteArray} {ty re:Ty} {l:List Tm} (h:Node k nm ot n ty re l) (I:k=9):re.valid=true:=by
 have:=h.f
 subst I
 simp only [zJ,oG] at this
 simpa using this.2.2.1
theorem zB1 {k:Int} {nm:ByteArray} (h:0<=zIt k nm):k=1\/k=2\/k=3\/k=4\/k=5\/k=6\/k=7\/k=8\/k=9\/k=10\/k=11\/k=12\/k=13:=by
 unfold zIt at h
 (repeat' split at h)<;>omega
theorem Ty.cnt_pos (t:Ty):1<=t.cnt:=by cases t;simp only [Ty.cnt];omega
theorem Pre.sub {g g':List Tg} {k:Int} {nm ot:ByteArray} {m:Int} {ty re:Ty} {l:List Tm} {n:Int} {x:Tm} (h:Pre g (.mk k nm ot m ty re l) n) (I:x∈l) (U:g'.length<=g.length+2) (J:∀ y∈g',y.ty.cnt<=64):Pre g' x (zW k n):=by
 have O:=h.len
 have Y:=vh I
 simp only [Tm.dp] at O
 refine ⟨(wT h.ok).sub x I,?_,by omega,J⟩
 have:=h.lev
 simp only [Tm.lev,oG] at this
 exact zAz this.2 I
theorem uo (k:Int) (nm:ByteArray):zIt k nm<=3:=by
 unfold zIt
 (repeat' split)<;>first | omega | (unfold zGY;(repeat' split)<;>omega)
theorem Pre.len1 {g:List Tg} {e:Tm} {n:Int} (h:Pre g e n):g.length+2<=1073741824:=by
 have I:=h.len
 have J:=Tm.dp_pos e
 omega
theorem Pre.lv {g:List Tg} {e:Tm} {n:Int} (h:Pre g e n):0<=n/\n<=2:=by
 have:=h.lev
 cases e
 simp only [Tm.lev,oG] at this
 exact vm.1 this.1
theorem zEz {g:List Tg} (h:∀ y∈g,y.ty.cnt<=64) {x:Tg} (I:x.ty.cnt<=64):∀ y∈g++[x],y.ty.cnt<=64:=λy hy=>by
 rcases oJ.1 hy with hy | hy
 ·exact h y hy
 ·rw [oY] at hy;subst hy;exact I
theorem zJh (e:Tm) (g:List Tg) (n:Int):((e.type g n).getD tZero).cnt<=30:=by
 cases h:e.type g n with
 | none=>simp [tZero,Ty.cnt,zG]
 | some t=>simpa using Ty.valid_cnt (Tm.type_valid h)
/-- returns this type and true, or the zero type and false -/
def zRb (f:FuncId) (args:List PV) (o:Option Ty):Prop:=∀ (N:Nat) (Q:QT [.ag 2,.bool]),(∀ d N',N<=N'->(o.getD tZero).Is d->Q d o.isSome N')->ACalls prog f [.ag 2,.bool] args N Q
/-- returns this type and true, or false -/
def zRj (f:FuncId) (args:List PV) (o:Option Ty):Prop:=∀ (N:Nat) (Q:QT [.ag 2,.bool]),(∀ d N',N<=N'->(∀ t,o=some t->t.Is d)->Q d o.isSome N')->ACalls prog f [.ag 2,.bool] args N Q
def IH (l:List Tm):Prop:=∀ x∈l,∀ d,x.Is d->∀ g es a c n,Pre g x n->Ctx g es->zRb 41 [.sv a 4 es c,.dg 9 d,.j n] (x.type g n)
theorem zPF {nm ot:ByteArray} {m n:Int} {ty re:Ty} {e0:Tm} {t0 t1 r0 r1 d0:D} {a1 a:Option Addr} {c1 c:Nat} {g:List Tg} {es:List D} (ih:IH [e0]) (O:Tm.Hd nm ot ty re t0 t1 r0 r1) (h0:e0.Is d0)
  (pre:Pre g (.mk 6 nm ot m ty re [e0]) n) (U:Ctx g es) :
  zRj 96 [.sv a 4 es c,.dg 9 (.ag [.j 6,.t nm,.t ot,.j m,t0,t1,r0,r1,.sl a1 9 [d0] c1]),.j n] (match e0.type (g++[⟨nm,ty,n⟩]) n with | some b=>some (wA ty b) | none=>none):=λN Q J=>by
 have Y:=pre.len1
 have hv:=Ty.valid_cnt ((wT pre.ok).vt (.inl rfl))
 have hp:Pre (g++[⟨nm,ty,n⟩]) e0 n:=by simpa [zW] using pre.sub (x:=e0) (by simp) (g':=g++[⟨nm,ty,n⟩]) (by simp) (zEz pre.ty (show ty.cnt<=64 by omega))
 have hc:=zJh e0 (g++[⟨nm,ty,n⟩]) n
 refine tN N a es c _ n Q λ_ _=>?_
 repeat' first|with_reducible intro _|simp only[oO,oX,Y1,Y2,Y3,Y4]|with_reducible refine X ?_ ?_|refine⟨_,_,_,rfl,?_⟩|refine⟨_,rfl,?_⟩|refine And.intro (by first|omega|trivial|(show _=_;rfl)|(with_reducible constructor)<;>first|omega|trivial|rfl) ?_|refine (yC U (by omega) a c O.nm O.ty n) _ _ ?_|refine (ih e0 mA d0 h0 (g++[⟨nm,ty,n⟩]) _ _ _ n hp (by assumption)) _ _ ?_|refine (ye ty ((e0.type (g++[⟨nm,ty,n⟩]) n).getD tZero) _ _ O.ty (by assumption) (by omega) (by omega)) _ _ ?_|fail
 all_goals first | (exfalso;omega) | skip
 rename_i x1 N6 aa I ho _ _ N7 ab
 cases h:e0.type (g++[⟨nm,ty,n⟩]) n with
 | none=>rw [h] at J;exact J _ _ (by omega) (by simp)
 | some b=>rw [h] at J I;exact J _ _ (by omega) (by simpa using I)
theorem zPB {nm ot:ByteArray} {m n:Int} {ty re:Ty} {e0 e1:Tm} {t0 t1 r0 r1 d0 d1:D} {a1 a:Option Addr} {c1 c:Nat} {g:List Tg} {es:List D} (Y:IH [e0,e1]) (hh:Tm.Hd nm ot ty re t0 t1 r0 r1) (h0:e0.Is d0) (h1:e1.Is d1)
  (pre:Pre g (.mk 8 nm ot m ty re [e0,e1]) n) (J:Ctx g es) :
  zRj 96 [.sv a 4 es c,.dg 9 (.ag [.j 8,.t nm,.t ot,.j m,t0,t1,r0,r1,.sl a1 9 [d0,d1] c1]),.j n] (match e0.type g n with | some b=>e1.type (g++[⟨nm,b,n⟩]) n | none=>none):=λN Q O=>by
 have aa:=pre.len1
 have hp:Pre g e0 n:=by simpa [zW] using pre.sub (x:=e0) (by simp) (g':=g) (by simp) pre.ty
 have hc:=zJh e0 g n
 have I:=Y e0 mA d0 h0 g es a c n hp J
 refine tN N a es c _ n Q λ_ _=>?_
 cases h:e0.type g n with
 | none=>
   rw [h] at O I
   repeat' first|with_reducible intro _|simp only[oO,oX,mN,Y1,Y2,Y3,Y4]|with_reducible refine X ?_ ?_|refine⟨_,_,_,rfl,?_⟩|refine⟨_,rfl,?_⟩|refine And.intro (by first|omega|trivial|(show _=_;rfl)|(with_reducible constructor)<;>first|omega|trivial|rfl) ?_|refine I _ _ ?_|fail
   all_goals first | (exfalso;omega) | skip
   exact O _ _ (by omega) (by simp)
 | some b=>
   rw [h] at O hc I
   dsimp only at O
   have U:Pre (g++[⟨nm,b,n⟩]) e1 n:=by simpa [zW] using pre.sub (x:=e1) (by simp) (g':=g++[⟨nm,b,n⟩]) (by simp) (zEz pre.ty (by simpa using oN hc (by omega)))
   repeat' first|with_reducible intro _|simp only[oO,oX,mR,Y1,Y2,Y3,Y4]|with_reducible refine X ?_ ?_|refine⟨_,_,_,rfl,?_⟩|refine⟨_,rfl,?_⟩|refine And.intro (by first|omega|trivial|(show _=_;rfl)|(with_reducible constructor)<;>first|omega|trivial|rfl) ?_|refine I _ _ ?_|refine (yC J (by omega) a c hh.nm (t:=b) (by assumption) n) _ _ ?_|refine (Y e1 (by simp) d1 h1 (g++[⟨nm,b,n⟩]) _ _ _ n U (by assumption)) _ _ ?_|fail
   all_goals first | (exfalso;omega) | skip
   rename_i hx _ _ _ _
   refine O _ _ (by omega) λt ht=>?_
   rw [ht] at hx
   exact hx
theorem zPu {nm ot:ByteArray} {m n:Int} {ty re:Ty} {e0:Tm} {t0 t1 r0 r1 d0:D} {a1 a:Option Addr} {c1 c:Nat} {g:List Tg} {es:List D} (ih:IH [e0]) (I:Tm.Hd nm ot ty re t0 t1 r0 r1) (h0:e0.Is d0)
  (pre:Pre g (.mk 9 nm ot m ty re [e0]) n) (U:Ctx g es) :
  zRj 96 [.sv a 4 es c,.dg 9 (.ag [.j 9,.t nm,.t ot,.j m,t0,t1,r0,r1,.sl a1 9 [d0] c1]),.j n]
   (match e0.type ((g++[⟨nm,wA ty re,n⟩])++[⟨ot,ty,n⟩]) n with | some b=>if zDj b re then some (wA ty re) else none | none=>none):=λN Q J=>by
 have ab:=pre.len1
 have hv:=Ty.valid_cnt ((wT pre.ok).vt (.inr rfl))
 have hr:=Ty.valid_cnt ((wT pre.ok).vr rfl)
 have aa:=zEz (x:=⟨nm,wA ty re,n⟩) pre.ty (show (wA ty re).cnt<=64 by simp only [wA,Ty.cnt,zG];omega)
 have hp:=pre.sub (x:=e0) (by simp) (g':=(g++[⟨nm,wA ty re,n⟩])++[⟨ot,ty,n⟩]) (by simp) (zEz aa (show ty.cnt<=64 by omega))
 rw [show zW 9 n=n by simp [zW]] at hp
 have ac:1<=(Tm.mk 9 nm ot m ty re [e0]).cnt:=by simp only [Tm.cnt];omega
 have Y:(g++[⟨nm,wA ty re,n⟩]:List Tg).length<=1073741824:=by rw [oI,nB];omega
 have O:∀ es a c,Ctx ((g++[⟨nm,wA ty re,n⟩])++[⟨ot,ty,n⟩]) es->zRb 41 [.sv a 4 es c,.dg 9 d0,.j n] (e0.type ((g++[⟨nm,wA ty re,n⟩])++[⟨ot,ty,n⟩]) n):=λes a c hc=>ih e0 mA d0 h0 _ es a c n hp hc
 refine tN N a es c _ n Q λ_ _=>?_
 cases h:e0.type ((g++[⟨nm,wA ty re,n⟩])++[⟨ot,ty,n⟩]) n with
 | none=>
   rw [h] at J O
   dsimp only at J
   repeat' first|with_reducible intro _|simp only[oO,oX,mN,Y1,Y2,Y3,Y4]|with_reducible refine X ?_ ?_|refine⟨_,_,_,rfl,?_⟩|refine⟨_,rfl,?_⟩|refine And.intro (by first|omega|trivial|(show _=_;rfl)|(with_reducible constructor)<;>first|omega|trivial|rfl) ?_|refine (ye ty re _ _ I.ty I.re (by omega) (by omega)) _ _ ?_|refine (yC U (by omega) a c I.nm (t:=wA ty re) (by assumption) n) _ _ ?_|refine (yC (g:=g++[⟨nm,wA ty re,n⟩]) (by assumption) Y _ _ I.ot I.ty n) _ _ ?_|refine (O _ _ _ (by assumption)) _ _ ?_|fail
   all_goals first | (exfalso;omega) | skip
   exact J _ _ (by omega) (by simp)
 | some b=>
   rw [h] at J O
   dsimp only at J
   repeat' first|with_reducible intro _|simp only[oO,oX,mR,Y1,Y2,Y3,Y4]|with_reducible refine X ?_ ?_|refine⟨_,_,_,rfl,?_⟩|refine⟨_,rfl,?_⟩|refine And.intro (by first|omega|trivial|(show _=_;rfl)|(with_reducible constructor)<;>first|omega|trivial|rfl) ?_|refine (ye ty re _ _ I.ty I.re (by omega) (by omega)) _ _ ?_|refine (yC U (by omega) a c I.nm (t:=wA ty re) (by assumption) n) _ _ ?_|refine (yC (g:=g++[⟨nm,wA ty re,n⟩]) (by assumption) Y _ _ I.ot I.ty n) _ _ ?_|refine (O _ _ _ (by assumption)) _ _ ?_|refine (zj b re _ _ (by assumption) I.re) _ _ ?_|fail
   all_goals first | (exfalso;omega) | skip
   cases he:zDj b re with
   | false=>rw [he] at J;exact J _ _ (by omega) (by simp)
   | true=>rw [he] at J;exact J _ _ (by omega) λt ht=>by cases ht;assumption
/-- code, splices, runs and lifts -/
theorem zPQ {k:Int} {nm ot:ByteArray} {m n:Int} {ty re:Ty} {e0:Tm} {t0 t1 r0 r1 d0:D} {a1 a:Option Addr} {c1 c:Nat} {g:List Tg} {es:List D} (hk:k=10\/k=11\/k=12\/k=13) (ih:IH [e0]) (h0:e0.Is d0)
  (pre:Pre g (.mk k nm ot m ty re [e0]) n) (ae:Ctx g es) :
  zRj 97 [.sv a 4 es c,.dg 9 (.ag [.j k,.t nm,.t ot,.j m,t0,t1,r0,r1,.sl a1 9 [d0] c1]),.j n]
   (match e0.type (if k=12 then uy g n else g) (zW k n) with | some t=>zu k t | none=>none):=λN Q I=>by
 have am:=pre.len1
 have ah:=zAT g n g 0
 have hp:=pre.sub (x:=e0) (by simp) (g':=if k=12 then uy g n else g) (by split<;>simp [uy];omega) (by split;exact λy hy=>pre.ty y (ah.1 y hy);exact pre.ty)
 have Y:∀ es a c,Ctx (if k=12 then uy g n else g) es->zRb 41 [.sv a 4 es c,.dg 9 d0,.j (zW k n)] (e0.type (if k=12 then uy g n else g) (zW k n)):=λes a c hc=>ih e0 mA d0 h0 _ es a c _ hp hc
 have ai:∀ x∈g,x.ty.cnt<=1073741824:=λx hx=>oN (pre.ty x hx) (by omega)
 refine zD0 N a es c _ n Q λ_ _=>?_
 cases h:e0.type (if k=12 then uy g n else g) (zW k n) with
 | none=>
   rw [h] at I Y
   dsimp only at I
   repeat' first|with_reducible intro _|simp only[oO,oX,mN,Y1,Y2,Y3,Y4]|with_reducible refine X ?_ ?_|refine⟨_,_,_,rfl,?_⟩|refine⟨_,rfl,?_⟩|refine And.intro (by first|omega|trivial|(show _=_;rfl)|(with_reducible constructor)<;>first|omega|trivial|rfl) ?_|refine (uk ae (by omega) ai a c n) _ _ ?_|refine (tR pre.lv) _ _ ?_|refine (Y _ _ _ (by first | (rw [if_pos (by assumption)];assumption) | (rw [if_neg (by assumption)];assumption))) _ _ ?_|fail
   all_goals first | (exfalso;omega) | skip
   all_goals exact I _ _ (by omega) (by simp)
 | some t=>
   have hv:=Tm.type_valid h
   rw [h] at I Y
   dsimp only at I
   cases t with
   | mk J l0=>
   have hf:=Ty.form_len hv
   have aj:=Ty.valid_cnt hv
   repeat' first|with_reducible intro _|simp only[oO,oX,mR,Y1,Y2,Y3,Y4]|with_reducible refine X ?_ ?_|refine⟨_,_,_,rfl,?_⟩|refine⟨_,rfl,?_⟩|refine And.intro (by first|omega|trivial|(show _=_;rfl)|(with_reducible constructor)<;>first|omega|trivial|rfl) ?_|refine (uk ae (by omega) ai a c n) _ _ ?_|refine (tR pre.lv) _ _ ?_|refine (Y _ _ _ (by first | (rw [if_pos (by assumption)];assumption) | (rw [if_neg (by assumption)];assumption))) _ _ ?_|refine (yf (.mk J l0) _ (by assumption) (by omega)) _ _ ?_|refine (tg (.mk J l0) _ (by assumption)) _ _ ?_|fail
   all_goals first | (exfalso;omega) | skip
   ·rename_i hd _ _ O U
    obtain ⟨a2,ak,c2,rfl,al,aa⟩:=Ty.is_mk.1 hd
    by_cases h4:J=4
    ·subst h4
     have ab:(l0.length:Int)=1:=by simpa [rp] using hf
     obtain ⟨u,rfl⟩:∃ u,l0=[u]:=by
      match l0,ab with
      | [u],_=>exact ⟨u,rfl⟩
      | [],h=>simp at h
      | _::_::_,h=>simp at h;omega
     obtain ⟨x0,_,rfl,ac,rfl⟩:=aa
     simp only [Ty.cnt,zG] at aj
     have hs:zu k (.mk 4 [u])=some u:=by simp [zu,O,U,Ty.k,Ty.as]
     rw [hs] at I
     repeat' first|with_reducible intro _|simp only[oO,oX,Y1,Y2,Y3,Y4]|with_reducible refine X ?_ ?_|refine⟨_,_,_,rfl,?_⟩|refine⟨_,rfl,?_⟩|refine And.intro (by first|omega|trivial|(show _=_;rfl)|(with_reducible constructor)<;>first|omega|trivial|rfl) ?_|refine (zH u _ ac (by omega)) _ _ ?_|fail
     all_goals first | (exfalso;omega) | skip
     exact I _ _ (by omega) λt ht=>by cases ht;assumption
    ·have hs:zu k (.mk J l0)=none:=by simp [zu,O,U,Ty.k,h4]
     rw [hs] at I
     repeat' first|with_reducible intro _|simp only[oO,oX,Y1,Y2,Y3,Y4]|with_reducible refine X ?_ ?_|refine⟨_,_,_,rfl,?_⟩|refine⟨_,rfl,?_⟩|refine And.intro (by first|omega|trivial|(show _=_;rfl)|(with_reducible constructor)<;>first|omega|trivial|rfl) ?_|fail
     all_goals first | (exfalso;omega) | skip
     exact I _ _ (by omega) (by simp)
   ·have hs:zu k (.mk J l0)=some (yd (.mk J l0)):=by rw [zu,if_pos (by assumption)]
    rw [hs] at I
    exact I _ _ (by omega) λt ht=>by cases ht;assumption
   ·have hs:zu k (.mk J l0)=if (Ty.mk J l0).base then some (yd (.mk J l0)) else none:=by rw [zu,if_neg (by assumption),if_pos (by assumption)]
    rw [hs] at I
    cases hb:(Ty.mk J l0).base with
    | false=>rw [hb] at I;exact I _ _ (by omega) (by simp)
    | true=>rw [hb] at I;exact I _ _ (by omega) λt ht=>by cases ht;assumption
   ·rename_i hd _ _ O U
    obtain ⟨a2,ak,c2,rfl,al,aa⟩:=Ty.is_mk.1 hd
    by_cases h4:J=4
    ·subst h4
     have ab:(l0.length:Int)=1:=by simpa [rp] using hf
     obtain ⟨u,rfl⟩:∃ u,l0=[u]:=by
      match l0,ab with
      | [u],_=>exact ⟨u,rfl⟩
      | [],h=>simp at h
      | _::_::_,h=>simp at h;omega
     obtain ⟨x0,_,rfl,ac,rfl⟩:=aa
     simp only [Ty.cnt,zG] at aj
     have hs:zu k (.mk 4 [u])=some u:=by simp [zu,O,U,Ty.k,Ty.as]
     rw [hs] at I
     repeat' first|with_reducible intro _|simp only[oO,oX,Y1,Y2,Y3,Y4]|with_reducible refine X ?_ ?_|refine⟨_,_,_,rfl,?_⟩|refine⟨_,rfl,?_⟩|refine And.intro (by first|omega|trivial|(show _=_;rfl)|(with_reducible constructor)<;>first|omega|trivial|rfl) ?_|refine (zH u _ ac (by omega)) _ _ ?_|fail
     all_goals first | (exfalso;omega) | skip
     exact I _ _ (by omega) λt ht=>by cases ht;assumption
    ·have hs:zu k (.mk J l0)=none:=by simp [zu,O,U,Ty.k,h4]
     rw [hs] at I
     repeat' first|with_reducible intro _|simp only[oO,oX,Y1,Y2,Y3,Y4]|with_reducible refine X ?_ ?_|refine⟨_,_,_,rfl,?_⟩|refine⟨_,rfl,?_⟩|refine And.intro (by first|omega|trivial|(show _=_;rfl)|(with_reducible constructor)<;>first|omega|trivial|rfl) ?_|fail
     all_goals first | (exfalso;omega) | skip
     exact I _ _ (by omega) (by simp)
/-- the type of a term ahead of the test that it is valid -/
def Tm.raw:Tm->List Tg->Int->Option Ty
 | .mk k nm ot _ ty re l,g,n=>
   if k=1 then xF g nm n
   else if k=2 then some tInt
   else if k=3 then some tBool
   else if k=6 then (match tJ l 0 (g++[⟨nm,ty,n⟩]) n with | some b=>some (wA ty b) | none=>none)
   else if k=8 then (match tJ l 0 g n with | some a=>tJ l 1 (g++[⟨nm,a,n⟩]) n | none=>none)
   else if k=9 then (match tJ l 0 ((g++[⟨nm,wA ty re,n⟩])++[⟨ot,ty,n⟩]) n with | some b=>if zDj b re then some (wA ty re) else none | none=>none)
   else if k=10\/k=11\/k=12\/k=13 then (match tJ l 0 (if k=12 then uy g n else g) (zW k n) with | some t=>zu k t | none=>none)
   else (match ya l g n with | some I=>yo k nm I | none=>none)
theorem Tm.type_eq (e:Tm) (g:List Tg) (n:Int):e.type g n=vld (e.raw g n):=by
 cases e;simp only [Tm.type,Tm.raw]<;>rfl
theorem zQl {a:Option Addr} {r:List D} {d:D} {N:Nat} (ha:ApA a r) (hb:ux N [a]) (h:∀ x∈d.foot,x∈zF r\/N<=x):Off [a] d:=by
 intro a' I ad J O
 rw [oY] at I
 subst I
 rcases h _ O with h | h
 ·have:∀ r:List D,ad.block∈zF r->∃ d∈r,ad.block∈d.foot:=by
   intro r
   induction r with
   | nil=>intro h;simp [zF] at h
   | cons x r ih=>
     intro h
     simp only [zF,oJ] at h
     rcases h with h | h
     ·exact ⟨x,by simp,h⟩
     ·obtain ⟨d,hd,O⟩:=ih h
      exact ⟨d,by simp [hd],O⟩
  obtain ⟨d',U,Y⟩:=this r h
  exact ha ad J d' U Y
 ·have:=hb a' (by simp) ad J
  omega
theorem zMu {k:Int} {nm ot:ByteArray} {m n:Int} {ty re:Ty} {l:List Tm} {t0 t1 r0 r1:D} {es1:List D} {a1 a:Option Addr} {c1 c:Nat} {g:List Tg} {es:List D} (hk:k=4\/k=5\/k=7) (ih:IH l) (h0:All2 Tm.Is l es1) (hl1:es1.length<=4611686018427387904)
  (pre:Pre g (.mk k nm ot m ty re l) n) (ctx:Ctx g es) (N:Nat) (Q:QT [.ag 2,.bool]) (hQ:∀ d N',N<=N'->(∀ t,Tm.raw (.mk k nm ot m ty re l) g n=some t->t.Is d)->Q d (Tm.raw (.mk k nm ot m ty re l) g n).isSome N') :
  yn Q N a es c n 0 0 (0:Nat) (.ag [.j k,.t nm,.t ot,.j m,t0,t1,r0,r1,.sl a1 9 es1 c1]) 0 none [] 0 [] 0 N:=by
 have hlen:=pre.len1
 have hln:=h0.len
 have nd:=wT pre.ok
 have har:=nd.ar
 have har2:=uo k nm
 have hraw:Tm.raw (.mk k nm ot m ty re l) g n=(match ya l g n with | some ts=>yo k nm ts | none=>none):=by
  simp only [Tm.raw]
  rw [if_neg (by omega),if_neg (by omega),if_neg (by omega),if_neg (by omega),if_neg (by omega),if_neg (by omega),if_neg (by omega)]
 rw [hraw] at hQ
 refine up h0 hl1 (fun i xs=>∀ (r:List D) (q p:Nat) (N':Nat) (ts:List Ty),N<=N'->p=r.length->All2 Ty.Is ts r->ts.length=i->(∀ t∈ts,t.valid=true) ->
  ya l g n=(match ya xs g n with | some us=>some (ts++us) | none=>none) ->
  yn Q N a es c n p q i (.ag [.j k,.t nm,.t ot,.j m,t0,t1,r0,r1,.sl a1 9 es1 c1]) 0 none [] 0 r q N') ?_ ?_ [] 0 0 N [] (oD _) rfl rfl rfl (by simp) ?_
 ·intro i hlt hi r q p N' ts hN' hp hr hti hv hargs
  have hrl:=hr.len
  simp only [ya,nO] at hargs
  rw [hargs] at hQ
  dsimp only at hQ
  have hk2:k=4\/k=5/\ts.length=3\/k=7/\ts.length=2:=by
   have:=nd.ar
   rcases hk with rfl | rfl | rfl
   ·exact .inl rfl
   ·exact .inr (.inl ⟨rfl, by have:(l.length:Int)=3:=this
                              omega⟩)
   ·exact .inr (.inr ⟨rfl, by have:(l.length:Int)=2:=this
                              omega⟩)
  refine tl _ _ _ _ _ _ _ _ _ _ _ _ _ _ _ _ _ ?_
  repeat' first|with_reducible intro _|simp only[hlt,Y1,Y2,Y3,Y4]|with_reducible refine X ?_ ?_|refine⟨_,_,_,rfl,?_⟩|refine⟨_,rfl,?_⟩|refine And.intro (by first|omega|trivial|(show _=_;rfl)|(with_reducible constructor)<;>first|omega|trivial|rfl) ?_|refine (zFH hr (by omega) _ _ hv hk2) _ _ ?_|fail
  rename_i a2 hap hoff N4 hN4 hba d b N5 hN5 ho hfo _
  refine ⟨zQl hap hba hfo,fun _ N6 hN6=>?_⟩
  cases h:yo k nm ts with
  | none=>rw [h] at ho hQ;simp only [zJt] at ho;subst ho;exact hQ _ _ (by omega) (by simp)
  | some t=>rw [h] at ho hQ;obtain ⟨rfl,ho⟩:=ho;exact hQ _ _ (by omega) fun t ht=>by cases ht;exact ho
 ·intro i x xs hat _ ih2 r q p N' ts hN' hp hr hti hv hargs
  have hb:=hat.b
  have hrl:=hr.len
  have hpx:=pre.sub hat.m (g':=g) (by omega) pre.ty
  rw [show zW k n=n by simp only [zW];rw [if_neg (by omega),if_neg (by omega)]] at hpx
  have ih0:=ih x hat.m _ hat.r g es a c n hpx ctx
  simp only [ya] at hargs
  refine tl _ _ _ _ _ _ _ _ _ _ _ _ _ _ _ _ _ ?_
  cases h:x.type g n with
  | none=>
    rw [h] at ih0 hargs
    dsimp only at hargs
    rw [hargs] at hQ
    repeat' first|with_reducible intro _|simp only[hat.lt,hat.w,oK,mN,Y1,Y2,Y3,Y4]|with_reducible refine X ?_ ?_|refine⟨_,_,_,rfl,?_⟩|refine⟨_,rfl,?_⟩|refine And.intro (by first|omega|trivial|(show _=_;rfl)|(with_reducible constructor)<;>first|omega|trivial|rfl) ?_|refine ih0 _ _ ?_|fail
    all_goals first | (exfalso;omega) | skip
    exact hQ _ _ (by omega) (by simp)
  | some t=>
    have hvt:=Tm.type_valid h
    rw [h] at ih0 hargs
    dsimp only at hargs
    repeat' first|with_reducible intro _|simp only[hat.lt,hat.w,oK,mR,Y1,Y2,Y3,Y4]|with_reducible refine X ?_ ?_|refine⟨_,_,_,rfl,?_⟩|refine⟨_,rfl,?_⟩|refine And.intro (by first|omega|trivial|(show _=_;rfl)|(with_reducible constructor)<;>first|omega|trivial|rfl) ?_|refine ih0 _ _ ?_|fail
    all_goals first | (exfalso;omega) | skip
    rename_i N2 hN2 d N3 hN3 hd _ _
    refine ⟨by unfold zA;simp only [oI,nB];omega,fun c2=>ih2 _ _ _ _ (ts++[t]) (by omega) rfl (hr.snoc hd) (by simp [hti]) (fun u hu=>?_) ?_⟩
    ·rcases oJ.1 hu with hu | hu
     ·exact hv u hu
     ·rw [oY] at hu;subst hu;exact hvt
    ·rw [hargs];cases ya xs g n<;>simp
 ·cases ya l g n<;>simp
theorem zMS {α:Type} {l:List α} (h:l.length=1):∃ a,l=[a]:=by
 match l,h with
 | [a],_=>exact ⟨a,rfl⟩
theorem zRY {α:Type} {l:List α} (h:l.length=2):∃ a b,l=[a,b]:=by
 match l,h with
 | [a,b],_=>exact ⟨a,b,rfl⟩
theorem zFK {e:Tm} {d:D} (he:e.Is d) (ih:match e with | .mk _ _ _ _ _ _ l=>IH l) {g:List Tg} {es:List D} {a:Option Addr} {c:Nat} {n:Int} (pre:Pre g e n) (ctx:Ctx g es) :
  zRj 72 [.sv a 4 es c,.dg 9 d,.j n] (e.raw g n):=fun N Q hQ=>by
 cases e with
 | mk k nm ot m ty re l=>
 dsimp only at ih
 obtain ⟨t0,t1,r0,r1,a1,es1,c1,rfl,hh,hlen1,hes1⟩:=Tm.is_mk.1 he
 have hl:=hes1.len
 have hl2:=ctx.all.len
 have nd:=wT pre.ok
 have har:=nd.ar
 have hkk:=zB1 (k:=k) (nm:=nm) (by omega)
 refine zFn N a es c _ n Q fun _ _=>?_
 rcases hkk with rfl | rfl | rfl | h | h | rfl | h | rfl | rfl | h | h | h | h
 ·-- a variable
  have hraw:Tm.raw (.mk 1 nm ot m ty re l) g n=xF g nm n:=by simp [Tm.raw]
  rw [hraw] at hQ
  rcases p7 g nm g.length with hlx | hlx
  ·have hlx:zM g nm = -1:=hlx
   have:xF g nm n=none:=by simp [xF,hlx]
   rw [this] at hQ
   repeat' first|with_reducible intro _|simp only[hlx,Y1,Y2,Y3,Y4]|with_reducible refine X ?_ ?_|refine⟨_,_,_,rfl,?_⟩|refine⟨_,rfl,?_⟩|refine And.intro (by first|omega|trivial|(show _=_;rfl)|(with_reducible constructor)<;>first|omega|trivial|rfl) ?_|refine (vX ctx a c nm) _ _ ?_|fail
   all_goals first | (exfalso;omega) | skip
   exact hQ _ _ (by omega) (by simp)
  ·have hlx:0<=zM g nm/\zM g nm<g.length:=hlx
   have hg:g[(zM g nm).toNat]?=some g[(zM g nm).toNat]:=oH (by omega)
   have hx:=ctx.all.get hg
   have hgd:g.getD (zM g nm).toNat tg0=g[(zM g nm).toNat]:=zMR hg
   obtain ⟨u0,u1,hd,hs,ht⟩:=hx
   have hm:g[(zM g nm).toNat]∈g:=mG _
   have hcn:=pre.ty _ hm
   have:xF g nm n=if g[(zM g nm).toNat].lv=n then some g[(zM g nm).toNat].ty else none:=by
    rw [xF,if_neg (by omega),hgd]
   rw [this] at hQ
   generalize g[(zM g nm).toNat]=x at *
   repeat' first|with_reducible intro _|simp only[hd,Y1,Y2,Y3,Y4]|with_reducible refine X ?_ ?_|refine⟨_,_,_,rfl,?_⟩|refine⟨_,rfl,?_⟩|refine And.intro (by first|omega|trivial|(show _=_;rfl)|(with_reducible constructor)<;>first|omega|trivial|rfl) ?_|refine (vX ctx a c nm) _ _ ?_|refine (zH _ _ ht (by omega)) _ _ ?_|fail
   all_goals first | (exfalso;omega) | skip
   ·rw [if_neg (by assumption)] at hQ;exact hQ _ _ (by omega) (by simp)
   ·rw [if_pos (by assumption)] at hQ;exact hQ _ _ (by omega) fun t ht=>by cases ht;assumption
 ·have hraw:Tm.raw (.mk 2 nm ot m ty re l) g n=some tInt:=by simp [Tm.raw]
  rw [hraw] at hQ
  repeat' first|with_reducible intro _|simp only[Y1,Y2,Y3,Y4]|with_reducible refine X ?_ ?_|refine⟨_,_,_,rfl,?_⟩|refine⟨_,rfl,?_⟩|refine And.intro (by first|omega|trivial|(show _=_;rfl)|(with_reducible constructor)<;>first|omega|trivial|rfl) ?_|refine xG _ _ ?_|fail
  all_goals first | (exfalso;omega) | skip
  exact hQ _ _ (by omega) fun t ht=>by cases ht;assumption
 ·have hraw:Tm.raw (.mk 3 nm ot m ty re l) g n=some tBool:=by simp [Tm.raw]
  rw [hraw] at hQ
  repeat' first|with_reducible intro _|simp only[Y1,Y2,Y3,Y4]|with_reducible refine X ?_ ?_|refine⟨_,_,_,rfl,?_⟩|refine⟨_,rfl,?_⟩|refine And.intro (by first|omega|trivial|(show _=_;rfl)|(with_reducible constructor)<;>first|omega|trivial|rfl) ?_|refine xO _ _ ?_|fail
  all_goals first | (exfalso;omega) | skip
  exact hQ _ _ (by omega) fun t ht=>by cases ht;assumption
 ·have hk:k=4\/k=5\/k=7:=by omega
  have:=zMu hk ih hes1 hlen1 pre ctx (a:=a) (c:=c) (t0:=t0) (t1:=t1) (r0:=r0) (r1:=r1) (a1:=a1) (c1:=c1) N Q hQ
  repeat' first|with_reducible intro _|simp only[Y1,Y2,Y3,Y4]|with_reducible refine X ?_ ?_|refine⟨_,_,_,rfl,?_⟩|refine⟨_,rfl,?_⟩|refine And.intro (by first|omega|trivial|(show _=_;rfl)|(with_reducible constructor)<;>first|omega|trivial|rfl) ?_|fail
  all_goals first | (exfalso;omega) | exact this
 ·have hk:k=4\/k=5\/k=7:=by omega
  have:=zMu hk ih hes1 hlen1 pre ctx (a:=a) (c:=c) (t0:=t0) (t1:=t1) (r0:=r0) (r1:=r1) (a1:=a1) (c1:=c1) N Q hQ
  repeat' first|with_reducible intro _|simp only[Y1,Y2,Y3,Y4]|with_reducible refine X ?_ ?_|refine⟨_,_,_,rfl,?_⟩|refine⟨_,rfl,?_⟩|refine And.intro (by first|omega|trivial|(show _=_;rfl)|(with_reducible constructor)<;>first|omega|trivial|rfl) ?_|fail
  all_goals first | (exfalso;omega) | exact this
 ·have h1 : l.length = 1 := by have:(l.length:Int)=1:=har
                               omega
  obtain ⟨e0,rfl⟩:=zMS h1
  obtain ⟨d0,_,rfl,h0,rfl⟩:=hes1
  have hraw:Tm.raw (.mk 6 nm ot m ty re [e0]) g n=(match e0.type (g++[⟨nm,ty,n⟩]) n with | some b=>some (wA ty b) | none=>none):=by simp [Tm.raw,tJ]
  rw [hraw] at hQ
  repeat' first|with_reducible intro _|simp only[Y1,Y2,Y3,Y4]|with_reducible refine X ?_ ?_|refine⟨_,_,_,rfl,?_⟩|refine⟨_,rfl,?_⟩|refine And.intro (by first|omega|trivial|(show _=_;rfl)|(with_reducible constructor)<;>first|omega|trivial|rfl) ?_|refine (zPF ih hh h0 pre ctx) _ _ ?_|fail
  all_goals first | (exfalso;omega) | skip
  exact hQ _ _ (by omega) (by assumption)
 ·have hk:k=4\/k=5\/k=7:=by omega
  have:=zMu hk ih hes1 hlen1 pre ctx (a:=a) (c:=c) (t0:=t0) (t1:=t1) (r0:=r0) (r1:=r1) (a1:=a1) (c1:=c1) N Q hQ
  repeat' first|with_reducible intro _|simp only[Y1,Y2,Y3,Y4]|with_reducible refine X ?_ ?_|refine⟨_,_,_,rfl,?_⟩|refine⟨_,rfl,?_⟩|refine And.intro (by first|omega|trivial|(show _=_;rfl)|(with_reducible constructor)<;>first|omega|trivial|rfl) ?_|fail
  all_goals first | (exfalso;omega) | exact this
 ·have h1 : l.length = 2 := by have:(l.length:Int)=2:=har
                               omega
  obtain ⟨e0,e1,rfl⟩:=zRY h1
  obtain ⟨d0,_,rfl,h0,d1,_,rfl,h1,rfl⟩:=hes1
  have hraw:Tm.raw (.mk 8 nm ot m ty re [e0,e1]) g n=(match e0.type g n with | some b=>e1.type (g++[⟨nm,b,n⟩]) n | none=>none):=by simp [Tm.raw,tJ]
  rw [hraw] at hQ
  repeat' first|with_reducible intro _|simp only[Y1,Y2,Y3,Y4]|with_reducible refine X ?_ ?_|refine⟨_,_,_,rfl,?_⟩|refine⟨_,rfl,?_⟩|refine And.intro (by first|omega|trivial|(show _=_;rfl)|(with_reducible constructor)<;>first|omega|trivial|rfl) ?_|refine (zPB ih hh h0 h1 pre ctx) _ _ ?_|fail
  all_goals first | (exfalso;omega) | skip
  exact hQ _ _ (by omega) (by assumption)
 ·have h1 : l.length = 1 := by have:(l.length:Int)=1:=har
                               omega
  obtain ⟨e0,rfl⟩:=zMS h1
  obtain ⟨d0,_,rfl,h0,rfl⟩:=hes1
  have hraw:Tm.raw (.mk 9 nm ot m ty re [e0]) g n=(match e0.type ((g++[⟨nm,wA ty re,n⟩])++[⟨ot,ty,n⟩]) n with | some b=>if zDj b re then some (wA ty re) else none | none=>none):=by simp only [Tm.raw,tJ];rfl
  rw [hraw] at hQ
  repeat' first|with_reducible intro _|simp only[Y1,Y2,Y3,Y4]|with_reducible refine X ?_ ?_|refine⟨_,_,_,rfl,?_⟩|refine⟨_,rfl,?_⟩|refine And.intro (by first|omega|trivial|(show _=_;rfl)|(with_reducible constructor)<;>first|omega|trivial|rfl) ?_|refine (zPu ih hh h0 pre ctx) _ _ ?_|fail
  all_goals first | (exfalso;omega) | skip
  exact hQ _ _ (by omega) (by assumption)
 all_goals
  have h1:l.length=1:=by
   have hk:k=10\/k=11\/k=12\/k=13:=by omega
   have:(l.length:Int)=1:=by rw [har];rcases hk with rfl | rfl | rfl | rfl<;>rfl
   omega
  obtain ⟨e0,rfl⟩:=zMS h1
  obtain ⟨d0,_,rfl,h0,rfl⟩:=hes1
  have hk:k=10\/k=11\/k=12\/k=13:=by omega
  have hraw:Tm.raw (.mk k nm ot m ty re [e0]) g n=(match e0.type (if k=12 then uy g n else g) (zW k n) with | some t=>zu k t | none=>none):=by
   simp only [Tm.raw,tJ]
   rw [if_neg (by omega),if_neg (by omega),if_neg (by omega),if_neg (by omega),if_neg (by omega),if_neg (by omega),if_pos hk]
  rw [hraw] at hQ
  repeat' first|with_reducible intro _|simp only[Y1,Y2,Y3,Y4]|with_reducible refine X ?_ ?_|refine⟨_,_,_,rfl,?_⟩|refine⟨_,rfl,?_⟩|refine And.intro (by first|omega|trivial|(show _=_;rfl)|(with_reducible constructor)<;>first|omega|trivial|rfl) ?_|refine (zPQ hk ih h0 pre ctx) _ _ ?_|fail
  all_goals first | (exfalso;omega) | skip
  exact hQ _ _ (by omega) (by assumption)
theorem tM:∀ {l:List Tm} {i:Nat} {g:List Tg} {n:Int} {t:Ty},tJ l i g n=some t->t.valid=true
 | [],i,g,n,t,h=>by simp [tJ] at h
 | e::es,0,g,n,t,h=>by simp only [tJ] at h;exact Tm.type_valid h
 | e::es,i+1,g,n,t,h=>by simp only [tJ] at h;exact tM h
theorem zGM {l:List Ty} {m:Nat} (h:∀ t∈l,t.cnt<=m) (I:1<=m) (i:Nat):(l.getD i tZero).cnt<=m:=by
 rw [oA]
 cases hi:l[i]? with
 | none=>simpa [tZero,Ty.cnt,zG] using I
 | some t=>exact h t (oB hi)
theorem zO5 (t:Ty) (i:Nat):(t.as.getD i tZero).cnt<=t.cnt:=by
 cases t with
 | mk k l=>exact zGM (l:=l) (λu I=>by have:=xn (l:=l) I;simp only [Ty.cnt];omega) (by simp only [Ty.cnt];omega) i
theorem zPw {g:List Tg} {m:Nat} (h:∀ x∈g,x.ty.cnt<=m) (I:1<=m) (i:Nat):(g.getD i tg0).ty.cnt<=m:=by
 rw [oA]
 cases hi:g[i]? with
 | none=>simpa [tg0,tZero,Ty.cnt,zG] using I
 | some t=>exact h t (oB hi)
theorem zJp {k:Int} {s:ByteArray} {I:List Ty} {t:Ty} (J:∀ t∈I,t.cnt<=64) (h:yo k s I=some t):t.cnt<=64:=by
 simp only [yo] at h
 split at h
 ·simp only [zM7] at h
  split at h
  ·cases h;unfold uH;(repeat' split)<;>simp [tInt,tBool,Ty.cnt,zG]
  ·cases h
 ·split at h
  ·split at h
   ·cases h;exact zGM J (by omega) _
   ·cases h
  ·split at h
   ·cases h;exact oN (zO5 _ _) (zGM J (by omega) _)
   ·cases h
theorem zIE {k:Int} {u t:Ty} (J:u.cnt<=30) (h:zu k u=some t):t.cnt<=64:=by
 have I:(yd u).cnt<=64:=by simp only [yd,Ty.cnt,zG];omega
 have O:=zO5 u 0
 simp only [zu] at h
 (repeat' split at h)<;>cases h<;>first | exact I | omega
theorem zPl {e:Tm} {g:List Tg} {n:Int} {t:Ty} (pre:Pre g e n) (h:e.raw g n=some t):t.cnt<=64:=by
 cases e with
 | mk k nm ot m ty re l=>
 have nd:=wT pre.ok
 simp only [Tm.raw] at h
 split at h
 ·simp only [xF] at h
  (repeat' split at h)<;>cases h
  exact zPw pre.ty (by omega) _
 split at h
 ·cases h;simp [tInt,Ty.cnt,zG]
 split at h
 ·cases h;simp [tBool,Ty.cnt,zG]
 split at h
 ·rename_i U
  have Y:=Ty.valid_cnt (nd.vt (.inl U))
  split at h
  ·rename_i b I
   have:=Ty.valid_cnt (tM I)
   cases h;simp only [wA,Ty.cnt,zG];omega
  ·cases h
 split at h
 ·split at h
  ·have:=Ty.valid_cnt (tM h);omega
  ·cases h
 split at h
 ·rename_i O
  have Y:=Ty.valid_cnt (nd.vt (.inr O))
  have hr:=Ty.valid_cnt (nd.vr O)
  split at h
  ·split at h
   ·cases h;simp only [wA,Ty.cnt,zG];omega
   ·cases h
  ·cases h
 split at h
 ·split at h
  ·rename_i b I
   exact zIE (Ty.valid_cnt (tM I)) h
  ·cases h
 ·split at h
  ·rename_i ts J
   exact zJp (λu hu=>oN (Ty.valid_cnt ((zEG J).2 u hu)) (by omega)) h
  ·cases h
theorem zF1:tZero.Is (.ag [.j 0,.sl none 2 [] 0]):=yz 0
theorem zE9:∀ (e:Tm),∀ d,e.Is d->∀ g es a c n,Pre g e n->Ctx g es->zRb 41 [.sv a 4 es c,.dg 9 d,.j n] (e.type g n):=by
 refine Tm.ind λk nm ot m ty re l U d hd g es a c n pre O N Q I=>?_
 have hs:=zFK (a:=a) (c:=c) hd U pre O
 rw [Tm.type_eq] at I
 refine zGB N a es c _ n Q λ_ _=>?_
 cases h:Tm.raw (.mk k nm ot m ty re l) g n with
 | none=>
   rw [h] at hs I
   repeat' first|with_reducible intro _|simp only[mN,Y1,Y2,Y3,Y4]|with_reducible refine X ?_ ?_|refine⟨_,_,_,rfl,?_⟩|refine⟨_,rfl,?_⟩|refine And.intro (by first|omega|trivial|(show _=_;rfl)|(with_reducible constructor)<;>first|omega|trivial|rfl) ?_|refine hs _ _ ?_|fail
   all_goals first | (exfalso;omega) | skip
   exact I _ _ (by omega) zF1
 | some t=>
   have hc:=zPl pre h
   rw [h] at hs I
   simp only [vld] at I
   cases J:t.valid with
   | false=>
     rw [J] at I
     repeat' first|with_reducible intro _|simp only[mR,J,Y1,Y2,Y3,Y4]|with_reducible refine X ?_ ?_|refine⟨_,_,_,rfl,?_⟩|refine⟨_,rfl,?_⟩|refine And.intro (by first|omega|trivial|(show _=_;rfl)|(with_reducible constructor)<;>first|omega|trivial|rfl) ?_|refine hs _ _ ?_|refine (yL t _ (by rename_i h _ _ _ _;exact h t rfl) (by omega)) _ _ ?_|fail
     all_goals first | (exfalso;omega) | skip
     exact I _ _ (by omega) zF1
   | true=>
     rw [J] at I
     repeat' first|with_reducible intro _|simp only[mR,J,Y1,Y2,Y3,Y4]|with_reducible refine X ?_ ?_|refine⟨_,_,_,rfl,?_⟩|refine⟨_,rfl,?_⟩|refine And.intro (by first|omega|trivial|(show _=_;rfl)|(with_reducible constructor)<;>first|omega|trivial|rfl) ?_|refine hs _ _ ?_|refine (yL t _ (by rename_i h _ _ _ _;exact h t rfl) (by omega)) _ _ ?_|fail
     all_goals first | (exfalso;omega) | skip
     rename_i Y _ _ _ _ _ _ _ _ _
     exact I _ _ (by omega) (Y t rfl)
/-- what TypeOf comes to -/
def vl (g:List Tg) (e:Tm) (n:Int):Option Ty:=if zH5 g/\zAw e n then e.type g n else none
theorem zHt:∀ {g:List Tg},zFA g=true->∀ x∈g,x.ty.valid=true
 | y::ys,h,x,hx=>by
   simp only [zFA,Tg.ok,oG] at h
   rcases oF.1 hx with rfl | hx
   ·exact h.1.2.1
   ·exact zHt h.2 x hx
theorem zP5 {g:List Tg} {e:Tm} {n:Int} (J:zH5 g=true) (I:zAw e n=true) (hc:e.dp<=1048576000 / 2):Pre g e n:=by
 simp only [zH5,oG,o3] at J
 simp only [zAw,oG] at I
 exact ⟨I.1,I.2,by omega,λx O=>oN (Ty.valid_cnt (zHt J.1 x O)) (by omega)⟩
theorem uj {g:List Tg} {es:List D} (I:Ctx g es) (Y:∀ x∈g,x.ty.cnt<=1073741824) {e:Tm} {d:D} (he:e.Is d) (hG:e.G) (hc:e.dp<=1048576000 / 2) (a:Option Addr) (c:Nat) (n:Int) :
  zRb 18 [.sv a 4 es c,.dg 9 d,.j n] (vl g e n):=λN Q J=>by
 refine zFg N a es c d n Q λ_ _=>?_
 cases O:zH5 g with
 | false=>
   rw [vl,if_neg (by simp [O])] at J
   repeat' first|with_reducible intro _|simp only[O,Y1,Y2,Y3,Y4]|with_reducible refine X ?_ ?_|refine⟨_,_,_,rfl,?_⟩|refine⟨_,rfl,?_⟩|refine And.intro (by first|omega|trivial|(show _=_;rfl)|(with_reducible constructor)<;>first|omega|trivial|rfl) ?_|refine (sM I Y a c) _ _ ?_|fail
   exact J _ _ (by omega) zF1
 | true=>
   cases U:zAw e n with
   | false=>
     rw [vl,if_neg (by simp [U])] at J
     repeat' first|with_reducible intro _|simp only[O,U,Y1,Y2,Y3,Y4]|with_reducible refine X ?_ ?_|refine⟨_,_,_,rfl,?_⟩|refine⟨_,rfl,?_⟩|refine And.intro (by first|omega|trivial|(show _=_;rfl)|(with_reducible constructor)<;>first|omega|trivial|rfl) ?_|refine (sM I Y a c) _ _ ?_|refine (vK e d he hG n) _ _ ?_|fail
     exact J _ _ (by omega) zF1
   | true=>
     rw [vl,if_pos ⟨O,U⟩] at J
     repeat' first|with_reducible intro _|simp only[O,U,Y1,Y2,Y3,Y4]|with_reducible refine X ?_ ?_|refine⟨_,_,_,rfl,?_⟩|refine⟨_,rfl,?_⟩|refine And.intro (by first|omega|trivial|(show _=_;rfl)|(with_reducible constructor)<;>first|omega|trivial|rfl) ?_|refine (sM I Y a c) _ _ ?_|refine (vK e d he hG n) _ _ ?_|refine (zE9 e d he g es a c n (zP5 O U hc) I) _ _ ?_|fail
     exact J _ _ (by omega) (by assumption)
end Go.Proofs.YtnmnahkkcfghjaaGreat
