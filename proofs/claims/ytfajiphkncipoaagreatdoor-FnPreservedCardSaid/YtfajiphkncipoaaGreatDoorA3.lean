/- Terms and typings as plain data; well-formed terms and contexts: the reference's functions. -/
import Derived.Test.YtfajiphkncipoaaGreatDoorA2
set_option linter.unusedVariables false
set_option linter.unusedSimpArgs false
namespace Go.Proofs.YtfajiphkncipoaaGreatDoor
open Go Go.Proofs Go.Proofs.Tryz Go.IntWalk
inductive Tm where
 | mk (k:Int) (nm ot:ByteArray) (n:Int) (ty re:Ty) (l:List Tm)
def Tm.as:Tm->List Tm
 | .mk _ _ _ _ _ _ l=>l
/-- the cells of a term ahead of its parts -/
structure Tm.Hd (nm ot:ByteArray) (ty re:Ty) (t0 t1 r0 r1:D):Prop where
 nm:nm.size<=4611686018427387904
 ot:ot.size<=4611686018427387904
 ty:ty.Is (.ag [t0,t1])
 re:re.Is (.ag [r0,r1])
mutual
def Tm.Is:Tm->D->Prop
 | .mk k nm ot n ty re l,d=>∃ t0 t1 r0 r1 a es c,d=.ag [.j k,.t nm,.t ot,.j n,t0,t1,r0,r1,.sl a 9 es c]/\Tm.Hd nm ot ty re t0 t1 r0 r1/\es.length<=4611686018427387904/\zNq l es
def zNq:List Tm->List D->Prop
 | [],es=>es=[]
 | t::I,es=>∃ d ds,es=d::ds/\t.Is d/\zNq I ds
end
theorem zHt:∀ {l:List Tm} {es:List D},zNq l es↔All2 Tm.Is l es
 | [],es=>by simp only [zNq,All2]
 | t::U,es=>by
   simp only [zNq,All2]
   exact ⟨λ⟨d,ds,I,J,O⟩=>⟨d,ds,I,J,zHt.1 O⟩,λ⟨d,ds,I,J,O⟩=>⟨d,ds,I,J,zHt.2 O⟩⟩
theorem Tm.is_mk {k:Int} {nm ot:ByteArray} {n:Int} {ty re:Ty} {l:List Tm} {d:D}:(Tm.mk k nm ot n ty re l).Is d ↔
  ∃ t0 t1 r0 r1 a es c,d=.ag [.j k,.t nm,.t ot,.j n,t0,t1,r0,r1,.sl a 9 es c]/\Tm.Hd nm ot ty re t0 t1 r0 r1/\es.length<=4611686018427387904/\All2 Tm.Is l es:=by
 simp only [Tm.Is,zHt]
theorem Tm.ind {P:Tm->Prop} (h:∀ k nm ot n ty re l,(∀ t∈l,P t)->P (.mk k nm ot n ty re l)):∀ t,P t:=λt=>
 Tm.rec (motive_1:=P) (motive_2:=λl=>∀ t∈l,P t) (λk nm ot n ty re l I=>h k nm ot n ty re l I) (by simp) (λt l J O u hu=>by
  rcases oF.1 hu with rfl | hu
  ·exact J
  ·exact O u hu) t
mutual
def Tm.cnt:Tm->Nat
 | .mk _ _ _ _ ty re l=>1+ty.cnt+re.cnt+zh l
def zh:List Tm->Nat
 | []=>0
 | t::I=>t.cnt+zh I
end
theorem ph:∀ {l:List Tm} {t:Tm},t∈l->t.cnt<=zh l
 | u::us,t,h=>by
   simp only [zh]
   rcases oF.1 h with rfl | h
   ·omega
   ·have:=ph h;omega
theorem uj:∀ l:List Tm,l.length<=zh l
 | []=>oD _
 | .mk _ _ _ _ _ _ _::I=>by simp only [zh,Tm.cnt,oM];have:=uj I;omega
mutual
def Tm.dp:Tm->Nat
 | .mk _ _ _ _ _ _ l=>wT l+1
def wT:List Tm->Nat
 | []=>0
 | t::I=>max t.dp (wT I)
end
mutual
theorem Tm.dp_cnt:∀ t:Tm,t.dp<=t.cnt
 | .mk _ _ _ _ ty re l=>by simp only [Tm.dp,Tm.cnt];have:=zEJ l;omega
theorem zEJ:∀ l:List Tm,wT l<=zh l
 | []=>oD _
 | t::I=>by simp only [wT,zh];have:=t.dp_cnt;have:=zEJ I;omega
end
theorem Tm.dp_pos (t:Tm):1<=t.dp:=by cases t;simp only [Tm.dp];omega
theorem wO:∀ {l:List Tm} {t:Tm},t∈l->t.dp<=wT l
 | u::us,t,h=>by
   simp only [wT]
   rcases oF.1 h with rfl | h
   ·omega
   ·have:=wO h;omega
mutual
/-- types and rows of a term are not too long -/
def Tm.G:Tm->Prop
 | .mk _ _ _ _ ty re l=>ty.cnt<=1073741824/\re.cnt<=1073741824/\l.length<=1073741824/\zLu l
def zLu:List Tm->Prop
 | []=>True
 | t::I=>t.G/\zLu I
end
theorem zn:∀ {l:List Tm} {x:Tm},zLu l->x∈l->x.G
 | t::I,x,h,hx=>by
   rcases oF.1 hx with rfl | hx
   ·exact h.1
   ·exact zn h.2 hx
theorem zBk:∀ {l:List Tm},(∀ x∈l,x.G)->zLu l
 | [],_=>trivial
 | t::J,h=>⟨h t (by simp),zBk λx I=>h x (by simp [I])⟩
mutual
theorem Tm.G_cnt:∀ t:Tm,t.cnt<=1073741824->t.G
 | .mk _ _ _ _ ty re l,h=>by
   simp only [Tm.cnt] at h
   have:=uj l
   exact ⟨by omega,by omega,by omega,zK7 l (by omega)⟩
theorem zK7:∀ l:List Tm,zh l<=1073741824->zLu l
 | [],_=>trivial
 | t::I,h=>by
   simp only [zh] at h
   exact ⟨Tm.G_cnt t (by omega),zK7 I (by omega)⟩
end
structure Tg where
 nm:ByteArray
 ty:Ty
 lv:Int
def Tg.Is (g:Tg) (d:D):Prop:=∃ t0 t1,d=.ag [.t g.nm,t0,t1,.j g.lv]/\g.nm.size<=4611686018427387904/\g.ty.Is (.ag [t0,t1])
theorem Tg.is_mk {nm:ByteArray} {ty:Ty} {lv:Int} {d:D}:(Tg.mk nm ty lv).Is d↔∃ t0 t1,d=.ag [.t nm,t0,t1,.j lv]/\nm.size<=4611686018427387904/\ty.Is (.ag [t0,t1]):=lA
def zDL (s:ByteArray):Int:=if s=bytes [43] then 2 else if s=bytes [45] then 2 else if s=bytes [42] then 2 else if s=bytes [61] then 2 else if s=bytes [60] then 2 else if s=bytes [38] then 2 else if s=bytes [124] then 2 else if s=bytes [33] then 1 else 0
theorem tS (s:ByteArray):zCS 117 [.str s] (zDL s):=λN Q I=>by
 refine zFa N s Q ?_
 repeat' first|with_reducible intro _|simp only[Y1,Y2,Y3,Y4]|with_reducible refine X ?_ ?_|refine⟨_,_,_,rfl,?_⟩|refine⟨_,rfl,?_⟩|refine And.intro (by first|omega|trivial|(show _=_;rfl)|(with_reducible constructor)<;>first|omega|trivial|rfl) ?_|fail
 all_goals (refine Qi (I _ (by assumption)) ?_;unfold zDL;(repeat' split)<;>first | rfl | contradiction)
def Ty.zero (t:Ty):Bool:=t.k==0&&(t.as.length:Int)==0
theorem zAn (t:Ty) (d:D) (hd:t.Is d):ur 115 [.dg 2 d] t.zero:=λN Q O=>by
 cases t with
 | mk k l=>
 obtain ⟨a,es,c,rfl,J,I⟩:=Ty.is_mk.1 hd
 have U:=I.len
 refine zGk N _ Q λ_=>?_
 repeat' first|with_reducible intro _|simp only[Y1,Y2,Y3,Y4]|with_reducible refine X ?_ ?_|refine⟨_,_,_,rfl,?_⟩|refine⟨_,rfl,?_⟩|refine And.intro (by first|omega|trivial|(show _=_;rfl)|(with_reducible constructor)<;>first|omega|trivial|rfl) ?_|fail
 all_goals refine Qb (O _ (by assumption)) ?_
 all_goals simp [Ty.zero,Ty.k,Ty.as,U, *]
def xK (k:Int) (nm ot:ByteArray):Bool:=
 if k=4 then decide (zDL nm>0)&&decide (ot=bytes []) else if k=1\/k=6\/k=8 then yg nm&&decide (ot=bytes []) else if k=9 then yg nm&&(yg ot&&!decide (nm=ot)) else decide (nm=bytes [])&&decide (ot=bytes [])
theorem zUf (a b:Int):(a==b)=decide (a=b):=by rw [mP];simp
def qO (k:Int):Bool:=k==6||k==9
def zJ (k:Int) (nm ot:ByteArray) (n:Int) (ty re:Ty):Bool:=
 (qO k==ty.valid)&&((qO k||ty.zero)&&(((k==9)==re.valid)&&((k==9||re.zero)&&(inB n 0 (if k=2 then 10006 else if k=3 then 1 else 0)&&xK k nm ot))))
def zE8 (k:Int) (nm:ByteArray):Int:=
 if k=1\/k=2\/k=3 then 0 else if k=4 then zDL nm else if k=6\/k=9\/k=10\/k=11\/k=12\/k=13 then 1 else if k=7\/k=8 then 2 else if k=5 then 3 else -1
mutual
def Tm.ok:Tm->Bool
 | .mk k nm ot n ty re l=>tn l&&(zJ k nm ot n ty re&&(l.length:Int)==zE8 k nm)
def tn:List Tm->Bool
 | []=>true
 | t::I=>t.ok&&tn I
end
theorem zFT {k n:Int} {nm ot:ByteArray} {ty re:Ty} {t0 t1 r0 r1 x:D} (h:Tm.Hd nm ot ty re t0 t1 r0 r1):ur 116 [.dg 9 (.ag [.j k,.t nm,.t ot,.j n,t0,t1,r0,r1,x])] (xK k nm ot):=λN Q I=>by
 refine zFU N _ Q λ_=>?_
 repeat' first|with_reducible intro _|simp only[Y1,Y2,Y3,Y4]|with_reducible refine X ?_ ?_|refine⟨_,_,_,rfl,?_⟩|refine⟨_,rfl,?_⟩|refine And.intro (by first|omega|trivial|(show _=_;rfl)|(with_reducible constructor)<;>first|omega|trivial|rfl) ?_|refine (tS _) _ _ ?_|refine (sT _ h.nm) _ _ ?_|refine (sT _ h.ot) _ _ ?_|fail
 all_goals (refine Qb (I _ (by omega)) ?_;simp [xK,vU, *])
theorem zDy {k n:Int} {nm ot:ByteArray} {ty re:Ty} {t0 t1 r0 r1 x:D} (h:Tm.Hd nm ot ty re t0 t1 r0 r1) (hc:ty.cnt<=1073741824) (I:re.cnt<=1073741824) :
  ur 71 [.dg 9 (.ag [.j k,.t nm,.t ot,.j n,t0,t1,r0,r1,x])] (zJ k nm ot n ty re):=λN Q J=>by
 refine zEF N _ Q λ_=>?_
 repeat' first|with_reducible intro _|simp only[Y1,Y2,Y3,Y4]|with_reducible refine X ?_ ?_|refine⟨_,_,_,rfl,?_⟩|refine⟨_,rfl,?_⟩|refine And.intro (by first|omega|trivial|(show _=_;rfl)|(with_reducible constructor)<;>first|omega|trivial|rfl) ?_|refine (yY _ _ h.ty hc) _ _ ?_|refine (yY _ _ h.re I) _ _ ?_|refine (zAn _ _ h.ty) _ _ ?_|refine (zAn _ _ h.re) _ _ ?_|refine (xV _ _ _) _ _ ?_|refine (zFT h) _ _ ?_|fail
 all_goals first | (exfalso;omega) | (refine Qb (J _ (by omega)) ?_;simp [zJ,qO, *];done) | (refine Qb (J _ (by omega)) ?_;simp_all [zJ,qO];done) | (refine Qb (J _ (by omega)) ?_;simp_all only [zJ,qO,zUf];simp_all;done)
theorem xk {k n:Int} {nm ot:ByteArray} {t0 t1 r0 r1 x:D}:zCS 72 [.dg 9 (.ag [.j k,.t nm,.t ot,.j n,t0,t1,r0,r1,x])] (zE8 k nm):=λN Q I=>by
 refine zFe N _ Q λ_=>?_
 repeat' first|with_reducible intro _|simp only[Y1,Y2,Y3,Y4]|with_reducible refine X ?_ ?_|refine⟨_,_,_,rfl,?_⟩|refine⟨_,rfl,?_⟩|refine And.intro (by first|omega|trivial|(show _=_;rfl)|(with_reducible constructor)<;>first|omega|trivial|rfl) ?_|refine (tS _) _ _ ?_|fail
 all_goals (refine Qi (I _ (by omega)) ?_;simp [zE8, *])
theorem pE:∀ (t:Tm) (d:D),t.Is d->t.G->ur 38 [.dg 9 d] t.ok:=by
 refine Tm.ind λk nm ot n ty re l ih d hd hc N Q hQ=>?_
 obtain ⟨t0,t1,r0,r1,a,es,c,rfl,hh,O,U⟩:=Tm.is_mk.1 hd
 have hl:=U.len
 obtain ⟨g1,g2,_,g4⟩:=hc
 refine zGq N _ Q λ_=>?_
 have key:=up U O (λi xs=>∀ (N':Nat),N<=N'->(∀ N'',N'<=N''->Q (tn xs&&(zJ k nm ot n ty re&&(l.length:Int)==zE8 k nm)) N'')->vC Q N i (.ag [.j k,.t nm,.t ot,.j n,t0,t1,r0,r1,.sl a 9 es c]) N') ?_ ?_
 ·exact key N (oD _) hQ
 ·intro i Y _ N' aa J
  refine qN _ _ _ _ _ ?_
  repeat' first|with_reducible intro _|simp only[Y,Y1,Y2,Y3,Y4]|with_reducible refine X ?_ ?_|refine⟨_,_,_,rfl,?_⟩|refine⟨_,rfl,?_⟩|refine And.intro (by first|omega|trivial|(show _=_;rfl)|(with_reducible constructor)<;>first|omega|trivial|rfl) ?_|refine (zDy hh (by omega) (by omega)) _ _ ?_|refine xk _ _ ?_|fail
  all_goals (refine Qb (J _ (by omega)) ?_;simp [tn, *])
 ·intro i x xs I _ ab N' aa J
  have hb:=I.b
  have ac:=zn g4 I.m
  refine qN _ _ _ _ _ ?_
  repeat' first|with_reducible intro _|simp only[I.lt,I.w,oJ,Y1,Y2,Y3,Y4]|with_reducible refine X ?_ ?_|refine⟨_,_,_,rfl,?_⟩|refine⟨_,rfl,?_⟩|refine And.intro (by first|omega|trivial|(show _=_;rfl)|(with_reducible constructor)<;>first|omega|trivial|rfl) ?_|refine (ih x I.m _ I.r ac) _ _ ?_|fail
  ·refine Qb (J _ (by omega)) ?_;simp [tn, *]
  ·exact ab _ (by omega) λN'' h=>Qb (J N'' (by omega)) (by simp [tn, *])
theorem zG5 (t:Tm) (d:D) (h:t.Is d) (hc:t.cnt<=1073741824):ur 38 [.dg 9 d] t.ok:=pE t d h (Tm.G_cnt t hc)
theorem yo {n a b:Int}:inB n a b=true↔a<=n/\n<=b:=by simp [inB]
def zW (k n:Int):Int:=if k=10 then n+1 else if k=11 then n - 1 else n
mutual
def Tm.lev:Tm->Int->Bool
 | .mk k _ _ _ _ _ l,n=>inB n 0 2&&vv l (zW k n)
def vv:List Tm->Int->Bool
 | [],_=>true
 | t::I,n=>t.lev n&&vv I n
end
theorem sR {k n m:Int} {c1 I J O U Y c8:D} (h:0<=m/\m<=2):zCS 110 [.dg 9 (.ag [.j k,c1,I,.j n,J,O,U,Y,c8]),.j m] (zW k m):=λN Q hQ=>by
 refine zAK N _ m Q λ_=>?_
 rw [i64_in (m+1) (by omega),i64_in (m - 1) (by omega)]
 repeat' first|with_reducible intro _|simp only[Y1,Y2,Y3,Y4]|with_reducible refine X ?_ ?_|refine⟨_,_,_,rfl,?_⟩|refine⟨_,rfl,?_⟩|refine And.intro (by first|omega|trivial|(show _=_;rfl)|(with_reducible constructor)<;>first|omega|trivial|rfl) ?_|fail
 all_goals (refine Qi (hQ _ (by omega)) ?_;simp [zW, *])
theorem zDx:∀ (t:Tm) (d:D),t.Is d->∀ m:Int,ur 69 [.dg 9 d,.j m] (t.lev m):=by
 refine Tm.ind λk nm ot n ty re l ih d hd m N Q hQ=>?_
 obtain ⟨t0,t1,r0,r1,a,es,c,rfl,hh,U,Y⟩:=Tm.is_mk.1 hd
 have hl:=Y.len
 refine zJ8 N _ m Q λ_=>?_
 cases I:inB m 0 2 with
 | false=>
   repeat' first|with_reducible intro _|simp only[I,Y1,Y2,Y3,Y4]|with_reducible refine X ?_ ?_|refine⟨_,_,_,rfl,?_⟩|refine⟨_,rfl,?_⟩|refine And.intro (by first|omega|trivial|(show _=_;rfl)|(with_reducible constructor)<;>first|omega|trivial|rfl) ?_|refine (xV _ _ _) _ _ ?_|fail
   exact Qb (hQ _ (by omega)) (by simp [Tm.lev,I])
 | true=>
   have hb:=yo.1 I
   have key:=up Y U (λi xs=>∀ (N':Nat),N<=N'->(∀ N'',N'<=N''->Q (vv xs (zW k m)) N'')->uE Q N m i (.ag [.j k,.t nm,.t ot,.j n,t0,t1,r0,r1,.sl a 9 es c]) N') ?_ ?_
   ·repeat' first|with_reducible intro _|simp only[I,Y1,Y2,Y3,Y4]|with_reducible refine X ?_ ?_|refine⟨_,_,_,rfl,?_⟩|refine⟨_,rfl,?_⟩|refine And.intro (by first|omega|trivial|(show _=_;rfl)|(with_reducible constructor)<;>first|omega|trivial|rfl) ?_|refine (xV _ _ _) _ _ ?_|fail
    exact key _ (by omega) λN'' h=>Qb (hQ N'' (by omega)) (by simp [Tm.lev,I])
   ·intro i aa _ N' ab O
    refine zAW _ _ _ _ _ _ ?_
    repeat' first|with_reducible intro _|simp only[aa,Y1,Y2,Y3,Y4]|with_reducible refine X ?_ ?_|refine⟨_,_,_,rfl,?_⟩|refine⟨_,rfl,?_⟩|refine And.intro (by first|omega|trivial|(show _=_;rfl)|(with_reducible constructor)<;>first|omega|trivial|rfl) ?_|fail
    exact Qb (O _ (by omega)) (by simp [vv])
   ·intro i x xs J _ ac N' ab O
    have ae:=J.b
    refine zAW _ _ _ _ _ _ ?_
    repeat' first|with_reducible intro _|simp only[J.lt,J.w,oJ,Y1,Y2,Y3,Y4]|with_reducible refine X ?_ ?_|refine⟨_,_,_,rfl,?_⟩|refine⟨_,rfl,?_⟩|refine And.intro (by first|omega|trivial|(show _=_;rfl)|(with_reducible constructor)<;>first|omega|trivial|rfl) ?_|refine (sR hb) _ _ ?_|refine (ih x J.m _ J.r _) _ _ ?_|fail
    ·refine Qb (O _ (by omega)) ?_;simp [vv, *]
    ·exact ac _ (by omega) λN'' h=>Qb (O N'' (by omega)) (by simp [vv, *])
def qr (t:Tm) (n:Int):Bool:=t.ok&&t.lev n
theorem vq (t:Tm) (d:D) (hd:t.Is d) (hc:t.G) (m:Int):ur 36 [.dg 9 d,.j m] (qr t m):=λN Q I=>by
 refine zE4 N _ m Q λ_=>?_
 repeat' first|with_reducible intro _|simp only[Y1,Y2,Y3,Y4]|with_reducible refine X ?_ ?_|refine⟨_,_,_,rfl,?_⟩|refine⟨_,rfl,?_⟩|refine And.intro (by first|omega|trivial|(show _=_;rfl)|(with_reducible constructor)<;>first|omega|trivial|rfl) ?_|refine (pE t d hd hc) _ _ ?_|refine (zDx t d hd m) _ _ ?_|fail
 all_goals (refine Qb (I _ (by omega)) ?_;simp [qr, *])
structure Ctx (g:List Tg) (es:List D):Prop where
 len:es.length<=4611686018427387904
 all:All2 Tg.Is g es
def Tg.ok (g:Tg):Bool:=yg g.nm&&(g.ty.valid&&inB g.lv 0 2)
def zIc:List Tg->Bool
 | []=>true
 | g::I=>g.ok&&zIc I
def zNX (g:List Tg):Bool:=zIc g&&decide ((g.length:Int)<=12)
theorem rT {g:List Tg} {es:List D} (h:Ctx g es) (hc:∀ x∈g,x.ty.cnt<=1073741824) (a:Option Addr) (c:Nat):ur 35 [.sv a 4 es c] (zNX g):=λN Q hQ=>by
 have hl:=h.all.len
 refine zJj N a es c Q λ_=>?_
 have key:=up h.all h.len (λi xs=>∀ (N':Nat),N<=N'->(∀ N'',N'<=N''->Q (zIc xs&&decide ((g.length:Int)<=12)) N'')->vX Q N a es c i N') ?_ ?_
 ·exact key N (oD _) hQ
 ·intro i O _ N' U J
  refine pI _ _ _ _ _ _ _ ?_
  repeat' first|with_reducible intro _|simp only[O,Y1,Y2,Y3,Y4]|with_reducible refine X ?_ ?_|refine⟨_,_,_,rfl,?_⟩|refine⟨_,rfl,?_⟩|refine And.intro (by first|omega|trivial|(show _=_;rfl)|(with_reducible constructor)<;>first|omega|trivial|rfl) ?_|fail
  refine Qb (J _ (by omega)) ?_;simp [zIc,hl]
 ·intro i x xs I _ Y N' U J
  have hb:=I.b
  obtain ⟨t0,t1,hd,hs,ht⟩:=I.r
  refine pI _ _ _ _ _ _ _ ?_
  repeat' first|with_reducible intro _|simp only[I.lt,I.w,oJ,hd,Y1,Y2,Y3,Y4]|with_reducible refine X ?_ ?_|refine⟨_,_,_,rfl,?_⟩|refine⟨_,rfl,?_⟩|refine And.intro (by first|omega|trivial|(show _=_;rfl)|(with_reducible constructor)<;>first|omega|trivial|rfl) ?_|refine (sT _ hs) _ _ ?_|refine (yY _ _ ht (hc x I.m)) _ _ ?_|refine (xV _ _ _) _ _ ?_|fail
  all_goals first
   | (refine Y _ (by omega) λN'' h=>Qb (J N'' (by omega)) ?_;simp [zIc,Tg.ok, *];done)
   | (refine Qb (J _ (by omega)) ?_;simp [zIc,Tg.ok, *];done)
def tg0:Tg:=⟨bytes [],tZero,0⟩
def uW (g:List Tg) (s:ByteArray):Nat->Int
 | 0 => -1
 | k+1=>if (g.getD k tg0).nm=s then k else uW g s k
def zN (g:List Tg) (s:ByteArray):Int:=uW g s g.length
theorem zBD (g:List Tg) (s:ByteArray):∀ n:Nat,uW g s n = -1\/(0<=uW g s n/\uW g s n<n)
 | 0=>.inl rfl
 | n+1=>by
   simp only [uW]
   split
   ·exact .inr (by omega)
   ·rcases zBD g s n with h | h
    ·exact .inl h
    ·exact .inr (by omega)
theorem zU4 {α:Type} {R:α->D->Prop} {l:List α} {es:List D} (h:All2 R l es) (I:es.length<=4611686018427387904) (P:Int->Prop) (U:P (-1))
  (hs:∀ (i:Nat) x,At R l es i x->decide ((i:Int)≥0)=true->IntKind.i64.wrap ((i:Int) - 1)=(i:Int) - 1->P ((i:Int) - 1)->P i):P ((es.length:Int) - 1):=by
 have Y:=h.len
 have key:∀ n:Nat,n<=l.length->P ((n:Int) - 1):=by
  intro n
  induction n with
  | zero=>intro _;exact U
  | succ n ih=>
    intro J
    have O:l[n]?=some l[n]:=oG J
    have e:((n+1:Nat):Int) - 1=n:=by omega
    rw [e]
    exact hs n _ ⟨mM (by omega),⟨by omega,by omega⟩,by rw [i64_in _ (by omega)];simp,h.get O,mI J,O⟩ (mM (by omega)) (i64_in _ (by omega)) (ih (by omega))
 rw [Y]
 exact key _ (oD _)
theorem zOb {α:Type} {l:List α} {i:Nat} {x d:α} (h:l[i]?=some x):l.getD i d=x:=by simp [oA,h]
theorem uC {g:List Tg} {es:List D} (h:Ctx g es) (a:Option Addr) (c:Nat) (s:ByteArray):zCS 111 [.sv a 4 es c,.str s] (zN g s):=λN Q hQ=>by
 have hl:=h.all.len
 have h1:=h.len
 refine zHD N a es c s Q λ_=>?_
 have key:=zU4 h.all h.len (λm=>∀ (N':Nat),N<=N'->(∀ N'',N'<=N''->Q (uW g s (m+1).toNat) N'')->wo Q N a es c s m N') ?_ ?_
 ·rw [i64_in _ (by omega)]
  exact key N (oD _) λN' J=>Qi (hQ N' J) (by rw [zN,<-hl];congr 1;omega)
 ·intro N' J I
  refine qG _ _ _ _ _ _ _ _ ?_
  repeat' first|with_reducible intro _|simp only[Y1,Y2,Y3,Y4]|with_reducible refine X ?_ ?_|refine⟨_,_,_,rfl,?_⟩|refine⟨_,rfl,?_⟩|refine And.intro (by first|omega|trivial|(show _=_;rfl)|(with_reducible constructor)<;>first|omega|trivial|rfl) ?_|fail
  ·omega
  ·exact I _ (by assumption)
 ·intro i x O U hw ih N' J I
  have hb:=O.b
  obtain ⟨t0,t1,hd,hs,ht⟩:=O.r
  have e1:((i:Int)+1).toNat=i+1:=by omega
  have e2:((i:Int) - 1+1).toNat=i:=by omega
  rw [e1] at I
  simp only [uW,zOb O.g] at I
  rw [e2] at ih
  refine qG _ _ _ _ _ _ _ _ ?_
  repeat' first|with_reducible intro _|simp only[U,hw,oJ,hd,Y1,Y2,Y3,Y4]|with_reducible refine X ?_ ?_|refine⟨_,_,_,rfl,?_⟩|refine⟨_,rfl,?_⟩|refine And.intro (by first|omega|trivial|(show _=_;rfl)|(with_reducible constructor)<;>first|omega|trivial|rfl) ?_|fail
  ·rename_i Y _ _;exact Qi (I _ (by omega)) (by rw [if_pos Y])
  ·rename_i Y;exact ih _ (by omega) λN'' h=>Qi (I N'' (by omega)) (by rw [if_neg Y])
theorem Ty.is_cells {t:Ty} {d:D} (h:t.Is d):t.Is (.ag [D.cell d 0,D.cell d 1]):=by
 cases t with
 | mk k l=>obtain ⟨a,es,c,rfl,_,_⟩:=Ty.is_mk.1 h;exact h
def pA (g:List Tg) (n:Int) (x:Tg) (i:Nat):Bool:=x.ty.base&&(decide (x.lv<=n)&&decide (zN g x.nm=(i:Int)))
def vH (g:List Tg) (n:Int):List Tg->Nat->List Tg
 | [],_=>[]
 | x::xs,i=>if pA g n x i then x::vH g n xs (i+1) else vH g n xs (i+1)
def te (g:List Tg) (n:Int):List Tg:=vH g n g 0
theorem zBe (g:List Tg) (n:Int):∀ (l:List Tg) (i:Nat),(∀ x∈vH g n l i,x∈l)/\(vH g n l i).length<=l.length
 | [],i=>by simp [vH]
 | x::xs,i=>by
   have h:=zBe g n xs (i+1)
   simp only [vH]
   split
   ·refine ⟨λy hy=>?_,by simp;exact h.2⟩
    rcases oF.1 hy with rfl | hy
    ·exact nh
    ·exact nf _ (h.1 y hy)
   ·exact ⟨λy hy=>nf _ (h.1 y hy),by have:=h.2;simp;omega⟩
theorem tP {g:List Tg} {es:List D} (h:Ctx g es) (hg:g.length<=1073741824) (hc:∀ x∈g,x.ty.cnt<=1073741824) (a:Option Addr) (c:Nat) (n:Int) :
  ∀ (N:Nat) (Q:QT [.sl 4]),(∀ a' J c' N',N<=N'->Ctx (te g n) J->Q a' J c' N')->ACalls prog 152 [.sl 4] [.sv a 4 es c,.j n] N Q:=λN Q hQ=>by
 have hl:=h.all.len
 refine zFb N a es c n Q λ_=>?_
 have key:=up h.all h.len (λi xs=>∀ (r:List D) (m q:Nat) (N':Nat) (done:List Tg),N<=N'->m=r.length->All2 Tg.Is done r->done.length<=i->done++vH g n xs i=te g n->yF Q N a es c n m q i r q N') ?_ ?_
 ·exact key [] 0 0 N [] (oD _) rfl rfl (oD _) rfl
 ·intro i Y hi r m q N' done aa hm O ab hd
  refine rE _ _ _ _ _ _ _ _ _ _ _ _ ?_
  repeat' first|with_reducible intro _|simp only[Y,Y1,Y2,Y3,Y4]|with_reducible refine X ?_ ?_|refine⟨_,_,_,rfl,?_⟩|refine⟨_,rfl,?_⟩|refine And.intro (by first|omega|trivial|(show _=_;rfl)|(with_reducible constructor)<;>first|omega|trivial|rfl) ?_|fail
  refine hQ _ _ _ _ (by omega) ⟨by have:=O.len;omega,?_⟩
  simp only [vH,nH] at hd
  rwa [<-hd]
 ·intro i x xs I _ U r m q N' done aa hm O ab hd
  have hb:=I.b
  have ae:=O.len
  obtain ⟨t0,t1,he,hs,ht⟩:=I.r
  simp only [vH] at hd
  refine rE _ _ _ _ _ _ _ _ _ _ _ _ ?_
  repeat' first|with_reducible intro _|simp only[I.lt,I.w,oJ,he,Y1,Y2,Y3,Y4]|with_reducible refine X ?_ ?_|refine⟨_,_,_,rfl,?_⟩|refine⟨_,rfl,?_⟩|refine And.intro (by first|omega|trivial|(show _=_;rfl)|(with_reducible constructor)<;>first|omega|trivial|rfl) ?_|refine (sa _ _ ht) _ _ ?_|refine (uC h a c _) _ _ ?_|refine (zK _ _ ht (hc x I.m)) _ _ ?_|fail
  ·rename_i N2 ah x' N3 ai hx ho _ _
   have ac:pA g n x i=true:=by simp [pA, *]
   rw [if_pos ac] at hd
   refine ⟨by unfold zB;simp only [oH,nX];omega,λc2=>U _ _ _ _ (done++[x]) (by omega) rfl (O.snoc ⟨_,_,rfl,hs,Ty.is_cells hx⟩) (by simp;omega) (by simpa using hd)⟩
  all_goals (refine U _ _ _ _ done (by omega) hm O (by omega) ?_;rw [<-hd,if_neg (by simp [pA, *])])
theorem yJ {g:List Tg} {es:List D} (h:Ctx g es) (hg:g.length<=1073741824) (a:Option Addr) (c:Nat) {s:ByteArray} (hs:s.size<=4611686018427387904) {t:Ty} {d:D} (J:t.Is d) (n:Int) :
  ∀ (N:Nat) (Q:QT [.sl 4]),(∀ O I U N',N<=N'->Ctx (g++[⟨s,t,n⟩]) I->Q O I U N')->ACalls prog 133 [.sl 4] [.sv a 4 es c,.str s,.dg 2 d,.j n] N Q:=λN Q Y=>by
 have hl:=h.all.len
 have hb:∀ x:D,zB ([]++es) [x] 56:=λx=>by unfold zB;simp only [oY,oH,nX];omega
 have aa:zB [] es 56:=by unfold zB;simp only [oY];omega
 refine zIJ N a es c s d n Q λ_ _=>?_
 repeat' first|with_reducible intro _|simp only[Y1,Y2,Y3,Y4]|with_reducible refine X ?_ ?_|refine⟨_,_,_,rfl,?_⟩|refine⟨_,rfl,?_⟩|refine And.intro (by first|omega|trivial|(show _=_;rfl)|(with_reducible constructor)<;>first|omega|trivial|rfl) ?_|fail
 refine ⟨hb _,λc2=>?_⟩
 repeat' first|with_reducible intro _|simp only[Y1,Y2,Y3,Y4]|with_reducible refine X ?_ ?_|refine⟨_,_,_,rfl,?_⟩|refine⟨_,rfl,?_⟩|refine And.intro (by first|omega|trivial|(show _=_;rfl)|(with_reducible constructor)<;>first|omega|trivial|rfl) ?_|fail
 refine Y _ _ _ _ (by omega) ⟨by simp;omega,?_⟩
 simp only [oY]
 exact h.all.snoc ⟨_,_,rfl,hs,Ty.is_cells J⟩
def zMB (o:Option Ty) (d:D) (b:Bool):Prop:=match o with
 | some t=>b=true/\t.Is d
 | none=>b=false
/-- the kind of what an operation works on -/
def zHK (s:ByteArray):Int:=if s=bytes [38] then 2 else if s=bytes [124] then 2 else if s=bytes [33] then 2 else 1
def rj (s:ByteArray):Ty:=if s=bytes [43] then tInt else if s=bytes [45] then tInt else if s=bytes [42] then tInt else tBool
def zOm (w:Int):List Ty->Bool
 | []=>true
 | t::I=>decide (t.k=w)&&zOm w I
def zPG (s:ByteArray) (I:List Ty):Option Ty:=if zOm (zHK s) I then some (rj s) else none
theorem zKS {ts:List Ty} {es:List D} (h:All2 Ty.Is ts es) (hlen:es.length<=4611686018427387904) (a:Option Addr) (c:Nat) (s:ByteArray) :
  ∀ (N:Nat) (Q:QT [.ag 2,.bool]),(∀ d b N',N<=N'->zMB (zPG s ts) d b->(∀ x∈d.foot,N<=x)->Q d b N')->ACalls prog 153 [.ag 2,.bool] [.str s,.sv a 2 es c] N Q:=fun N Q hQ=>by
 refine zKf N s a es c Q fun _=>?_
 have key:yZ Q N s a es c (zHK s) (0:Nat) 0 none [] 0 N:=by
  refine up h hlen (fun i xs=>∀ (N':Nat),N<=N'->zOm (zHK s) xs=zOm (zHK s) ts->yZ Q N s a es c (zHK s) i 0 none [] 0 N') ?_ ?_ N (oD _) rfl
  ·intro i hlt _ N' hN' hk
   refine zAj _ _ _ _ _ _ _ _ _ _ _ _ _ ?_
   have ho:zPG s ts=some (rj s):=by rw [zPG,<-hk];rfl
   rw [ho] at hQ
   repeat' first|with_reducible intro _|simp only[hlt,Y1,Y2,Y3,Y4]|with_reducible refine X ?_ ?_|refine⟨_,_,_,rfl,?_⟩|refine⟨_,rfl,?_⟩|refine And.intro (by first|omega|trivial|(show _=_;rfl)|(with_reducible constructor)<;>first|omega|trivial|rfl) ?_|refine xU _ _ ?_|refine xb _ _ ?_|fail
   all_goals
    rename_i hx ho _ _ _ _
    refine hQ _ _ _ (by omega) ⟨rfl,?_⟩ fun b hb=>by have:=ho.lo b hb;omega
    have e:rj s=tInt\/rj s=tBool:=by unfold rj;(repeat' split)<;>simp
    first
     | (have e:rj s=tInt:=by unfold rj;(repeat' split)<;>first | rfl | contradiction
        rw [e];exact hx)
     | (have e:rj s=tBool:=by unfold rj;(repeat' split)<;>first | rfl | contradiction
        rw [e];exact hx)
  ·intro i x xs hat _ ih2 N' hN' hk
   have hb:=hat.b
   cases x with
   | mk k l=>
   obtain ⟨a1,es1,c1,he,_,_⟩:=Ty.is_mk.1 hat.r
   refine zAj _ _ _ _ _ _ _ _ _ _ _ _ _ ?_
   repeat' first|with_reducible intro _|simp only[hat.lt,hat.w,oJ,he,Y1,Y2,Y3,Y4]|with_reducible refine X ?_ ?_|refine⟨_,_,_,rfl,?_⟩|refine⟨_,rfl,?_⟩|refine And.intro (by first|omega|trivial|(show _=_;rfl)|(with_reducible constructor)<;>first|omega|trivial|rfl) ?_|fail
   ·rename_i hne _ _
    refine hQ _ _ _ (by omega) ?_ (by simp [D.foot,zG])
    have:zOm (zHK s) ts=false:=by rw [<-hk];simp [zOm,Ty.k,hne]
    rw [zPG,this];rfl
   ·rename_i hne
    exact ih2 _ hN' (by rw [<-hk];simp [zOm,Ty.k,hne])
 have e:zHK s=2\/zHK s=1:=by unfold zHK;(repeat' split)<;>simp
 repeat' first|with_reducible intro _|simp only[Y1,Y2,Y3,Y4]|with_reducible refine X ?_ ?_|refine⟨_,_,_,rfl,?_⟩|refine⟨_,rfl,?_⟩|refine And.intro (by first|omega|trivial|(show _=_;rfl)|(with_reducible constructor)<;>first|omega|trivial|rfl) ?_|fail
 all_goals
  first
   | (have e:zHK s=2:=by unfold zHK;(repeat' split)<;>first | rfl | contradiction
      rw [e] at key;exact key)
   | (have e:zHK s=1:=by unfold zHK;(repeat' split)<;>first | rfl | contradiction
      rw [e] at key;exact key)
/-- the type of a form of parts of these types -/
def xG (k:Int) (s:ByteArray) (I:List Ty):Option Ty:=
 if k=4 then zPG s I
 else if k=5 then (if (I.getD 0 tZero).k=2/\zBm (I.getD 1 tZero) (I.getD 2 tZero) then some (I.getD 1 tZero) else none)
 else if (I.getD 0 tZero).k=3/\zBm ((I.getD 0 tZero).as.getD 0 tZero) (I.getD 1 tZero) then some ((I.getD 0 tZero).as.getD 1 tZero) else none
theorem Ty.form_len {k:Int} {l:List Ty} (h:(Ty.mk k l).valid=true):sY k l.length=true:=by
 simp only [Ty.valid,Ty.form,oI] at h
 exact h.2.2
theorem Ty.valid_cnt {t:Ty} (h:t.valid=true):t.cnt<=30:=by
 simp only [Ty.valid,oI,nK] at h
 exact h.1.1
theorem zGy {I:List Ty} {es:List D} (h:All2 Ty.Is I es) (U:es.length<=4611686018427387904) (a:Option Addr) (c:Nat) {k n:Int} {s:ByteArray} {c2 c4 c5 c6 c7 c8:D}
  (hv:∀ t∈I,t.valid=true) (hk:k=4\/k=5/\I.length=3\/k=7/\I.length=2) :
  ∀ (N:Nat) (Q:QT [.ag 2,.bool]),(∀ d b N',N<=N'->zMB (xG k s I) d b->(∀ x∈d.foot,x∈zG es\/N<=x)->Q d b N') ->
  ACalls prog 114 [.ag 2,.bool] [.dg 9 (.ag [.j k,.t s,c2,.j n,c4,c5,c6,c7,c8]),.sv a 2 es c] N Q:=λN Q hQ=>by
 refine zHS N _ a es c Q λ_ _=>?_
 rcases hk with rfl | ⟨rfl,hl⟩ | ⟨rfl,hl⟩
 ·repeat' first|with_reducible intro _|simp only[Y1,Y2,Y3,Y4]|with_reducible refine X ?_ ?_|refine⟨_,_,_,rfl,?_⟩|refine⟨_,rfl,?_⟩|refine And.intro (by first|omega|trivial|(show _=_;rfl)|(with_reducible constructor)<;>first|omega|trivial|rfl) ?_|refine (zKS h U a c s) _ _ ?_|fail
  ·rename_i N1 ac d b N2 ae ho ah _ _ N3 ai
   exact hQ _ _ _ (by omega) (by simpa [xG] using ho) λx Y=>.inr (by have:=ah x Y;omega)
  all_goals (exfalso;omega)
 ·obtain ⟨t0,t1,t2,rfl⟩:∃ t0 t1 t2,I=[t0,t1,t2]:=by
   match I,hl with
   | [t0,t1,t2],_=>exact ⟨t0,t1,t2,rfl⟩
  obtain ⟨d0,_,rfl,h0,d1,_,rfl,h1,d2,_,rfl,h2,rfl⟩:=h
  cases t0 with
  | mk O l0=>
  obtain ⟨a0,aj,c0,rfl,ak,aa⟩:=Ty.is_mk.1 h0
  have hq:∀ (b:Bool) (N':Nat),N<=N'->(O=2/\zBm t1 t2=b\/¬O=2/\b=false)->Q d1 b N':=λb N' J hb=>by
   refine hQ _ _ _ J ?_ λx Y=>.inl (by simp only [zG,oK];exact .inr (.inl Y))
   rcases hb with ⟨e1,e2⟩ | ⟨e1,rfl⟩
   ·cases b<;>simp [xG,Ty.k,e1,e2,zMB,h1]
   ·simp [xG,Ty.k,e1,zMB]
  repeat' first|with_reducible intro _|simp only[oM,oS,Y1,Y2,Y3,Y4]|with_reducible refine X ?_ ?_|refine⟨_,_,_,rfl,?_⟩|refine⟨_,rfl,?_⟩|refine And.intro (by first|omega|trivial|(show _=_;rfl)|(with_reducible constructor)<;>first|omega|trivial|rfl) ?_|refine (zj _ _ _ _ h1 h2) _ _ ?_|fail
  all_goals first | (exfalso;omega) | skip
  ·exact hq _ _ (by omega) (.inl ⟨by assumption,rfl⟩)
  ·exact hq _ _ (by omega) (.inr ⟨by assumption,rfl⟩)
 ·obtain ⟨t0,t1,rfl⟩:∃ t0 t1,I=[t0,t1]:=by
   match I,hl with
   | [t0,t1],_=>exact ⟨t0,t1,rfl⟩
  obtain ⟨d0,_,rfl,h0,d1,_,rfl,h1,rfl⟩:=h
  cases t0 with
  | mk O l0=>
  obtain ⟨a0,aj,c0,rfl,ak,aa⟩:=Ty.is_mk.1 h0
  have hf:=Ty.form_len (hv _ nh)
  have al:=Ty.valid_cnt (hv _ nh)
  have hz:∀ N',N<=N'->¬(O=3/\zBm (l0.getD 0 tZero) t1=true)->Q (.ag [.j 0,.sl none 2 [] 0]) false N':=λN' J hb=>by
   refine hQ _ _ _ J ?_ (by simp [D.foot,zG])
   have:xG 7 s [.mk O l0,t1]=none:=by
    simp only [xG]
    rw [if_neg (by omega),if_neg (by omega)]
    exact if_neg hb
   rw [this];rfl
  by_cases hk:O=3
  ·subst hk
   have ab:(l0.length:Int)=2:=by simpa [sY] using hf
   have ab:l0.length=2:=by omega
   obtain ⟨u0,u1,rfl⟩:∃ t0 t1,l0=[t0,t1]:=by
    match l0,ab with
    | [t0,t1],_=>exact ⟨t0,t1,rfl⟩
   obtain ⟨x0,_,rfl,am,x1,_,rfl,ao,rfl⟩:=aa
   simp only [Ty.cnt,zM] at al
   repeat' first|with_reducible intro _|simp only[oM,oS,Y1,Y2,Y3,Y4]|with_reducible refine X ?_ ?_|refine⟨_,_,_,rfl,?_⟩|refine⟨_,rfl,?_⟩|refine And.intro (by first|omega|trivial|(show _=_;rfl)|(with_reducible constructor)<;>first|omega|trivial|rfl) ?_|refine (zj _ _ _ _ am h1) _ _ ?_|refine (zK _ _ ao (by omega)) _ _ ?_|fail
   all_goals first | (exfalso;omega) | skip
   ·rename_i he N1 ac d' N2 ae aq ho _ _ N3 ai
    refine hQ _ _ _ (by omega) ?_ λx Y=>.inr (by have:=ho.lo x Y;omega)
    simp [xG,Ty.k,Ty.as,he,zMB,aq]
   ·rename_i he _ _
    exact hz _ (by omega) (by simp [he])
  ·repeat' first|with_reducible intro _|simp only[oM,oS,Y1,Y2,Y3,Y4]|with_reducible refine X ?_ ?_|refine⟨_,_,_,rfl,?_⟩|refine⟨_,rfl,?_⟩|refine And.intro (by first|omega|trivial|(show _=_;rfl)|(with_reducible constructor)<;>first|omega|trivial|rfl) ?_|fail
   all_goals first | (exfalso;omega) | skip
   exact hz _ (by omega) λhc=>hk hc.1
def vld (o:Option Ty):Option Ty:=match o with
 | some t=>if t.valid then some t else none
 | none=>none
/-- the type of code, a splice, a run or a lift over this type -/
def yC (k:Int) (t:Ty):Option Ty:=
 if k=10 then some (xA t) else if k=13 then (if t.base then some (xA t) else none) else if t.k=4 then some (t.as.getD 0 tZero) else none
def xi (g:List Tg) (s:ByteArray) (n:Int):Option Ty:=
 if zN g s<0 then none else if (g.getD (zN g s).toNat tg0).lv=n then some (g.getD (zN g s).toNat tg0).ty else none
mutual
def Tm.type:Tm->List Tg->Int->Option Ty
 | .mk k nm ot _ ty re l,g,n=>vld (
   if k=1 then xi g nm n
   else if k=2 then some tInt
   else if k=3 then some tBool
   else if k=6 then (match tN l 0 (g++[⟨nm,ty,n⟩]) n with | some b=>some (wR ty b) | none=>none)
   else if k=8 then (match tN l 0 g n with | some a=>tN l 1 (g++[⟨nm,a,n⟩]) n | none=>none)
   else if k=9 then (match tN l 0 ((g++[⟨nm,wR ty re,n⟩])++[⟨ot,ty,n⟩]) n with | some b=>if zBm b re then some (wR ty re) else none | none=>none)
   else if k=10\/k=11\/k=12\/k=13 then (match tN l 0 (if k=12 then te g n else g) (zW k n) with | some t=>yC k t | none=>none)
   else (match ya l g n with | some I=>xG k nm I | none=>none))
def tN:List Tm->Nat->List Tg->Int->Option Ty
 | [],_,_,_=>none
 | t::_,0,g,n=>t.type g n
 | _::I,i+1,g,n=>tN I i g n
def ya:List Tm->List Tg->Int->Option (List Ty)
 | [],_,_=>some []
 | t::I,g,n=>match t.type g n with
   | some u=>(match ya I g n with | some us=>some (u::us) | none=>none)
   | none=>none
end
theorem zH2 {o:Option Ty} {t:Ty} (h:vld o=some t):o=some t/\t.valid=true:=by
 cases o with
 | none=>cases h
 | some u=>
   simp only [vld] at h
   split at h
   ·cases h;exact ⟨rfl,by assumption⟩
   ·cases h
theorem Tm.type_valid {e:Tm} {g:List Tg} {n:Int} {t:Ty} (h:e.type g n=some t):t.valid=true:=by
 cases e with
 | mk k nm ot m ty re l=>
   simp only [Tm.type] at h
   exact (zH2 h).2
theorem zF2:∀ {l:List Tm} {g:List Tg} {n:Int} {I:List Ty},ya l g n=some I->I.length=l.length/\∀ t∈I,t.valid=true
 | [],g,n,I,h=>by simp [ya] at h;subst h;simp
 | e :: es,g,n,I,h=>by
   simp only [ya] at h
   split at h
   ·rename_i u O
    split at h
    ·rename_i us J
     cases h
     have:=zF2 J
     refine ⟨by simp [this.1],λt ht=>?_⟩
     rcases oF.1 ht with rfl | ht
     ·exact Tm.type_valid O
     ·exact this.2 t ht
    ·cases h
   ·cases h
/-- what typing may count on -/
structure Pre (g:List Tg) (e:Tm) (n:Int):Prop where
 ok:e.ok=true
 lev:e.lev n=true
 len:g.length+2*e.dp<=1073741824
 ty:∀ x∈g,x.ty.cnt<=64
/-- the facts of a well-formed node -/
structure Node (k:Int) (nm ot:ByteArray) (n:Int) (ty re:Ty) (l:List Tm):Prop where
 f:zJ k nm ot n ty re=true
 ar:(l.length:Int)=zE8 k nm
 sub:∀ x∈l,x.ok=true
theorem zI7:∀ {l:List Tm} {x:Tm},tn l=true->x∈l->x.ok=true
 | t::I,x,h,hx=>by
   simp only [tn,oI] at h
   rcases oF.1 hx with rfl | hx
   ·exact h.1
   ·exact zI7 h.2 hx
theorem zCA:∀ {l:List Tm} {n:Int} {x:Tm},vv l n=true->x∈l->x.lev n=true
 | t::I,n,x,h,hx=>by
   simp only [vv,oI] at h
   rcases oF.1 hx with rfl | hx
   ·exact h.1
   ·exact zCA h.2 hx
theorem xJ {k:Int} {nm ot:ByteArray} {n:Int} {ty re:Ty} {l:List Tm} (h:(Tm.mk k nm ot n ty re l).ok=true):Node k nm ot n ty re l:=by
 simp only [Tm.ok,oI] at h
 exact ⟨h.2.1,by simpa using h.2.2,λx I=>zI7 h.1 I⟩
theorem Node.vt {k n:Int} {nm ot:ByteArray} {ty re:Ty} {l:List Tm} (h:Node k nm ot n ty re l) (I:k=6\/k=9):ty.valid=true:=by
 have:=h.f
 have e:qO k=true:=by rcases I with rfl | rfl<;>rfl
 simp only [zJ,oI,e] at this
 simpa using this.1
theorem Node.vr {k n:Int} {nm ot:ByteArray} {ty re:Ty} {l:List Tm} (h:Node k nm ot n ty re l) (I:k=9):re.valid=true:=by
 have:=h.f
 subst I
 simp only [zJ,oI] at this
 simpa using this.2.2.1
theorem zDR {k:Int} {nm:ByteArray} (h:0<=zE8 k nm):k=1\/k=2\/k=3\/k=4\/k=5\/k=6\/k=7\/k=8\/k=9\/k=10\/k=11\/k=12\/k=13:=by
 unfold zE8 at h
 (repeat' split at h)<;>omega
theorem Ty.cnt_pos (t:Ty):1<=t.cnt:=by cases t;simp only [Ty.cnt];omega
theorem Pre.sub {g g':List Tg} {k:Int} {nm ot:ByteArray} {m:Int} {ty re:Ty} {l:List Tm} {n:Int} {x:Tm} (h:Pre g (.mk k nm ot m ty re l) n) (I:x∈l) (U:g'.length<=g.length+2) (J:∀ y∈g',y.ty.cnt<=64):Pre g' x (zW k n):=by
 have O:=h.len
 have Y:=wO I
 simp only [Tm.dp] at O
 refine ⟨(xJ h.ok).sub x I,?_,by omega,J⟩
 have:=h.lev
 simp only [Tm.lev,oI] at this
 exact zCA this.2 I
theorem tU (k:Int) (nm:ByteArray):zE8 k nm<=3:=by
 unfold zE8
 (repeat' split)<;>first | omega | (unfold zDL;(repeat' split)<;>omega)
theorem Pre.len1 {g:List Tg} {e:Tm} {n:Int} (h:Pre g e n):g.length+2<=1073741824:=by
 have I:=h.len
 have J:=Tm.dp_pos e
 omega
theorem Pre.lv {g:List Tg} {e:Tm} {n:Int} (h:Pre g e n):0<=n/\n<=2:=by
 have:=h.lev
 cases e
 simp only [Tm.lev,oI] at this
 exact yo.1 this.1
theorem zGj {g:List Tg} (h:∀ y∈g,y.ty.cnt<=64) {x:Tg} (I:x.ty.cnt<=64):∀ y∈g++[x],y.ty.cnt<=64:=λy hy=>by
 rcases oK.1 hy with hy | hy
 ·exact h y hy
 ·rw [oZ] at hy;subst hy;exact I
theorem zL0 (e:Tm) (g:List Tg) (n:Int):((e.type g n).getD tZero).cnt<=30:=by
 cases h:e.type g n with
 | none=>simp [tZero,Ty.cnt,zM]
 | some t=>simpa using Ty.valid_cnt (Tm.type_valid h)
/-- returns this type and true, or the zero type and false -/
def zTR (f:FuncId) (args:List PV) (o:Option Ty):Prop:=∀ (N:Nat) (Q:QT [.ag 2,.bool]),(∀ d N',N<=N'->(o.getD tZero).Is d->Q d o.isSome N')->ACalls prog f [.ag 2,.bool] args N Q
/-- returns this type and true, or false -/
def zTZ (f:FuncId) (args:List PV) (o:Option Ty):Prop:=∀ (N:Nat) (Q:QT [.ag 2,.bool]),(∀ d N',N<=N'->(∀ t,o=some t->t.Is d)->Q d o.isSome N')->ACalls prog f [.ag 2,.bool] args N Q
def IH (l:List Tm):Prop:=∀ x∈l,∀ d,x.Is d->∀ g es a c n,Pre g x n->Ctx g es->zTR 37 [.sv a 4 es c,.dg 9 d,.j n] (x.type g n)
theorem zRL {nm ot:ByteArray} {m n:Int} {ty re:Ty} {e0:Tm} {t0 t1 r0 r1 d0:D} {a1 a:Option Addr} {c1 c:Nat} {g:List Tg} {es:List D} (ih:IH [e0]) (O:Tm.Hd nm ot ty re t0 t1 r0 r1) (h0:e0.Is d0)
  (pre:Pre g (.mk 6 nm ot m ty re [e0]) n) (U:Ctx g es) :
  zTZ 112 [.sv a 4 es c,.dg 9 (.ag [.j 6,.t nm,.t ot,.j m,t0,t1,r0,r1,.sl a1 9 [d0] c1]),.j n] (match e0.type (g++[⟨nm,ty,n⟩]) n with | some b=>some (wR ty b) | none=>none):=λN Q J=>by
 have Y:=pre.len1
 have hv:=Ty.valid_cnt ((xJ pre.ok).vt (.inl rfl))
 have hp:Pre (g++[⟨nm,ty,n⟩]) e0 n:=by simpa [zW] using pre.sub (x:=e0) (by simp) (g':=g++[⟨nm,ty,n⟩]) (by simp) (zGj pre.ty (show ty.cnt<=64 by omega))
 have hc:=zL0 e0 (g++[⟨nm,ty,n⟩]) n
 refine sK N a es c _ n Q λ_ _=>?_
 repeat' first|with_reducible intro _|simp only[oM,oS,Y1,Y2,Y3,Y4]|with_reducible refine X ?_ ?_|refine⟨_,_,_,rfl,?_⟩|refine⟨_,rfl,?_⟩|refine And.intro (by first|omega|trivial|(show _=_;rfl)|(with_reducible constructor)<;>first|omega|trivial|rfl) ?_|refine (yJ U (by omega) a c O.nm O.ty n) _ _ ?_|refine (ih e0 nh d0 h0 (g++[⟨nm,ty,n⟩]) _ _ _ n hp (by assumption)) _ _ ?_|refine (xT ty ((e0.type (g++[⟨nm,ty,n⟩]) n).getD tZero) _ _ O.ty (by assumption) (by omega) (by omega)) _ _ ?_|fail
 all_goals first | (exfalso;omega) | skip
 rename_i x1 N6 aa I ho _ _ N7 ab
 cases h:e0.type (g++[⟨nm,ty,n⟩]) n with
 | none=>rw [h] at J;exact J _ _ (by omega) (by simp)
 | some b=>rw [h] at J I;exact J _ _ (by omega) (by simpa using I)
theorem zRG {nm ot:ByteArray} {m n:Int} {ty re:Ty} {e0 e1:Tm} {t0 t1 r0 r1 d0 d1:D} {a1 a:Option Addr} {c1 c:Nat} {g:List Tg} {es:List D} (Y:IH [e0,e1]) (hh:Tm.Hd nm ot ty re t0 t1 r0 r1) (h0:e0.Is d0) (h1:e1.Is d1)
  (pre:Pre g (.mk 8 nm ot m ty re [e0,e1]) n) (J:Ctx g es) :
  zTZ 112 [.sv a 4 es c,.dg 9 (.ag [.j 8,.t nm,.t ot,.j m,t0,t1,r0,r1,.sl a1 9 [d0,d1] c1]),.j n] (match e0.type g n with | some b=>e1.type (g++[⟨nm,b,n⟩]) n | none=>none):=λN Q O=>by
 have aa:=pre.len1
 have hp:Pre g e0 n:=by simpa [zW] using pre.sub (x:=e0) (by simp) (g':=g) (by simp) pre.ty
 have hc:=zL0 e0 g n
 have I:=Y e0 nh d0 h0 g es a c n hp J
 refine sK N a es c _ n Q λ_ _=>?_
 cases h:e0.type g n with
 | none=>
   rw [h] at O I
   repeat' first|with_reducible intro _|simp only[oM,oS,mU,Y1,Y2,Y3,Y4]|with_reducible refine X ?_ ?_|refine⟨_,_,_,rfl,?_⟩|refine⟨_,rfl,?_⟩|refine And.intro (by first|omega|trivial|(show _=_;rfl)|(with_reducible constructor)<;>first|omega|trivial|rfl) ?_|refine I _ _ ?_|fail
   all_goals first | (exfalso;omega) | skip
   exact O _ _ (by omega) (by simp)
 | some b=>
   rw [h] at O hc I
   dsimp only at O
   have U:Pre (g++[⟨nm,b,n⟩]) e1 n:=by simpa [zW] using pre.sub (x:=e1) (by simp) (g':=g++[⟨nm,b,n⟩]) (by simp) (zGj pre.ty (by simpa using oO hc (by omega)))
   repeat' first|with_reducible intro _|simp only[oM,oS,mW,Y1,Y2,Y3,Y4]|with_reducible refine X ?_ ?_|refine⟨_,_,_,rfl,?_⟩|refine⟨_,rfl,?_⟩|refine And.intro (by first|omega|trivial|(show _=_;rfl)|(with_reducible constructor)<;>first|omega|trivial|rfl) ?_|refine I _ _ ?_|refine (yJ J (by omega) a c hh.nm (t:=b) (by assumption) n) _ _ ?_|refine (Y e1 (by simp) d1 h1 (g++[⟨nm,b,n⟩]) _ _ _ n U (by assumption)) _ _ ?_|fail
   all_goals first | (exfalso;omega) | skip
   rename_i hx _ _ _ _
   refine O _ _ (by omega) λt ht=>?_
   rw [ht] at hx
   exact hx
theorem zRv {nm ot:ByteArray} {m n:Int} {ty re:Ty} {e0:Tm} {t0 t1 r0 r1 d0:D} {a1 a:Option Addr} {c1 c:Nat} {g:List Tg} {es:List D} (ih:IH [e0]) (I:Tm.Hd nm ot ty re t0 t1 r0 r1) (h0:e0.Is d0)
  (pre:Pre g (.mk 9 nm ot m ty re [e0]) n) (U:Ctx g es) :
  zTZ 112 [.sv a 4 es c,.dg 9 (.ag [.j 9,.t nm,.t ot,.j m,t0,t1,r0,r1,.sl a1 9 [d0] c1]),.j n]
   (match e0.type ((g++[⟨nm,wR ty re,n⟩])++[⟨ot,ty,n⟩]) n with | some b=>if zBm b re then some (wR ty re) else none | none=>none):=λN Q J=>by
 have ab:=pre.len1
 have hv:=Ty.valid_cnt ((xJ pre.ok).vt (.inr rfl))
 have hr:=Ty.valid_cnt ((xJ pre.ok).vr rfl)
 have aa:=zGj (x:=⟨nm,wR ty re,n⟩) pre.ty (show (wR ty re).cnt<=64 by simp only [wR,Ty.cnt,zM];omega)
 have hp:=pre.sub (x:=e0) (by simp) (g':=(g++[⟨nm,wR ty re,n⟩])++[⟨ot,ty,n⟩]) (by simp) (zGj aa (show ty.cnt<=64 by omega))
 rw [show zW 9 n=n by simp [zW]] at hp
 have ac:1<=(Tm.mk 9 nm ot m ty re [e0]).cnt:=by simp only [Tm.cnt];omega
 have Y:(g++[⟨nm,wR ty re,n⟩]:List Tg).length<=1073741824:=by rw [oH,nX];omega
 have O:∀ es a c,Ctx ((g++[⟨nm,wR ty re,n⟩])++[⟨ot,ty,n⟩]) es->zTR 37 [.sv a 4 es c,.dg 9 d0,.j n] (e0.type ((g++[⟨nm,wR ty re,n⟩])++[⟨ot,ty,n⟩]) n):=λes a c hc=>ih e0 nh d0 h0 _ es a c n hp hc
 refine sK N a es c _ n Q λ_ _=>?_
 cases h:e0.type ((g++[⟨nm,wR ty re,n⟩])++[⟨ot,ty,n⟩]) n with
 | none=>
   rw [h] at J O
   dsimp only at J
   repeat' first|with_reducible intro _|simp only[oM,oS,mU,Y1,Y2,Y3,Y4]|with_reducible refine X ?_ ?_|refine⟨_,_,_,rfl,?_⟩|refine⟨_,rfl,?_⟩|refine And.intro (by first|omega|trivial|(show _=_;rfl)|(with_reducible constructor)<;>first|omega|trivial|rfl) ?_|refine (xT ty re _ _ I.ty I.re (by omega) (by omega)) _ _ ?_|refine (yJ U (by omega) a c I.nm (t:=wR ty re) (by assumption) n) _ _ ?_|refine (yJ (g:=g++[⟨nm,wR ty re,n⟩]) (by assumption) Y _ _ I.ot I.ty n) _ _ ?_|refine (O _ _ _ (by assumption)) _ _ ?_|fail
   all_goals first | (exfalso;omega) | skip
   exact J _ _ (by omega) (by simp)
 | some b=>
   rw [h] at J O
   dsimp only at J
   repeat' first|with_reducible intro _|simp only[oM,oS,mW,Y1,Y2,Y3,Y4]|with_reducible refine X ?_ ?_|refine⟨_,_,_,rfl,?_⟩|refine⟨_,rfl,?_⟩|refine And.intro (by first|omega|trivial|(show _=_;rfl)|(with_reducible constructor)<;>first|omega|trivial|rfl) ?_|refine (xT ty re _ _ I.ty I.re (by omega) (by omega)) _ _ ?_|refine (yJ U (by omega) a c I.nm (t:=wR ty re) (by assumption) n) _ _ ?_|refine (yJ (g:=g++[⟨nm,wR ty re,n⟩]) (by assumption) Y _ _ I.ot I.ty n) _ _ ?_|refine (O _ _ _ (by assumption)) _ _ ?_|refine (zj b re _ _ (by assumption) I.re) _ _ ?_|fail
   all_goals first | (exfalso;omega) | skip
   cases he:zBm b re with
   | false=>rw [he] at J;exact J _ _ (by omega) (by simp)
   | true=>rw [he] at J;exact J _ _ (by omega) λt ht=>by cases ht;assumption
/-- code, splices, runs and lifts -/
theorem zRQ {k:Int} {nm ot:ByteArray} {m n:Int} {ty re:Ty} {e0:Tm} {t0 t1 r0 r1 d0:D} {a1 a:Option Addr} {c1 c:Nat} {g:List Tg} {es:List D} (hk:k=10\/k=11\/k=12\/k=13) (ih:IH [e0]) (h0:e0.Is d0)
  (pre:Pre g (.mk k nm ot m ty re [e0]) n) (ae:Ctx g es) :
  zTZ 113 [.sv a 4 es c,.dg 9 (.ag [.j k,.t nm,.t ot,.j m,t0,t1,r0,r1,.sl a1 9 [d0] c1]),.j n]
   (match e0.type (if k=12 then te g n else g) (zW k n) with | some t=>yC k t | none=>none):=λN Q I=>by
 have am:=pre.len1
 have ah:=zBe g n g 0
 have hp:=pre.sub (x:=e0) (by simp) (g':=if k=12 then te g n else g) (by split<;>simp [te];omega) (by split;exact λy hy=>pre.ty y (ah.1 y hy);exact pre.ty)
 have Y:∀ es a c,Ctx (if k=12 then te g n else g) es->zTR 37 [.sv a 4 es c,.dg 9 d0,.j (zW k n)] (e0.type (if k=12 then te g n else g) (zW k n)):=λes a c hc=>ih e0 nh d0 h0 _ es a c _ hp hc
 have ai:∀ x∈g,x.ty.cnt<=1073741824:=λx hx=>oO (pre.ty x hx) (by omega)
 refine zFk N a es c _ n Q λ_ _=>?_
 cases h:e0.type (if k=12 then te g n else g) (zW k n) with
 | none=>
   rw [h] at I Y
   dsimp only at I
   repeat' first|with_reducible intro _|simp only[oM,oS,mU,Y1,Y2,Y3,Y4]|with_reducible refine X ?_ ?_|refine⟨_,_,_,rfl,?_⟩|refine⟨_,rfl,?_⟩|refine And.intro (by first|omega|trivial|(show _=_;rfl)|(with_reducible constructor)<;>first|omega|trivial|rfl) ?_|refine (tP ae (by omega) ai a c n) _ _ ?_|refine (sR pre.lv) _ _ ?_|refine (Y _ _ _ (by first | (rw [if_pos (by assumption)];assumption) | (rw [if_neg (by assumption)];assumption))) _ _ ?_|fail
   all_goals first | (exfalso;omega) | skip
   all_goals exact I _ _ (by omega) (by simp)
 | some t=>
   have hv:=Tm.type_valid h
   rw [h] at I Y
   dsimp only at I
   cases t with
   | mk J l0=>
   have hf:=Ty.form_len hv
   have aj:=Ty.valid_cnt hv
   repeat' first|with_reducible intro _|simp only[oM,oS,mW,Y1,Y2,Y3,Y4]|with_reducible refine X ?_ ?_|refine⟨_,_,_,rfl,?_⟩|refine⟨_,rfl,?_⟩|refine And.intro (by first|omega|trivial|(show _=_;rfl)|(with_reducible constructor)<;>first|omega|trivial|rfl) ?_|refine (tP ae (by omega) ai a c n) _ _ ?_|refine (sR pre.lv) _ _ ?_|refine (Y _ _ _ (by first | (rw [if_pos (by assumption)];assumption) | (rw [if_neg (by assumption)];assumption))) _ _ ?_|refine (xe (.mk J l0) _ (by assumption) (by omega)) _ _ ?_|refine (sa (.mk J l0) _ (by assumption)) _ _ ?_|fail
   all_goals first | (exfalso;omega) | skip
   ·rename_i hd _ _ O U
    obtain ⟨a2,ak,c2,rfl,al,aa⟩:=Ty.is_mk.1 hd
    by_cases h4:J=4
    ·subst h4
     have ab:(l0.length:Int)=1:=by simpa [sY] using hf
     obtain ⟨u,rfl⟩:∃ u,l0=[u]:=by
      match l0,ab with
      | [u],_=>exact ⟨u,rfl⟩
      | [],h=>simp at h
      | _::_::_,h=>simp at h;omega
     obtain ⟨x0,_,rfl,ac,rfl⟩:=aa
     simp only [Ty.cnt,zM] at aj
     have hs:yC k (.mk 4 [u])=some u:=by simp [yC,O,U,Ty.k,Ty.as]
     rw [hs] at I
     repeat' first|with_reducible intro _|simp only[oM,oS,Y1,Y2,Y3,Y4]|with_reducible refine X ?_ ?_|refine⟨_,_,_,rfl,?_⟩|refine⟨_,rfl,?_⟩|refine And.intro (by first|omega|trivial|(show _=_;rfl)|(with_reducible constructor)<;>first|omega|trivial|rfl) ?_|refine (zK u _ ac (by omega)) _ _ ?_|fail
     all_goals first | (exfalso;omega) | skip
     exact I _ _ (by omega) λt ht=>by cases ht;assumption
    ·have hs:yC k (.mk J l0)=none:=by simp [yC,O,U,Ty.k,h4]
     rw [hs] at I
     repeat' first|with_reducible intro _|simp only[oM,oS,Y1,Y2,Y3,Y4]|with_reducible refine X ?_ ?_|refine⟨_,_,_,rfl,?_⟩|refine⟨_,rfl,?_⟩|refine And.intro (by first|omega|trivial|(show _=_;rfl)|(with_reducible constructor)<;>first|omega|trivial|rfl) ?_|fail
     all_goals first | (exfalso;omega) | skip
     exact I _ _ (by omega) (by simp)
   ·have hs:yC k (.mk J l0)=some (xA (.mk J l0)):=by rw [yC,if_pos (by assumption)]
    rw [hs] at I
    exact I _ _ (by omega) λt ht=>by cases ht;assumption
   ·have hs:yC k (.mk J l0)=if (Ty.mk J l0).base then some (xA (.mk J l0)) else none:=by rw [yC,if_neg (by assumption),if_pos (by assumption)]
    rw [hs] at I
    cases hb:(Ty.mk J l0).base with
    | false=>rw [hb] at I;exact I _ _ (by omega) (by simp)
    | true=>rw [hb] at I;exact I _ _ (by omega) λt ht=>by cases ht;assumption
   ·rename_i hd _ _ O U
    obtain ⟨a2,ak,c2,rfl,al,aa⟩:=Ty.is_mk.1 hd
    by_cases h4:J=4
    ·subst h4
     have ab:(l0.length:Int)=1:=by simpa [sY] using hf
     obtain ⟨u,rfl⟩:∃ u,l0=[u]:=by
      match l0,ab with
      | [u],_=>exact ⟨u,rfl⟩
      | [],h=>simp at h
      | _::_::_,h=>simp at h;omega
     obtain ⟨x0,_,rfl,ac,rfl⟩:=aa
     simp only [Ty.cnt,zM] at aj
     have hs:yC k (.mk 4 [u])=some u:=by simp [yC,O,U,Ty.k,Ty.as]
     rw [hs] at I
     repeat' first|with_reducible intro _|simp only[oM,oS,Y1,Y2,Y3,Y4]|with_reducible refine X ?_ ?_|refine⟨_,_,_,rfl,?_⟩|refine⟨_,rfl,?_⟩|refine And.intro (by first|omega|trivial|(show _=_;rfl)|(with_reducible constructor)<;>first|omega|trivial|rfl) ?_|refine (zK u _ ac (by omega)) _ _ ?_|fail
     all_goals first | (exfalso;omega) | skip
     exact I _ _ (by omega) λt ht=>by cases ht;assumption
    ·have hs:yC k (.mk J l0)=none:=by simp [yC,O,U,Ty.k,h4]
     rw [hs] at I
     repeat' first|with_reducible intro _|simp only[oM,oS,Y1,Y2,Y3,Y4]|with_reducible refine X ?_ ?_|refine⟨_,_,_,rfl,?_⟩|refine⟨_,rfl,?_⟩|refine And.intro (by first|omega|trivial|(show _=_;rfl)|(with_reducible constructor)<;>first|omega|trivial|rfl) ?_|fail
     all_goals first | (exfalso;omega) | skip
     exact I _ _ (by omega) (by simp)
/-- the type of a term ahead of the test that it is valid -/
def Tm.raw:Tm->List Tg->Int->Option Ty
 | .mk k nm ot _ ty re l,g,n=>
   if k=1 then xi g nm n
   else if k=2 then some tInt
   else if k=3 then some tBool
   else if k=6 then (match tN l 0 (g++[⟨nm,ty,n⟩]) n with | some b=>some (wR ty b) | none=>none)
   else if k=8 then (match tN l 0 g n with | some a=>tN l 1 (g++[⟨nm,a,n⟩]) n | none=>none)
   else if k=9 then (match tN l 0 ((g++[⟨nm,wR ty re,n⟩])++[⟨ot,ty,n⟩]) n with | some b=>if zBm b re then some (wR ty re) else none | none=>none)
   else if k=10\/k=11\/k=12\/k=13 then (match tN l 0 (if k=12 then te g n else g) (zW k n) with | some t=>yC k t | none=>none)
   else (match ya l g n with | some I=>xG k nm I | none=>none)
theorem Tm.type_eq (e:Tm) (g:List Tg) (n:Int):e.type g n=vld (e.raw g n):=by
 cases e;simp only [Tm.type,Tm.raw]<;>rfl
theorem zSi {a:Option Addr} {r:List D} {d:D} {N:Nat} (ha:ApA a r) (hb:wU N [a]) (h:∀ x∈d.foot,x∈zG r\/N<=x):Off [a] d:=by
 intro a' I ad J O
 rw [oZ] at I
 subst I
 rcases h _ O with h | h
 ·have:∀ r:List D,ad.block∈zG r->∃ d∈r,ad.block∈d.foot:=by
   intro r
   induction r with
   | nil=>intro h;simp [zG] at h
   | cons x r ih=>
     intro h
     simp only [zG,oK] at h
     rcases h with h | h
     ·exact ⟨x,by simp,h⟩
     ·obtain ⟨d,hd,O⟩:=ih h
      exact ⟨d,by simp [hd],O⟩
  obtain ⟨d',U,Y⟩:=this r h
  exact ha ad J d' U Y
 ·have:=hb a' (by simp) ad J
  omega
theorem zO0 {k:Int} {nm ot:ByteArray} {m n:Int} {ty re:Ty} {l:List Tm} {t0 t1 r0 r1:D} {es1:List D} {a1 a:Option Addr} {c1 c:Nat} {g:List Tg} {es:List D} (hk:k=4\/k=5\/k=7) (ih:IH l) (h0:All2 Tm.Is l es1) (hl1:es1.length<=4611686018427387904)
  (pre:Pre g (.mk k nm ot m ty re l) n) (ctx:Ctx g es) (N:Nat) (Q:QT [.ag 2,.bool]) (hQ:∀ d N',N<=N'->(∀ t,Tm.raw (.mk k nm ot m ty re l) g n=some t->t.Is d)->Q d (Tm.raw (.mk k nm ot m ty re l) g n).isSome N') :
  xF Q N a es c n 0 0 (0:Nat) (.ag [.j k,.t nm,.t ot,.j m,t0,t1,r0,r1,.sl a1 9 es1 c1]) 0 none [] 0 [] 0 N:=by
 have hlen:=pre.len1
 have hln:=h0.len
 have nd:=xJ pre.ok
 have har:=nd.ar
 have har2:=tU k nm
 have hraw:Tm.raw (.mk k nm ot m ty re l) g n=(match ya l g n with | some ts=>xG k nm ts | none=>none):=by
  simp only [Tm.raw]
  rw [if_neg (by omega),if_neg (by omega),if_neg (by omega),if_neg (by omega),if_neg (by omega),if_neg (by omega),if_neg (by omega)]
 rw [hraw] at hQ
 refine up h0 hl1 (fun i xs=>∀ (r:List D) (q p:Nat) (N':Nat) (ts:List Ty),N<=N'->p=r.length->All2 Ty.Is ts r->ts.length=i->(∀ t∈ts,t.valid=true) ->
  ya l g n=(match ya xs g n with | some us=>some (ts++us) | none=>none) ->
  xF Q N a es c n p q i (.ag [.j k,.t nm,.t ot,.j m,t0,t1,r0,r1,.sl a1 9 es1 c1]) 0 none [] 0 r q N') ?_ ?_ [] 0 0 N [] (oD _) rfl rfl rfl (by simp) ?_
 ·intro i hlt hi r q p N' ts hN' hp hr hti hv hargs
  have hrl:=hr.len
  simp only [ya,nH] at hargs
  rw [hargs] at hQ
  dsimp only at hQ
  have hk2:k=4\/k=5/\ts.length=3\/k=7/\ts.length=2:=by
   have:=nd.ar
   rcases hk with rfl | rfl | rfl
   ·exact .inl rfl
   ·exact .inr (.inl ⟨rfl, by have:(l.length:Int)=3:=this
                              omega⟩)
   ·exact .inr (.inr ⟨rfl, by have:(l.length:Int)=2:=this
                              omega⟩)
  refine sk _ _ _ _ _ _ _ _ _ _ _ _ _ _ _ _ _ ?_
  repeat' first|with_reducible intro _|simp only[hlt,Y1,Y2,Y3,Y4]|with_reducible refine X ?_ ?_|refine⟨_,_,_,rfl,?_⟩|refine⟨_,rfl,?_⟩|refine And.intro (by first|omega|trivial|(show _=_;rfl)|(with_reducible constructor)<;>first|omega|trivial|rfl) ?_|refine (zGy hr (by omega) _ _ hv hk2) _ _ ?_|fail
  rename_i a2 hap hoff N4 hN4 hba d b N5 hN5 ho hfo _
  refine ⟨zSi hap hba hfo,fun _ N6 hN6=>?_⟩
  cases h:xG k nm ts with
  | none=>rw [h] at ho hQ;simp only [zMB] at ho;subst ho;exact hQ _ _ (by omega) (by simp)
  | some t=>rw [h] at ho hQ;obtain ⟨rfl,ho⟩:=ho;exact hQ _ _ (by omega) fun t ht=>by cases ht;exact ho
 ·intro i x xs hat _ ih2 r q p N' ts hN' hp hr hti hv hargs
  have hb:=hat.b
  have hrl:=hr.len
  have hpx:=pre.sub hat.m (g':=g) (by omega) pre.ty
  rw [show zW k n=n by simp only [zW];rw [if_neg (by omega),if_neg (by omega)]] at hpx
  have ih0:=ih x hat.m _ hat.r g es a c n hpx ctx
  simp only [ya] at hargs
  refine sk _ _ _ _ _ _ _ _ _ _ _ _ _ _ _ _ _ ?_
  cases h:x.type g n with
  | none=>
    rw [h] at ih0 hargs
    dsimp only at hargs
    rw [hargs] at hQ
    repeat' first|with_reducible intro _|simp only[hat.lt,hat.w,oJ,mU,Y1,Y2,Y3,Y4]|with_reducible refine X ?_ ?_|refine⟨_,_,_,rfl,?_⟩|refine⟨_,rfl,?_⟩|refine And.intro (by first|omega|trivial|(show _=_;rfl)|(with_reducible constructor)<;>first|omega|trivial|rfl) ?_|refine ih0 _ _ ?_|fail
    all_goals first | (exfalso;omega) | skip
    exact hQ _ _ (by omega) (by simp)
  | some t=>
    have hvt:=Tm.type_valid h
    rw [h] at ih0 hargs
    dsimp only at hargs
    repeat' first|with_reducible intro _|simp only[hat.lt,hat.w,oJ,mW,Y1,Y2,Y3,Y4]|with_reducible refine X ?_ ?_|refine⟨_,_,_,rfl,?_⟩|refine⟨_,rfl,?_⟩|refine And.intro (by first|omega|trivial|(show _=_;rfl)|(with_reducible constructor)<;>first|omega|trivial|rfl) ?_|refine ih0 _ _ ?_|fail
    all_goals first | (exfalso;omega) | skip
    rename_i N2 hN2 d N3 hN3 hd _ _
    refine ⟨by unfold zB;simp only [oH,nX];omega,fun c2=>ih2 _ _ _ _ (ts++[t]) (by omega) rfl (hr.snoc hd) (by simp [hti]) (fun u hu=>?_) ?_⟩
    ·rcases oK.1 hu with hu | hu
     ·exact hv u hu
     ·rw [oZ] at hu;subst hu;exact hvt
    ·rw [hargs];cases ya xs g n<;>simp
 ·cases ya l g n<;>simp
theorem zOc {α:Type} {l:List α} (h:l.length=1):∃ a,l=[a]:=by
 match l,h with
 | [a],_=>exact ⟨a,rfl⟩
theorem zTO {α:Type} {l:List α} (h:l.length=2):∃ a b,l=[a,b]:=by
 match l,h with
 | [a,b],_=>exact ⟨a,b,rfl⟩
theorem zG2 {e:Tm} {d:D} (he:e.Is d) (ih:match e with | .mk _ _ _ _ _ _ l=>IH l) {g:List Tg} {es:List D} {a:Option Addr} {c:Nat} {n:Int} (pre:Pre g e n) (ctx:Ctx g es) :
  zTZ 70 [.sv a 4 es c,.dg 9 d,.j n] (e.raw g n):=fun N Q hQ=>by
 cases e with
 | mk k nm ot m ty re l=>
 dsimp only at ih
 obtain ⟨t0,t1,r0,r1,a1,es1,c1,rfl,hh,hlen1,hes1⟩:=Tm.is_mk.1 he
 have hl:=hes1.len
 have hl2:=ctx.all.len
 have nd:=xJ pre.ok
 have har:=nd.ar
 have hkk:=zDR (k:=k) (nm:=nm) (by omega)
 refine zHW N a es c _ n Q fun _ _=>?_
 rcases hkk with rfl | rfl | rfl | h | h | rfl | h | rfl | rfl | h | h | h | h
 ·-- a variable
  have hraw:Tm.raw (.mk 1 nm ot m ty re l) g n=xi g nm n:=by simp [Tm.raw]
  rw [hraw] at hQ
  rcases zBD g nm g.length with hlx | hlx
  ·have hlx:zN g nm = -1:=hlx
   have:xi g nm n=none:=by simp [xi,hlx]
   rw [this] at hQ
   repeat' first|with_reducible intro _|simp only[hlx,Y1,Y2,Y3,Y4]|with_reducible refine X ?_ ?_|refine⟨_,_,_,rfl,?_⟩|refine⟨_,rfl,?_⟩|refine And.intro (by first|omega|trivial|(show _=_;rfl)|(with_reducible constructor)<;>first|omega|trivial|rfl) ?_|refine (uC ctx a c nm) _ _ ?_|fail
   all_goals first | (exfalso;omega) | skip
   exact hQ _ _ (by omega) (by simp)
  ·have hlx:0<=zN g nm/\zN g nm<g.length:=hlx
   have hg:g[(zN g nm).toNat]?=some g[(zN g nm).toNat]:=oG (by omega)
   have hx:=ctx.all.get hg
   have hgd:g.getD (zN g nm).toNat tg0=g[(zN g nm).toNat]:=zOb hg
   obtain ⟨u0,u1,hd,hs,ht⟩:=hx
   have hm:g[(zN g nm).toNat]∈g:=mI _
   have hcn:=pre.ty _ hm
   have:xi g nm n=if g[(zN g nm).toNat].lv=n then some g[(zN g nm).toNat].ty else none:=by
    rw [xi,if_neg (by omega),hgd]
   rw [this] at hQ
   generalize g[(zN g nm).toNat]=x at *
   repeat' first|with_reducible intro _|simp only[hd,Y1,Y2,Y3,Y4]|with_reducible refine X ?_ ?_|refine⟨_,_,_,rfl,?_⟩|refine⟨_,rfl,?_⟩|refine And.intro (by first|omega|trivial|(show _=_;rfl)|(with_reducible constructor)<;>first|omega|trivial|rfl) ?_|refine (uC ctx a c nm) _ _ ?_|refine (zK _ _ ht (by omega)) _ _ ?_|fail
   all_goals first | (exfalso;omega) | skip
   ·rw [if_neg (by assumption)] at hQ;exact hQ _ _ (by omega) (by simp)
   ·rw [if_pos (by assumption)] at hQ;exact hQ _ _ (by omega) fun t ht=>by cases ht;assumption
 ·have hraw:Tm.raw (.mk 2 nm ot m ty re l) g n=some tInt:=by simp [Tm.raw]
  rw [hraw] at hQ
  repeat' first|with_reducible intro _|simp only[Y1,Y2,Y3,Y4]|with_reducible refine X ?_ ?_|refine⟨_,_,_,rfl,?_⟩|refine⟨_,rfl,?_⟩|refine And.intro (by first|omega|trivial|(show _=_;rfl)|(with_reducible constructor)<;>first|omega|trivial|rfl) ?_|refine xU _ _ ?_|fail
  all_goals first | (exfalso;omega) | skip
  exact hQ _ _ (by omega) fun t ht=>by cases ht;assumption
 ·have hraw:Tm.raw (.mk 3 nm ot m ty re l) g n=some tBool:=by simp [Tm.raw]
  rw [hraw] at hQ
  repeat' first|with_reducible intro _|simp only[Y1,Y2,Y3,Y4]|with_reducible refine X ?_ ?_|refine⟨_,_,_,rfl,?_⟩|refine⟨_,rfl,?_⟩|refine And.intro (by first|omega|trivial|(show _=_;rfl)|(with_reducible constructor)<;>first|omega|trivial|rfl) ?_|refine xb _ _ ?_|fail
  all_goals first | (exfalso;omega) | skip
  exact hQ _ _ (by omega) fun t ht=>by cases ht;assumption
 ·have hk:k=4\/k=5\/k=7:=by omega
  have:=zO0 hk ih hes1 hlen1 pre ctx (a:=a) (c:=c) (t0:=t0) (t1:=t1) (r0:=r0) (r1:=r1) (a1:=a1) (c1:=c1) N Q hQ
  repeat' first|with_reducible intro _|simp only[Y1,Y2,Y3,Y4]|with_reducible refine X ?_ ?_|refine⟨_,_,_,rfl,?_⟩|refine⟨_,rfl,?_⟩|refine And.intro (by first|omega|trivial|(show _=_;rfl)|(with_reducible constructor)<;>first|omega|trivial|rfl) ?_|fail
  all_goals first | (exfalso;omega) | exact this
 ·have hk:k=4\/k=5\/k=7:=by omega
  have:=zO0 hk ih hes1 hlen1 pre ctx (a:=a) (c:=c) (t0:=t0) (t1:=t1) (r0:=r0) (r1:=r1) (a1:=a1) (c1:=c1) N Q hQ
  repeat' first|with_reducible intro _|simp only[Y1,Y2,Y3,Y4]|with_reducible refine X ?_ ?_|refine⟨_,_,_,rfl,?_⟩|refine⟨_,rfl,?_⟩|refine And.intro (by first|omega|trivial|(show _=_;rfl)|(with_reducible constructor)<;>first|omega|trivial|rfl) ?_|fail
  all_goals first | (exfalso;omega) | exact this
 ·have h1 : l.length = 1 := by have:(l.length:Int)=1:=har
                               omega
  obtain ⟨e0,rfl⟩:=zOc h1
  obtain ⟨d0,_,rfl,h0,rfl⟩:=hes1
  have hraw:Tm.raw (.mk 6 nm ot m ty re [e0]) g n=(match e0.type (g++[⟨nm,ty,n⟩]) n with | some b=>some (wR ty b) | none=>none):=by simp [Tm.raw,tN]
  rw [hraw] at hQ
  repeat' first|with_reducible intro _|simp only[Y1,Y2,Y3,Y4]|with_reducible refine X ?_ ?_|refine⟨_,_,_,rfl,?_⟩|refine⟨_,rfl,?_⟩|refine And.intro (by first|omega|trivial|(show _=_;rfl)|(with_reducible constructor)<;>first|omega|trivial|rfl) ?_|refine (zRL ih hh h0 pre ctx) _ _ ?_|fail
  all_goals first | (exfalso;omega) | skip
  exact hQ _ _ (by omega) (by assumption)
 ·have hk:k=4\/k=5\/k=7:=by omega
  have:=zO0 hk ih hes1 hlen1 pre ctx (a:=a) (c:=c) (t0:=t0) (t1:=t1) (r0:=r0) (r1:=r1) (a1:=a1) (c1:=c1) N Q hQ
  repeat' first|with_reducible intro _|simp only[Y1,Y2,Y3,Y4]|with_reducible refine X ?_ ?_|refine⟨_,_,_,rfl,?_⟩|refine⟨_,rfl,?_⟩|refine And.intro (by first|omega|trivial|(show _=_;rfl)|(with_reducible constructor)<;>first|omega|trivial|rfl) ?_|fail
  all_goals first | (exfalso;omega) | exact this
 ·have h1 : l.length = 2 := by have:(l.length:Int)=2:=har
                               omega
  obtain ⟨e0,e1,rfl⟩:=zTO h1
  obtain ⟨d0,_,rfl,h0,d1,_,rfl,h1,rfl⟩:=hes1
  have hraw:Tm.raw (.mk 8 nm ot m ty re [e0,e1]) g n=(match e0.type g n with | some b=>e1.type (g++[⟨nm,b,n⟩]) n | none=>none):=by simp [Tm.raw,tN]
  rw [hraw] at hQ
  repeat' first|with_reducible intro _|simp only[Y1,Y2,Y3,Y4]|with_reducible refine X ?_ ?_|refine⟨_,_,_,rfl,?_⟩|refine⟨_,rfl,?_⟩|refine And.intro (by first|omega|trivial|(show _=_;rfl)|(with_reducible constructor)<;>first|omega|trivial|rfl) ?_|refine (zRG ih hh h0 h1 pre ctx) _ _ ?_|fail
  all_goals first | (exfalso;omega) | skip
  exact hQ _ _ (by omega) (by assumption)
 ·have h1 : l.length = 1 := by have:(l.length:Int)=1:=har
                               omega
  obtain ⟨e0,rfl⟩:=zOc h1
  obtain ⟨d0,_,rfl,h0,rfl⟩:=hes1
  have hraw:Tm.raw (.mk 9 nm ot m ty re [e0]) g n=(match e0.type ((g++[⟨nm,wR ty re,n⟩])++[⟨ot,ty,n⟩]) n with | some b=>if zBm b re then some (wR ty re) else none | none=>none):=by simp only [Tm.raw,tN];rfl
  rw [hraw] at hQ
  repeat' first|with_reducible intro _|simp only[Y1,Y2,Y3,Y4]|with_reducible refine X ?_ ?_|refine⟨_,_,_,rfl,?_⟩|refine⟨_,rfl,?_⟩|refine And.intro (by first|omega|trivial|(show _=_;rfl)|(with_reducible constructor)<;>first|omega|trivial|rfl) ?_|refine (zRv ih hh h0 pre ctx) _ _ ?_|fail
  all_goals first | (exfalso;omega) | skip
  exact hQ _ _ (by omega) (by assumption)
 all_goals
  have h1:l.length=1:=by
   have hk:k=10\/k=11\/k=12\/k=13:=by omega
   have:(l.length:Int)=1:=by rw [har];rcases hk with rfl | rfl | rfl | rfl<;>rfl
   omega
  obtain ⟨e0,rfl⟩:=zOc h1
  obtain ⟨d0,_,rfl,h0,rfl⟩:=hes1
  have hk:k=10\/k=11\/k=12\/k=13:=by omega
  have hraw:Tm.raw (.mk k nm ot m ty re [e0]) g n=(match e0.type (if k=12 then te g n else g) (zW k n) with | some t=>yC k t | none=>none):=by
   simp only [Tm.raw,tN]
   rw [if_neg (by omega),if_neg (by omega),if_neg (by omega),if_neg (by omega),if_neg (by omega),if_neg (by omega),if_pos hk]
  rw [hraw] at hQ
  repeat' first|with_reducible intro _|simp only[Y1,Y2,Y3,Y4]|with_reducible refine X ?_ ?_|refine⟨_,_,_,rfl,?_⟩|refine⟨_,rfl,?_⟩|refine And.intro (by first|omega|trivial|(show _=_;rfl)|(with_reducible constructor)<;>first|omega|trivial|rfl) ?_|refine (zRQ hk ih h0 pre ctx) _ _ ?_|fail
  all_goals first | (exfalso;omega) | skip
  exact hQ _ _ (by omega) (by assumption)
theorem sJ:∀ {l:List Tm} {i:Nat} {g:List Tg} {n:Int} {t:Ty},tN l i g n=some t->t.valid=true
 | [],i,g,n,t,h=>by simp [tN] at h
 | e::es,0,g,n,t,h=>by simp only [tN] at h;exact Tm.type_valid h
 | e::es,i+1,g,n,t,h=>by simp only [tN] at h;exact sJ h
theorem zIC {l:List Ty} {m:Nat} (h:∀ t∈l,t.cnt<=m) (I:1<=m) (i:Nat):(l.getD i tZero).cnt<=m:=by
 rw [oA]
 cases hi:l[i]? with
 | none=>simpa [tZero,Ty.cnt,zM] using I
 | some t=>exact h t (oB hi)
theorem zQ9 (t:Ty) (i:Nat):(t.as.getD i tZero).cnt<=t.cnt:=by
 cases t with
 | mk k l=>exact zIC (l:=l) (λu I=>by have:=wG (l:=l) I;simp only [Ty.cnt];omega) (by simp only [Ty.cnt];omega) i
theorem zRx {g:List Tg} {m:Nat} (h:∀ x∈g,x.ty.cnt<=m) (I:1<=m) (i:Nat):(g.getD i tg0).ty.cnt<=m:=by
 rw [oA]
 cases hi:g[i]? with
 | none=>simpa [tg0,tZero,Ty.cnt,zM] using I
 | some t=>exact h t (oB hi)
theorem zL7 {k:Int} {s:ByteArray} {I:List Ty} {t:Ty} (J:∀ t∈I,t.cnt<=64) (h:xG k s I=some t):t.cnt<=64:=by
 simp only [xG] at h
 split at h
 ·simp only [zPG] at h
  split at h
  ·cases h;unfold rj;(repeat' split)<;>simp [tInt,tBool,Ty.cnt,zM]
  ·cases h
 ·split at h
  ·split at h
   ·cases h;exact zIC J (by omega) _
   ·cases h
  ·split at h
   ·cases h;exact oO (zQ9 _ _) (zIC J (by omega) _)
   ·cases h
theorem zKN {k:Int} {u t:Ty} (J:u.cnt<=30) (h:yC k u=some t):t.cnt<=64:=by
 have I:(xA u).cnt<=64:=by simp only [xA,Ty.cnt,zM];omega
 have O:=zQ9 u 0
 simp only [yC] at h
 (repeat' split at h)<;>cases h<;>first | exact I | omega
theorem zRo {e:Tm} {g:List Tg} {n:Int} {t:Ty} (pre:Pre g e n) (h:e.raw g n=some t):t.cnt<=64:=by
 cases e with
 | mk k nm ot m ty re l=>
 have nd:=xJ pre.ok
 simp only [Tm.raw] at h
 split at h
 ·simp only [xi] at h
  (repeat' split at h)<;>cases h
  exact zRx pre.ty (by omega) _
 split at h
 ·cases h;simp [tInt,Ty.cnt,zM]
 split at h
 ·cases h;simp [tBool,Ty.cnt,zM]
 split at h
 ·rename_i U
  have Y:=Ty.valid_cnt (nd.vt (.inl U))
  split at h
  ·rename_i b I
   have:=Ty.valid_cnt (sJ I)
   cases h;simp only [wR,Ty.cnt,zM];omega
  ·cases h
 split at h
 ·split at h
  ·have:=Ty.valid_cnt (sJ h);omega
  ·cases h
 split at h
 ·rename_i O
  have Y:=Ty.valid_cnt (nd.vt (.inr O))
  have hr:=Ty.valid_cnt (nd.vr O)
  split at h
  ·split at h
   ·cases h;simp only [wR,Ty.cnt,zM];omega
   ·cases h
  ·cases h
 split at h
 ·split at h
  ·rename_i b I
   exact zKN (Ty.valid_cnt (sJ I)) h
  ·cases h
 ·split at h
  ·rename_i ts J
   exact zL7 (λu hu=>oO (Ty.valid_cnt ((zF2 J).2 u hu)) (by omega)) h
  ·cases h
theorem zBy:tZero.Is (.ag [.j 0,.sl none 2 [] 0]):=xh 0
theorem zGs:∀ (e:Tm),∀ d,e.Is d->∀ g es a c n,Pre g e n->Ctx g es->zTR 37 [.sv a 4 es c,.dg 9 d,.j n] (e.type g n):=by
 refine Tm.ind λk nm ot m ty re l U d hd g es a c n pre O N Q I=>?_
 have hs:=zG2 (a:=a) (c:=c) hd U pre O
 rw [Tm.type_eq] at I
 refine zHx N a es c _ n Q λ_ _=>?_
 cases h:Tm.raw (.mk k nm ot m ty re l) g n with
 | none=>
   rw [h] at hs I
   repeat' first|with_reducible intro _|simp only[mU,Y1,Y2,Y3,Y4]|with_reducible refine X ?_ ?_|refine⟨_,_,_,rfl,?_⟩|refine⟨_,rfl,?_⟩|refine And.intro (by first|omega|trivial|(show _=_;rfl)|(with_reducible constructor)<;>first|omega|trivial|rfl) ?_|refine hs _ _ ?_|fail
   all_goals first | (exfalso;omega) | skip
   exact I _ _ (by omega) zBy
 | some t=>
   have hc:=zRo pre h
   rw [h] at hs I
   simp only [vld] at I
   cases J:t.valid with
   | false=>
     rw [J] at I
     repeat' first|with_reducible intro _|simp only[mW,J,Y1,Y2,Y3,Y4]|with_reducible refine X ?_ ?_|refine⟨_,_,_,rfl,?_⟩|refine⟨_,rfl,?_⟩|refine And.intro (by first|omega|trivial|(show _=_;rfl)|(with_reducible constructor)<;>first|omega|trivial|rfl) ?_|refine hs _ _ ?_|refine (yY t _ (by rename_i h _ _ _ _;exact h t rfl) (by omega)) _ _ ?_|fail
     all_goals first | (exfalso;omega) | skip
     exact I _ _ (by omega) zBy
   | true=>
     rw [J] at I
     repeat' first|with_reducible intro _|simp only[mW,J,Y1,Y2,Y3,Y4]|with_reducible refine X ?_ ?_|refine⟨_,_,_,rfl,?_⟩|refine⟨_,rfl,?_⟩|refine And.intro (by first|omega|trivial|(show _=_;rfl)|(with_reducible constructor)<;>first|omega|trivial|rfl) ?_|refine hs _ _ ?_|refine (yY t _ (by rename_i h _ _ _ _;exact h t rfl) (by omega)) _ _ ?_|fail
     all_goals first | (exfalso;omega) | skip
     rename_i Y _ _ _ _ _ _ _ _ _
     exact I _ _ (by omega) (Y t rfl)
/-- what TypeOf comes to -/
def qt (g:List Tg) (e:Tm) (n:Int):Option Ty:=if zNX g/\qr e n then e.type g n else none
theorem zJs:∀ {g:List Tg},zIc g=true->∀ x∈g,x.ty.valid=true
 | y::ys,h,x,hx=>by
   simp only [zIc,Tg.ok,oI] at h
   rcases oF.1 hx with rfl | hx
   ·exact h.1.2.1
   ·exact zJs h.2 x hx
theorem zR5 {g:List Tg} {e:Tm} {n:Int} (J:zNX g=true) (I:qr e n=true) (hc:e.dp<=1048576000 / 2):Pre g e n:=by
 simp only [zNX,oI,nK] at J
 simp only [qr,oI] at I
 exact ⟨I.1,I.2,by omega,λx O=>oO (Ty.valid_cnt (zJs J.1 x O)) (by omega)⟩
theorem vS {g:List Tg} {es:List D} (I:Ctx g es) (Y:∀ x∈g,x.ty.cnt<=1073741824) {e:Tm} {d:D} (he:e.Is d) (hG:e.G) (hc:e.dp<=1048576000 / 2) (a:Option Addr) (c:Nat) (n:Int) :
  zTR 10 [.sv a 4 es c,.dg 9 d,.j n] (qt g e n):=λN Q J=>by
 refine zHO N a es c d n Q λ_ _=>?_
 cases O:zNX g with
 | false=>
   rw [qt,if_neg (by simp [O])] at J
   repeat' first|with_reducible intro _|simp only[O,Y1,Y2,Y3,Y4]|with_reducible refine X ?_ ?_|refine⟨_,_,_,rfl,?_⟩|refine⟨_,rfl,?_⟩|refine And.intro (by first|omega|trivial|(show _=_;rfl)|(with_reducible constructor)<;>first|omega|trivial|rfl) ?_|refine (rT I Y a c) _ _ ?_|fail
   exact J _ _ (by omega) zBy
 | true=>
   cases U:qr e n with
   | false=>
     rw [qt,if_neg (by simp [U])] at J
     repeat' first|with_reducible intro _|simp only[O,U,Y1,Y2,Y3,Y4]|with_reducible refine X ?_ ?_|refine⟨_,_,_,rfl,?_⟩|refine⟨_,rfl,?_⟩|refine And.intro (by first|omega|trivial|(show _=_;rfl)|(with_reducible constructor)<;>first|omega|trivial|rfl) ?_|refine (rT I Y a c) _ _ ?_|refine (vq e d he hG n) _ _ ?_|fail
     exact J _ _ (by omega) zBy
   | true=>
     rw [qt,if_pos ⟨O,U⟩] at J
     repeat' first|with_reducible intro _|simp only[O,U,Y1,Y2,Y3,Y4]|with_reducible refine X ?_ ?_|refine⟨_,_,_,rfl,?_⟩|refine⟨_,rfl,?_⟩|refine And.intro (by first|omega|trivial|(show _=_;rfl)|(with_reducible constructor)<;>first|omega|trivial|rfl) ?_|refine (rT I Y a c) _ _ ?_|refine (vq e d he hG n) _ _ ?_|refine (zGs e d he g es a c n (zR5 O U hc) I) _ _ ?_|fail
     exact J _ _ (by omega) (by assumption)
end Go.Proofs.YtfajiphkncipoaaGreatDoor
