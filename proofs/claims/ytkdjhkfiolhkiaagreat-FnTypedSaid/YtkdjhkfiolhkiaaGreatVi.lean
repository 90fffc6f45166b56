/- Terms and typings as plain data; well-formed terms and contexts: the reference's functions. -/
import Derived.Test.YtkdjhkfiolhkiaaGreatVf
set_option linter.unusedVariables false
set_option linter.unusedSimpArgs false
namespace Go.Proofs.YtkdjhkfiolhkiaaGreat
open Go Go.Proofs Go.Proofs.Tryz Go.IntWalk
inductive Tm where
 | mk (k:Int) (nm ot:ByteArray) (n:Int) (ty re:Ty) (l:List Tm)
def Tm.as:Tm->List Tm
 | .mk _ _ _ _ _ _ l=>l
/-- the cells of a term ahead of its parts -/
structure Tm.Hd (nm ot:ByteArray) (ty re:Ty) (t0 t1 r0 r1:D):Prop where
 nm:nm.size<=4611686018427387904
 ot:ot.size<=4611686018427387904
 ty:ty.Is (.ag [t0,t1])
 re:re.Is (.ag [r0,r1])
mutual
def Tm.Is:Tm->D->Prop
 | .mk k nm ot n ty re l,d=>∃ t0 t1 r0 r1 a es c,d=.ag [.lit (.int .i64 k),.lit (.string nm),.lit (.string ot),.lit (.int .i64 n),t0,t1,r0,r1,.sl a 9 es c]/\Tm.Hd nm ot ty re t0 t1 r0 r1/\es.length<=4611686018427387904/\zJV l es
def zJV:List Tm->List D->Prop
 | [],es=>es=[]
 | t::ts,es=>∃ d ds,es=d::ds/\t.Is d/\zJV ts ds
end
theorem zFJ:∀ {l:List Tm} {es:List D},zJV l es↔All2 Tm.Is l es
 | [],es=>by simp only [zJV,All2]
 | t::ts,es=>by
   simp only [zJV,All2]
   exact ⟨fun ⟨d,ds,h1,h2,h3⟩=>⟨d,ds,h1,h2,zFJ.1 h3⟩,fun ⟨d,ds,h1,h2,h3⟩=>⟨d,ds,h1,h2,zFJ.2 h3⟩⟩
theorem Tm.is_mk {k:Int} {nm ot:ByteArray} {n:Int} {ty re:Ty} {l:List Tm} {d:D}:(Tm.mk k nm ot n ty re l).Is d ↔
  ∃ t0 t1 r0 r1 a es c,d=.ag [.lit (.int .i64 k),.lit (.string nm),.lit (.string ot),.lit (.int .i64 n),t0,t1,r0,r1,.sl a 9 es c]/\Tm.Hd nm ot ty re t0 t1 r0 r1/\es.length<=4611686018427387904/\All2 Tm.Is l es:=by
 simp only [Tm.Is,zFJ]
theorem Tm.ind {P:Tm->Prop} (h:∀ k nm ot n ty re l,(∀ t∈l,P t)->P (.mk k nm ot n ty re l)):∀ t,P t:=fun t=>
 Tm.rec (motive_1:=P) (motive_2:=fun l=>∀ t∈l,P t) (fun k nm ot n ty re l ih=>h k nm ot n ty re l ih) (by simp) (fun t l h1 h2 u hu=>by
  rcases oG.1 hu with rfl | hu
  ·exact h1
  ·exact h2 u hu) t
mutual
def Tm.cnt:Tm->Nat
 | .mk _ _ _ _ ty re l=>1+ty.cnt+re.cnt+zO l
def zO:List Tm->Nat
 | []=>0
 | t::ts=>t.cnt+zO ts
end
theorem yu:∀ {l:List Tm} {t:Tm},t∈l->t.cnt<=zO l
 | u::us,t,h=>by
   simp only [zO]
   rcases oG.1 h with rfl | h
   ·omega
   ·have:=yu h;omega
theorem wS:∀ l:List Tm,l.length<=zO l
 | []=>oF _
 | .mk _ _ _ _ _ _ _::ts=>by simp only [zO,Tm.cnt,oN];have:=wS ts;omega
structure Tg where
 nm:ByteArray
 ty:Ty
 lv:Int
def Tg.Is (g:Tg) (d:D):Prop:=∃ t0 t1,d=.ag [.lit (.string g.nm),t0,t1,.lit (.int .i64 g.lv)]/\g.nm.size<=4611686018427387904/\g.ty.Is (.ag [t0,t1])
theorem Tg.is_mk {nm:ByteArray} {ty:Ty} {lv:Int} {d:D}:(Tg.mk nm ty lv).Is d↔∃ t0 t1,d=.ag [.lit (.string nm),t0,t1,.lit (.int .i64 lv)]/\nm.size<=4611686018427387904/\ty.Is (.ag [t0,t1]):=mb
def zEb (s:ByteArray):Int:=if s=bytes [43] then 2 else if s=bytes [45] then 2 else if s=bytes [42] then 2 else if s=bytes [61] then 2 else if s=bytes [60] then 2 else if s=bytes [38] then 2 else if s=bytes [124] then 2 else if s=bytes [33] then 1 else 0
theorem v4 (s:ByteArray):zCW 231 [.str s] (zEb s):=fun N Q hQ=>by
 refine zCY N s Q ?_
 repeat' first|with_reducible intro _|simp only[Y1,Y2,Y3,Y4]|with_reducible refine X ?_ ?_|refine⟨_,_,_,rfl,?_⟩|refine⟨_,rfl,?_⟩|refine And.intro (by first|omega|trivial|(show _=_;rfl)|(with_reducible constructor)<;>first|omega|trivial|rfl) ?_|fail
 all_goals (refine Qi (hQ _ (by assumption)) ?_;unfold zEb;(repeat' split)<;>first | rfl | contradiction)
def Ty.zero (t:Ty):Bool:=t.k==0&&(t.as.length:Int)==0
theorem qN (t:Ty) (d:D) (hd:t.Is d):v3 229 [.dg 2 d] t.zero:=fun N Q hQ=>by
 cases t with
 | mk k l=>
 obtain ⟨a,es,c,rfl,hlen,hes⟩:=Ty.is_mk.1 hd
 have hl:=hes.len
 refine zFS N _ Q fun _=>?_
 repeat' first|with_reducible intro _|simp only[Y1,Y2,Y3,Y4]|with_reducible refine X ?_ ?_|refine⟨_,_,_,rfl,?_⟩|refine⟨_,rfl,?_⟩|refine And.intro (by first|omega|trivial|(show _=_;rfl)|(with_reducible constructor)<;>first|omega|trivial|rfl) ?_|fail
 all_goals refine Qb (hQ _ (by assumption)) ?_
 all_goals simp [Ty.zero,Ty.k,Ty.as,hl, *]
def tL (k:Int) (nm ot:ByteArray):Bool:=
 if k=4 then decide (zEb nm>0)&&decide (ot=bytes []) else if k=1\/k=6\/k=8 then u4 nm&&decide (ot=bytes []) else if k=9 then u4 nm&&(u4 ot&&!decide (nm=ot)) else decide (nm=bytes [])&&decide (ot=bytes [])
theorem zPS (a b:Int):(a==b)=decide (a=b):=by rw [nj];simp
def zA7 (k:Int):Bool:=k==6||k==9
def yG (k:Int) (nm ot:ByteArray) (n:Int) (ty re:Ty):Bool:=
 (zA7 k==ty.valid)&&((zA7 k||ty.zero)&&(((k==9)==re.valid)&&((k==9||re.zero)&&(inB n 0 (if k=2 then 10006 else if k=3 then 1 else 0)&&tL k nm ot))))
def zFf (k:Int) (nm:ByteArray):Int:=
 if k=1\/k=2\/k=3 then 0 else if k=4 then zEb nm else if k=6\/k=9\/k=10\/k=11\/k=12\/k=13 then 1 else if k=7\/k=8 then 2 else if k=5 then 3 else -1
mutual
def Tm.ok:Tm->Bool
 | .mk k nm ot n ty re l=>zC3 l&&(yG k nm ot n ty re&&(l.length:Int)==zFf k nm)
def zC3:List Tm->Bool
 | []=>true
 | t::ts=>t.ok&&zC3 ts
end
theorem zCk {k n:Int} {nm ot:ByteArray} {ty re:Ty} {t0 t1 r0 r1 x:D} (h:Tm.Hd nm ot ty re t0 t1 r0 r1):v3 230 [.dg 9 (.ag [.lit (.int .i64 k),.lit (.string nm),.lit (.string ot),.lit (.int .i64 n),t0,t1,r0,r1,x])] (tL k nm ot):=fun N Q hQ=>by
 refine zC1 N _ Q fun _=>?_
 repeat' first|with_reducible intro _|simp only[Y1,Y2,Y3,Y4]|with_reducible refine X ?_ ?_|refine⟨_,_,_,rfl,?_⟩|refine⟨_,rfl,?_⟩|refine And.intro (by first|omega|trivial|(show _=_;rfl)|(with_reducible constructor)<;>first|omega|trivial|rfl) ?_|refine (v4 _) _ _ ?_|refine (uS _ h.nm) _ _ ?_|refine (uS _ h.ot) _ _ ?_|fail
 all_goals (refine Qb (hQ _ (by omega)) ?_;simp [tL,vo, *])
theorem zBL {k n:Int} {nm ot:ByteArray} {ty re:Ty} {t0 t1 r0 r1 x:D} (h:Tm.Hd nm ot ty re t0 t1 r0 r1) (hc:ty.cnt<=1073741824) (hc2:re.cnt<=1073741824) :
  v3 181 [.dg 9 (.ag [.lit (.int .i64 k),.lit (.string nm),.lit (.string ot),.lit (.int .i64 n),t0,t1,r0,r1,x])] (yG k nm ot n ty re):=fun N Q hQ=>by
 refine zBx N _ Q fun _=>?_
 repeat' first|with_reducible intro _|simp only[Y1,Y2,Y3,Y4]|with_reducible refine X ?_ ?_|refine⟨_,_,_,rfl,?_⟩|refine⟨_,rfl,?_⟩|refine And.intro (by first|omega|trivial|(show _=_;rfl)|(with_reducible constructor)<;>first|omega|trivial|rfl) ?_|refine (zo _ _ h.ty hc) _ _ ?_|refine (zo _ _ h.re hc2) _ _ ?_|refine (qN _ _ h.ty) _ _ ?_|refine (qN _ _ h.re) _ _ ?_|refine (vI _ _ _) _ _ ?_|refine (zCk h) _ _ ?_|fail
 all_goals first | (exfalso;omega) | (refine Qb (hQ _ (by omega)) ?_;simp [yG,zA7, *];done) | (refine Qb (hQ _ (by omega)) ?_;simp_all [yG,zA7];done) | (refine Qb (hQ _ (by omega)) ?_;simp_all only [yG,zA7,zPS];simp_all;done)
theorem xI {k n:Int} {nm ot:ByteArray} {t0 t1 r0 r1 x:D}:zCW 182 [.dg 9 (.ag [.lit (.int .i64 k),.lit (.string nm),.lit (.string ot),.lit (.int .i64 n),t0,t1,r0,r1,x])] (zFf k nm):=fun N Q hQ=>by
 refine zCx N _ Q fun _=>?_
 repeat' first|with_reducible intro _|simp only[Y1,Y2,Y3,Y4]|with_reducible refine X ?_ ?_|refine⟨_,_,_,rfl,?_⟩|refine⟨_,rfl,?_⟩|refine And.intro (by first|omega|trivial|(show _=_;rfl)|(with_reducible constructor)<;>first|omega|trivial|rfl) ?_|refine (v4 _) _ _ ?_|fail
 all_goals (refine Qi (hQ _ (by omega)) ?_;simp [zFf, *])
theorem r7:∀ (t:Tm) (d:D),t.Is d->t.cnt<=1073741824->v3 122 [.dg 9 d] t.ok:=by
 refine Tm.ind fun k nm ot n ty re l ih d hd hc N Q hQ=>?_
 obtain ⟨t0,t1,r0,r1,a,es,c,rfl,hh,hlen,hes⟩:=Tm.is_mk.1 hd
 have hl:=hes.len
 simp only [Tm.cnt] at hc
 refine zE3 N _ Q fun _=>?_
 have key:=up hes hlen (fun i xs=>∀ (N':Nat),N<=N'->(∀ N'',N'<=N''->Q (zC3 xs&&(yG k nm ot n ty re&&(l.length:Int)==zFf k nm)) N'')->xh Q N i (.ag [.lit (.int .i64 k),.lit (.string nm),.lit (.string ot),.lit (.int .i64 n),t0,t1,r0,r1,.sl a 9 es c]) N') ?_ ?_
 ·exact key N (oF _) hQ
 ·intro i hlt _ N' hN' hQ'
  refine tN _ _ _ _ _ ?_
  repeat' first|with_reducible intro _|simp only[hlt,Y1,Y2,Y3,Y4]|with_reducible refine X ?_ ?_|refine⟨_,_,_,rfl,?_⟩|refine⟨_,rfl,?_⟩|refine And.intro (by first|omega|trivial|(show _=_;rfl)|(with_reducible constructor)<;>first|omega|trivial|rfl) ?_|refine (zBL hh (by omega) (by omega)) _ _ ?_|refine xI _ _ ?_|fail
  all_goals (refine Qb (hQ' _ (by omega)) ?_;simp [zC3, *])
 ·intro i x xs hat _ ih2 N' hN' hQ'
  have hb:=hat.b
  have hxc:=yu hat.m
  refine tN _ _ _ _ _ ?_
  repeat' first|with_reducible intro _|simp only[hat.lt,hat.w,oM,Y1,Y2,Y3,Y4]|with_reducible refine X ?_ ?_|refine⟨_,_,_,rfl,?_⟩|refine⟨_,rfl,?_⟩|refine And.intro (by first|omega|trivial|(show _=_;rfl)|(with_reducible constructor)<;>first|omega|trivial|rfl) ?_|refine (ih x hat.m _ hat.r (by omega)) _ _ ?_|fail
  ·refine Qb (hQ' _ (by omega)) ?_;simp [zC3, *]
  ·exact ih2 _ (by omega) fun N'' h=>Qb (hQ' N'' (by omega)) (by simp [zC3, *])
theorem xl {n a b:Int}:inB n a b=true↔a<=n/\n<=b:=by simp [inB]
def zr (k n:Int):Int:=if k=10 then n+1 else if k=11 then n - 1 else n
mutual
def Tm.lev:Tm->Int->Bool
 | .mk k _ _ _ _ _ l,n=>inB n 0 2&&uo l (zr k n)
def uo:List Tm->Int->Bool
 | [],_=>true
 | t::ts,n=>t.lev n&&uo ts n
end
theorem uf {k n m:Int} {c1 c2 c4 c5 c6 c7 c8:D} (h:0<=m/\m<=2):zCW 215 [.dg 9 (.ag [.lit (.int .i64 k),c1,c2,.lit (.int .i64 n),c4,c5,c6,c7,c8]),.int .i64 m] (zr k m):=fun N Q hQ=>by
 refine zEv N _ m Q fun _=>?_
 rw [i64_in (m+1) (by omega),i64_in (m - 1) (by omega)]
 repeat' first|with_reducible intro _|simp only[Y1,Y2,Y3,Y4]|with_reducible refine X ?_ ?_|refine⟨_,_,_,rfl,?_⟩|refine⟨_,rfl,?_⟩|refine And.intro (by first|omega|trivial|(show _=_;rfl)|(with_reducible constructor)<;>first|omega|trivial|rfl) ?_|fail
 all_goals (refine Qi (hQ _ (by omega)) ?_;simp [zr, *])
theorem zHO:∀ (t:Tm) (d:D),t.Is d->∀ m:Int,v3 166 [.dg 9 d,.int .i64 m] (t.lev m):=by
 refine Tm.ind fun k nm ot n ty re l ih d hd m N Q hQ=>?_
 obtain ⟨t0,t1,r0,r1,a,es,c,rfl,hh,hlen,hes⟩:=Tm.is_mk.1 hd
 have hl:=hes.len
 refine zHY N _ m Q fun _=>?_
 cases hin:inB m 0 2 with
 | false=>
   repeat' first|with_reducible intro _|simp only[hin,Y1,Y2,Y3,Y4]|with_reducible refine X ?_ ?_|refine⟨_,_,_,rfl,?_⟩|refine⟨_,rfl,?_⟩|refine And.intro (by first|omega|trivial|(show _=_;rfl)|(with_reducible constructor)<;>first|omega|trivial|rfl) ?_|refine (vI _ _ _) _ _ ?_|fail
   exact Qb (hQ _ (by omega)) (by simp [Tm.lev,hin])
 | true=>
   have hb:=xl.1 hin
   have key:=up hes hlen (fun i xs=>∀ (N':Nat),N<=N'->(∀ N'',N'<=N''->Q (uo xs (zr k m)) N'')->wz Q N m i (.ag [.lit (.int .i64 k),.lit (.string nm),.lit (.string ot),.lit (.int .i64 n),t0,t1,r0,r1,.sl a 9 es c]) N') ?_ ?_
   ·repeat' first|with_reducible intro _|simp only[hin,Y1,Y2,Y3,Y4]|with_reducible refine X ?_ ?_|refine⟨_,_,_,rfl,?_⟩|refine⟨_,rfl,?_⟩|refine And.intro (by first|omega|trivial|(show _=_;rfl)|(with_reducible constructor)<;>first|omega|trivial|rfl) ?_|refine (vI _ _ _) _ _ ?_|fail
    exact key _ (by omega) fun N'' h=>Qb (hQ N'' (by omega)) (by simp [Tm.lev,hin])
   ·intro i hlt _ N' hN' hQ'
    refine qG _ _ _ _ _ _ ?_
    repeat' first|with_reducible intro _|simp only[hlt,Y1,Y2,Y3,Y4]|with_reducible refine X ?_ ?_|refine⟨_,_,_,rfl,?_⟩|refine⟨_,rfl,?_⟩|refine And.intro (by first|omega|trivial|(show _=_;rfl)|(with_reducible constructor)<;>first|omega|trivial|rfl) ?_|fail
    exact Qb (hQ' _ (by omega)) (by simp [uo])
   ·intro i x xs hat _ ih2 N' hN' hQ'
    have hb2:=hat.b
    refine qG _ _ _ _ _ _ ?_
    repeat' first|with_reducible intro _|simp only[hat.lt,hat.w,oM,Y1,Y2,Y3,Y4]|with_reducible refine X ?_ ?_|refine⟨_,_,_,rfl,?_⟩|refine⟨_,rfl,?_⟩|refine And.intro (by first|omega|trivial|(show _=_;rfl)|(with_reducible constructor)<;>first|omega|trivial|rfl) ?_|refine (uf hb) _ _ ?_|refine (ih x hat.m _ hat.r _) _ _ ?_|fail
    ·refine Qb (hQ' _ (by omega)) ?_;simp [uo, *]
    ·exact ih2 _ (by omega) fun N'' h=>Qb (hQ' N'' (by omega)) (by simp [uo, *])
def zEC (t:Tm) (n:Int):Bool:=t.ok&&t.lev n
theorem tw (t:Tm) (d:D) (hd:t.Is d) (hc:t.cnt<=1073741824) (m:Int):v3 96 [.dg 9 d,.int .i64 m] (zEC t m):=fun N Q hQ=>by
 refine zBt N _ m Q fun _=>?_
 repeat' first|with_reducible intro _|simp only[Y1,Y2,Y3,Y4]|with_reducible refine X ?_ ?_|refine⟨_,_,_,rfl,?_⟩|refine⟨_,rfl,?_⟩|refine And.intro (by first|omega|trivial|(show _=_;rfl)|(with_reducible constructor)<;>first|omega|trivial|rfl) ?_|refine (r7 t d hd hc) _ _ ?_|refine (zHO t d hd m) _ _ ?_|fail
 all_goals (refine Qb (hQ _ (by omega)) ?_;simp [zEC, *])
structure Ctx (g:List Tg) (es:List D):Prop where
 len:es.length<=4611686018427387904
 all:All2 Tg.Is g es
def Tg.ok (g:Tg):Bool:=u4 g.nm&&(g.ty.valid&&inB g.lv 0 2)
def zAx:List Tg->Bool
 | []=>true
 | g::gs=>g.ok&&zAx gs
def zBy (g:List Tg):Bool:=zAx g&&decide ((g.length:Int)<=12)
theorem vq {g:List Tg} {es:List D} (h:Ctx g es) (hc:∀ x∈g,x.ty.cnt<=1073741824) (a:Option Addr) (c:Nat):v3 44 [.sv a 4 es c] (zBy g):=fun N Q hQ=>by
 have hl:=h.all.len
 refine zFp N a es c Q fun _=>?_
 have key:=up h.all h.len (fun i xs=>∀ (N':Nat),N<=N'->(∀ N'',N'<=N''->Q (zAx xs&&decide ((g.length:Int)<=12)) N'')->wU Q N a es c i N') ?_ ?_
 ·exact key N (oF _) hQ
 ·intro i hlt _ N' hN' hQ'
  refine rA _ _ _ _ _ _ _ ?_
  repeat' first|with_reducible intro _|simp only[hlt,Y1,Y2,Y3,Y4]|with_reducible refine X ?_ ?_|refine⟨_,_,_,rfl,?_⟩|refine⟨_,rfl,?_⟩|refine And.intro (by first|omega|trivial|(show _=_;rfl)|(with_reducible constructor)<;>first|omega|trivial|rfl) ?_|fail
  refine Qb (hQ' _ (by omega)) ?_;simp [zAx,hl]
 ·intro i x xs hat _ ih2 N' hN' hQ'
  have hb:=hat.b
  obtain ⟨t0,t1,hd,hs,ht⟩:=hat.r
  refine rA _ _ _ _ _ _ _ ?_
  repeat' first|with_reducible intro _|simp only[hat.lt,hat.w,oM,hd,Y1,Y2,Y3,Y4]|with_reducible refine X ?_ ?_|refine⟨_,_,_,rfl,?_⟩|refine⟨_,rfl,?_⟩|refine And.intro (by first|omega|trivial|(show _=_;rfl)|(with_reducible constructor)<;>first|omega|trivial|rfl) ?_|refine (uS _ hs) _ _ ?_|refine (zo _ _ ht (hc x hat.m)) _ _ ?_|refine (vI _ _ _) _ _ ?_|fail
  all_goals first
   | (refine ih2 _ (by omega) fun N'' h=>Qb (hQ' N'' (by omega)) ?_;simp [zAx,Tg.ok, *];done)
   | (refine Qb (hQ' _ (by omega)) ?_;simp [zAx,Tg.ok, *];done)
def tg0:Tg:=⟨bytes [],tZero,0⟩
def xc (g:List Tg) (s:ByteArray):Nat->Int
 | 0 => -1
 | k+1=>if (g.getD k tg0).nm=s then k else xc g s k
def zC (g:List Tg) (s:ByteArray):Int:=xc g s g.length
theorem uF (g:List Tg) (s:ByteArray):∀ n:Nat,xc g s n = -1\/(0<=xc g s n/\xc g s n<n)
 | 0=>.inl rfl
 | n+1=>by
   simp only [xc]
   split
   ·exact .inr (by omega)
   ·rcases uF g s n with h | h
    ·exact .inl h
    ·exact .inr (by omega)
theorem zPj {α:Type} {R:α->D->Prop} {l:List α} {es:List D} (h:All2 R l es) (hlen:es.length<=4611686018427387904) (P:Int->Prop) (h0:P (-1))
  (hs:∀ (i:Nat) x,At R l es i x->decide ((i:Int)≥0)=true->IntKind.i64.wrap ((i:Int) - 1)=(i:Int) - 1->P ((i:Int) - 1)->P i):P ((es.length:Int) - 1):=by
 have hl:=h.len
 have key:∀ n:Nat,n<=l.length->P ((n:Int) - 1):=by
  intro n
  induction n with
  | zero=>intro _;exact h0
  | succ n ih=>
    intro hn
    have hg:l[n]?=some l[n]:=oD hn
    have e:((n+1:Nat):Int) - 1=n:=by omega
    rw [e]
    exact hs n _ ⟨mU (by omega),⟨by omega,by omega⟩,by rw [i64_in _ (by omega)];simp,h.get hg,nk hn,hg⟩ (mU (by omega)) (i64_in _ (by omega)) (ih (by omega))
 rw [hl]
 exact key _ (oF _)
theorem zCD {α:Type} {l:List α} {i:Nat} {x d:α} (h:l[i]?=some x):l.getD i d=x:=by simp [oA,h]
theorem wx {g:List Tg} {es:List D} (h:Ctx g es) (a:Option Addr) (c:Nat) (s:ByteArray):zCW 109 [.sv a 4 es c,.str s] (zC g s):=fun N Q hQ=>by
 have hl:=h.all.len
 have h1:=h.len
 refine zEK N a es c s Q fun _=>?_
 have key:=zPj h.all h.len (fun m=>∀ (N':Nat),N<=N'->(∀ N'',N'<=N''->Q (xc g s (m+1).toNat) N'')->xp Q N a es c s m N') ?_ ?_
 ·rw [i64_in _ (by omega)]
  exact key N (oF _) fun N' hN'=>Qi (hQ N' hN') (by rw [zC,<-hl];congr 1;omega)
 ·intro N' hN' hQ'
  refine tK _ _ _ _ _ _ _ _ ?_
  repeat' first|with_reducible intro _|simp only[Y1,Y2,Y3,Y4]|with_reducible refine X ?_ ?_|refine⟨_,_,_,rfl,?_⟩|refine⟨_,rfl,?_⟩|refine And.intro (by first|omega|trivial|(show _=_;rfl)|(with_reducible constructor)<;>first|omega|trivial|rfl) ?_|fail
  ·omega
  ·exact hQ' _ (by assumption)
 ·intro i x hat hge hw ih N' hN' hQ'
  have hb:=hat.b
  obtain ⟨t0,t1,hd,hs,ht⟩:=hat.r
  have e1:((i:Int)+1).toNat=i+1:=by omega
  have e2:((i:Int) - 1+1).toNat=i:=by omega
  rw [e1] at hQ'
  simp only [xc,zCD hat.g] at hQ'
  rw [e2] at ih
  refine tK _ _ _ _ _ _ _ _ ?_
  repeat' first|with_reducible intro _|simp only[hge,hw,oM,hd,Y1,Y2,Y3,Y4]|with_reducible refine X ?_ ?_|refine⟨_,_,_,rfl,?_⟩|refine⟨_,rfl,?_⟩|refine And.intro (by first|omega|trivial|(show _=_;rfl)|(with_reducible constructor)<;>first|omega|trivial|rfl) ?_|fail
  ·rename_i hx _ _;exact Qi (hQ' _ (by omega)) (by rw [if_pos hx])
  ·rename_i hx;exact ih _ (by omega) fun N'' h=>Qi (hQ' N'' (by omega)) (by rw [if_neg hx])
theorem Ty.is_cells {t:Ty} {d:D} (h:t.Is d):t.Is (.ag [D.cell d 0,D.cell d 1]):=by
 cases t with
 | mk k l=>obtain ⟨a,es,c,rfl,_,_⟩:=Ty.is_mk.1 h;exact h
def wJ (g:List Tg) (n:Int) (x:Tg) (i:Nat):Bool:=x.ty.base&&(decide (x.lv<=n)&&decide (zC g x.nm=(i:Int)))
def yB (g:List Tg) (n:Int):List Tg->Nat->List Tg
 | [],_=>[]
 | x::xs,i=>if wJ g n x i then x::yB g n xs (i+1) else yB g n xs (i+1)
def xA (g:List Tg) (n:Int):List Tg:=yB g n g 0
theorem sR (g:List Tg) (n:Int):∀ (l:List Tg) (i:Nat),(∀ x∈yB g n l i,x∈l)/\(yB g n l i).length<=l.length
 | [],i=>by simp [yB]
 | x::xs,i=>by
   have h:=sR g n xs (i+1)
   simp only [yB]
   split
   ·refine ⟨fun y hy=>?_,by simp;exact h.2⟩
    rcases oG.1 hy with rfl | hy
    ·exact nV
    ·exact nE _ (h.1 y hy)
   ·exact ⟨fun y hy=>nE _ (h.1 y hy),by have:=h.2;simp;omega⟩
theorem wW {g:List Tg} {es:List D} (h:Ctx g es) (hg:g.length<=1073741824) (hc:∀ x∈g,x.ty.cnt<=1073741824) (a:Option Addr) (c:Nat) (n:Int) :
  ∀ (N:Nat) (Q:QT [.sl 4]),(∀ a' es' c' N',N<=N'->Ctx (xA g n) es'->Q a' es' c' N')->ACalls prog 42 [.sl 4] [.sv a 4 es c,.int .i64 n] N Q:=fun N Q hQ=>by
 have hl:=h.all.len
 refine zC0 N a es c n Q fun _=>?_
 have key:=up h.all h.len (fun i xs=>∀ (r:List D) (m q:Nat) (N':Nat) (done:List Tg),N<=N'->m=r.length->All2 Tg.Is done r->done.length<=i->done++yB g n xs i=xA g n->zu Q N a es c n m q i r q N') ?_ ?_
 ·exact key [] 0 0 N [] (oF _) rfl rfl (oF _) rfl
 ·intro i hlt hi r m q N' done hN' hm hr hdl hd
  refine uy _ _ _ _ _ _ _ _ _ _ _ _ ?_
  repeat' first|with_reducible intro _|simp only[hlt,Y1,Y2,Y3,Y4]|with_reducible refine X ?_ ?_|refine⟨_,_,_,rfl,?_⟩|refine⟨_,rfl,?_⟩|refine And.intro (by first|omega|trivial|(show _=_;rfl)|(with_reducible constructor)<;>first|omega|trivial|rfl) ?_|fail
  refine hQ _ _ _ _ (by omega) ⟨by have:=hr.len;omega,?_⟩
  simp only [yB,nF] at hd
  rwa [<-hd]
 ·intro i x xs hat _ ih2 r m q N' done hN' hm hr hdl hd
  have hb:=hat.b
  have hrl:=hr.len
  obtain ⟨t0,t1,he,hs,ht⟩:=hat.r
  simp only [yB] at hd
  refine uy _ _ _ _ _ _ _ _ _ _ _ _ ?_
  repeat' first|with_reducible intro _|simp only[hat.lt,hat.w,oM,he,Y1,Y2,Y3,Y4]|with_reducible refine X ?_ ?_|refine⟨_,_,_,rfl,?_⟩|refine⟨_,rfl,?_⟩|refine And.intro (by first|omega|trivial|(show _=_;rfl)|(with_reducible constructor)<;>first|omega|trivial|rfl) ?_|refine (uR _ _ ht) _ _ ?_|refine (wx h a c _) _ _ ?_|refine (zJ _ _ ht (hc x hat.m)) _ _ ?_|fail
  ·rename_i N2 hN2 x' N3 hN3 hx ho _ _
   have hin:wJ g n x i=true:=by simp [wJ, *]
   rw [if_pos hin] at hd
   refine ⟨by unfold zA;simp only [oH,nK];omega,fun c2=>ih2 _ _ _ _ (done++[x]) (by omega) rfl (hr.snoc ⟨_,_,rfl,hs,Ty.is_cells hx⟩) (by simp;omega) (by simpa using hd)⟩
  all_goals (refine ih2 _ _ _ _ done (by omega) hm hr (by omega) ?_;rw [<-hd,if_neg (by simp [wJ, *])])
theorem z5 {g:List Tg} {es:List D} (h:Ctx g es) (hg:g.length<=1073741824) (a:Option Addr) (c:Nat) {s:ByteArray} (hs:s.size<=4611686018427387904) {t:Ty} {d:D} (ht:t.Is d) (n:Int) :
  ∀ (N:Nat) (Q:QT [.sl 4]),(∀ a' es' c' N',N<=N'->Ctx (g++[⟨s,t,n⟩]) es'->Q a' es' c' N')->ACalls prog 162 [.sl 4] [.sv a 4 es c,.str s,.dg 2 d,.int .i64 n] N Q:=fun N Q hQ=>by
 have hl:=h.all.len
 have hb:∀ x:D,zA ([]++es) [x] 56:=fun x=>by unfold zA;simp only [oY,oH,nK];omega
 have hb0:zA [] es 56:=by unfold zA;simp only [oY];omega
 refine zFW N a es c s d n Q fun _ _=>?_
 repeat' first|with_reducible intro _|simp only[Y1,Y2,Y3,Y4]|with_reducible refine X ?_ ?_|refine⟨_,_,_,rfl,?_⟩|refine⟨_,rfl,?_⟩|refine And.intro (by first|omega|trivial|(show _=_;rfl)|(with_reducible constructor)<;>first|omega|trivial|rfl) ?_|fail
 refine ⟨hb _,fun c2=>?_⟩
 repeat' first|with_reducible intro _|simp only[Y1,Y2,Y3,Y4]|with_reducible refine X ?_ ?_|refine⟨_,_,_,rfl,?_⟩|refine⟨_,rfl,?_⟩|refine And.intro (by first|omega|trivial|(show _=_;rfl)|(with_reducible constructor)<;>first|omega|trivial|rfl) ?_|fail
 refine hQ _ _ _ _ (by omega) ⟨by simp;omega,?_⟩
 simp only [oY]
 exact h.all.snoc ⟨_,_,rfl,hs,Ty.is_cells ht⟩
def zJO (o:Option Ty) (d:D) (b:Bool):Prop:=match o with
 | some t=>b=true/\t.Is d
 | none=>b=false
/-- the kind of what an operation works on -/
def zGa (s:ByteArray):Int:=if s=bytes [38] then 2 else if s=bytes [124] then 2 else if s=bytes [33] then 2 else 1
def zCG (s:ByteArray):Ty:=if s=bytes [43] then tInt else if s=bytes [45] then tInt else if s=bytes [42] then tInt else tBool
def zL0 (w:Int):List Ty->Bool
 | []=>true
 | t::ts=>decide (t.k=w)&&zL0 w ts
def zM3 (s:ByteArray) (ts:List Ty):Option Ty:=if zL0 (zGa s) ts then some (zCG s) else none
theorem zHt {ts:List Ty} {es:List D} (h:All2 Ty.Is ts es) (hlen:es.length<=4611686018427387904) (a:Option Addr) (c:Nat) (s:ByteArray) :
  ∀ (N:Nat) (Q:QT [.ag 2,.bool]),(∀ d b N',N<=N'->zJO (zM3 s ts) d b->(∀ x∈d.foot,N<=x)->Q d b N')->ACalls prog 246 [.ag 2,.bool] [.str s,.sv a 2 es c] N Q:=fun N Q hQ=>by
 refine zHK N s a es c Q fun _=>?_
 have key:yK Q N s a es c (zGa s) (0:Nat) 0 none [] 0 N:=by
  refine up h hlen (fun i xs=>∀ (N':Nat),N<=N'->zL0 (zGa s) xs=zL0 (zGa s) ts->yK Q N s a es c (zGa s) i 0 none [] 0 N') ?_ ?_ N (oF _) rfl
  ·intro i hlt _ N' hN' hk
   refine rj _ _ _ _ _ _ _ _ _ _ _ _ _ ?_
   have ho:zM3 s ts=some (zCG s):=by rw [zM3,<-hk];rfl
   rw [ho] at hQ
   repeat' first|with_reducible intro _|simp only[hlt,Y1,Y2,Y3,Y4]|with_reducible refine X ?_ ?_|refine⟨_,_,_,rfl,?_⟩|refine⟨_,rfl,?_⟩|refine And.intro (by first|omega|trivial|(show _=_;rfl)|(with_reducible constructor)<;>first|omega|trivial|rfl) ?_|refine yz _ _ ?_|refine y7 _ _ ?_|fail
   all_goals
    rename_i hx ho _ _ _ _
    refine hQ _ _ _ (by omega) ⟨rfl,?_⟩ fun b hb=>by have:=ho.lo b hb;omega
    have e:zCG s=tInt\/zCG s=tBool:=by unfold zCG;(repeat' split)<;>simp
    first
     | (have e:zCG s=tInt:=by unfold zCG;(repeat' split)<;>first | rfl | contradiction
        rw [e];exact hx)
     | (have e:zCG s=tBool:=by unfold zCG;(repeat' split)<;>first | rfl | contradiction
        rw [e];exact hx)
  ·intro i x xs hat _ ih2 N' hN' hk
   have hb:=hat.b
   cases x with
   | mk k l=>
   obtain ⟨a1,es1,c1,he,_,_⟩:=Ty.is_mk.1 hat.r
   refine rj _ _ _ _ _ _ _ _ _ _ _ _ _ ?_
   repeat' first|with_reducible intro _|simp only[hat.lt,hat.w,oM,he,Y1,Y2,Y3,Y4]|with_reducible refine X ?_ ?_|refine⟨_,_,_,rfl,?_⟩|refine⟨_,rfl,?_⟩|refine And.intro (by first|omega|trivial|(show _=_;rfl)|(with_reducible constructor)<;>first|omega|trivial|rfl) ?_|fail
   ·rename_i hne _ _
    refine hQ _ _ _ (by omega) ?_ (by simp [D.foot,zE])
    have:zL0 (zGa s) ts=false:=by rw [<-hk];simp [zL0,Ty.k,hne]
    rw [zM3,this];rfl
   ·rename_i hne
    exact ih2 _ hN' (by rw [<-hk];simp [zL0,Ty.k,hne])
 have e:zGa s=2\/zGa s=1:=by unfold zGa;(repeat' split)<;>simp
 repeat' first|with_reducible intro _|simp only[Y1,Y2,Y3,Y4]|with_reducible refine X ?_ ?_|refine⟨_,_,_,rfl,?_⟩|refine⟨_,rfl,?_⟩|refine And.intro (by first|omega|trivial|(show _=_;rfl)|(with_reducible constructor)<;>first|omega|trivial|rfl) ?_|fail
 all_goals
  first
   | (have e:zGa s=2:=by unfold zGa;(repeat' split)<;>first | rfl | contradiction
      rw [e] at key;exact key)
   | (have e:zGa s=1:=by unfold zGa;(repeat' split)<;>first | rfl | contradiction
      rw [e] at key;exact key)
/-- the type of a form of parts of these types -/
def y8 (k:Int) (s:ByteArray) (ts:List Ty):Option Ty:=
 if k=4 then zM3 s ts
 else if k=5 then (if (ts.getD 0 tZero).k=2/\uN (ts.getD 1 tZero) (ts.getD 2 tZero) then some (ts.getD 1 tZero) else none)
 else if (ts.getD 0 tZero).k=3/\uN ((ts.getD 0 tZero).as.getD 0 tZero) (ts.getD 1 tZero) then some ((ts.getD 0 tZero).as.getD 1 tZero) else none
theorem Ty.form_len {k:Int} {l:List Ty} (h:(Ty.mk k l).valid=true):tO k l.length=true:=by
 simp only [Ty.valid,Ty.form,oL] at h
 exact h.2.2
theorem Ty.valid_cnt {t:Ty} (h:t.valid=true):t.cnt<=30:=by
 simp only [Ty.valid,oL,nC] at h
 exact h.1.1
theorem zFO {ts:List Ty} {es:List D} (h:All2 Ty.Is ts es) (hlen:es.length<=4611686018427387904) (a:Option Addr) (c:Nat) {k n:Int} {s:ByteArray} {c2 c4 c5 c6 c7 c8:D}
  (hv:∀ t∈ts,t.valid=true) (hk:k=4\/k=5/\ts.length=3\/k=7/\ts.length=2) :
  ∀ (N:Nat) (Q:QT [.ag 2,.bool]),(∀ d b N',N<=N'->zJO (y8 k s ts) d b->(∀ x∈d.foot,x∈zE es\/N<=x)->Q d b N') ->
  ACalls prog 218 [.ag 2,.bool] [.dg 9 (.ag [.lit (.int .i64 k),.lit (.string s),c2,.lit (.int .i64 n),c4,c5,c6,c7,c8]),.sv a 2 es c] N Q:=fun N Q hQ=>by
 refine zER N _ a es c Q fun _ _=>?_
 rcases hk with rfl | ⟨rfl,hl⟩ | ⟨rfl,hl⟩
 ·repeat' first|with_reducible intro _|simp only[Y1,Y2,Y3,Y4]|with_reducible refine X ?_ ?_|refine⟨_,_,_,rfl,?_⟩|refine⟨_,rfl,?_⟩|refine And.intro (by first|omega|trivial|(show _=_;rfl)|(with_reducible constructor)<;>first|omega|trivial|rfl) ?_|refine (zHt h hlen a c s) _ _ ?_|fail
  ·rename_i N1 hN1 d b N2 hN2 ho hlo _ _ N3 hN3
   exact hQ _ _ _ (by omega) (by simpa [y8] using ho) fun x hx=>.inr (by have:=hlo x hx;omega)
  all_goals (exfalso;omega)
 ·obtain ⟨t0,t1,t2,rfl⟩:∃ t0 t1 t2,ts=[t0,t1,t2]:=by
   match ts,hl with
   | [t0,t1,t2],_=>exact ⟨t0,t1,t2,rfl⟩
  obtain ⟨d0,_,rfl,h0,d1,_,rfl,h1,d2,_,rfl,h2,rfl⟩:=h
  cases t0 with
  | mk k0 l0=>
  obtain ⟨a0,es0,c0,rfl,hl0,he0⟩:=Ty.is_mk.1 h0
  have hq:∀ (b:Bool) (N':Nat),N<=N'->(k0=2/\uN t1 t2=b\/¬k0=2/\b=false)->Q d1 b N':=fun b N' hN' hb=>by
   refine hQ _ _ _ hN' ?_ fun x hx=>.inl (by simp only [zE,oK];exact .inr (.inl hx))
   rcases hb with ⟨e1,e2⟩ | ⟨e1,rfl⟩
   ·cases b<;>simp [y8,Ty.k,e1,e2,zJO,h1]
   ·simp [y8,Ty.k,e1,zJO]
  repeat' first|with_reducible intro _|simp only[oN,oP,Y1,Y2,Y3,Y4]|with_reducible refine X ?_ ?_|refine⟨_,_,_,rfl,?_⟩|refine⟨_,rfl,?_⟩|refine And.intro (by first|omega|trivial|(show _=_;rfl)|(with_reducible constructor)<;>first|omega|trivial|rfl) ?_|refine (yd _ _ _ _ h1 h2) _ _ ?_|fail
  all_goals first | (exfalso;omega) | skip
  ·exact hq _ _ (by omega) (.inl ⟨by assumption,rfl⟩)
  ·exact hq _ _ (by omega) (.inr ⟨by assumption,rfl⟩)
 ·obtain ⟨t0,t1,rfl⟩:∃ t0 t1,ts=[t0,t1]:=by
   match ts,hl with
   | [t0,t1],_=>exact ⟨t0,t1,rfl⟩
  obtain ⟨d0,_,rfl,h0,d1,_,rfl,h1,rfl⟩:=h
  cases t0 with
  | mk k0 l0=>
  obtain ⟨a0,es0,c0,rfl,hl0,he0⟩:=Ty.is_mk.1 h0
  have hf:=Ty.form_len (hv _ nV)
  have hcn:=Ty.valid_cnt (hv _ nV)
  have hz:∀ N',N<=N'->¬(k0=3/\uN (l0.getD 0 tZero) t1=true)->Q (.ag [.lit (.int .i64 0),.sl none 2 [] 0]) false N':=fun N' hN' hb=>by
   refine hQ _ _ _ hN' ?_ (by simp [D.foot,zE])
   have:y8 7 s [.mk k0 l0,t1]=none:=by
    simp only [y8]
    rw [if_neg (by omega),if_neg (by omega)]
    exact if_neg hb
   rw [this];rfl
  by_cases hk:k0=3
  ·subst hk
   have hl2:(l0.length:Int)=2:=by simpa [tO] using hf
   have hl2:l0.length=2:=by omega
   obtain ⟨u0,u1,rfl⟩:∃ t0 t1,l0=[t0,t1]:=by
    match l0,hl2 with
    | [t0,t1],_=>exact ⟨t0,t1,rfl⟩
   obtain ⟨x0,_,rfl,hx0,x1,_,rfl,hx1,rfl⟩:=he0
   simp only [Ty.cnt,zI] at hcn
   repeat' first|with_reducible intro _|simp only[oN,oP,Y1,Y2,Y3,Y4]|with_reducible refine X ?_ ?_|refine⟨_,_,_,rfl,?_⟩|refine⟨_,rfl,?_⟩|refine And.intro (by first|omega|trivial|(show _=_;rfl)|(with_reducible constructor)<;>first|omega|trivial|rfl) ?_|refine (yd _ _ _ _ hx0 h1) _ _ ?_|refine (zJ _ _ hx1 (by omega)) _ _ ?_|fail
   all_goals first | (exfalso;omega) | skip
   ·rename_i he N1 hN1 d' N2 hN2 hd' ho _ _ N3 hN3
    refine hQ _ _ _ (by omega) ?_ fun x hx=>.inr (by have:=ho.lo x hx;omega)
    simp [y8,Ty.k,Ty.as,he,zJO,hd']
   ·rename_i he _ _
    exact hz _ (by omega) (by simp [he])
  ·repeat' first|with_reducible intro _|simp only[oN,oP,Y1,Y2,Y3,Y4]|with_reducible refine X ?_ ?_|refine⟨_,_,_,rfl,?_⟩|refine⟨_,rfl,?_⟩|refine And.intro (by first|omega|trivial|(show _=_;rfl)|(with_reducible constructor)<;>first|omega|trivial|rfl) ?_|fail
   all_goals first | (exfalso;omega) | skip
   exact hz _ (by omega) fun hc=>hk hc.1
def vld (o:Option Ty):Option Ty:=match o with
 | some t=>if t.valid then some t else none
 | none=>none
/-- the type of code, a splice, a run or a lift over this type -/
def yW (k:Int) (t:Ty):Option Ty:=
 if k=10 then some (wg t) else if k=13 then (if t.base then some (wg t) else none) else if t.k=4 then some (t.as.getD 0 tZero) else none
def xB (g:List Tg) (s:ByteArray) (n:Int):Option Ty:=
 if zC g s<0 then none else if (g.getD (zC g s).toNat tg0).lv=n then some (g.getD (zC g s).toNat tg0).ty else none
mutual
def Tm.type:Tm->List Tg->Int->Option Ty
 | .mk k nm ot _ ty re l,g,n=>vld (
   if k=1 then xB g nm n
   else if k=2 then some tInt
   else if k=3 then some tBool
   else if k=6 then (match xZ l 0 (g++[⟨nm,ty,n⟩]) n with | some b=>some (wQ ty b) | none=>none)
   else if k=8 then (match xZ l 0 g n with | some a=>xZ l 1 (g++[⟨nm,a,n⟩]) n | none=>none)
   else if k=9 then (match xZ l 0 ((g++[⟨nm,wQ ty re,n⟩])++[⟨ot,ty,n⟩]) n with | some b=>if uN b re then some (wQ ty re) else none | none=>none)
   else if k=10\/k=11\/k=12\/k=13 then (match xZ l 0 (if k=12 then xA g n else g) (zr k n) with | some t=>yW k t | none=>none)
   else (match zY l g n with | some ts=>y8 k nm ts | none=>none))
def xZ:List Tm->Nat->List Tg->Int->Option Ty
 | [],_,_,_=>none
 | t::_,0,g,n=>t.type g n
 | _::ts,i+1,g,n=>xZ ts i g n
def zY:List Tm->List Tg->Int->Option (List Ty)
 | [],_,_=>some []
 | t::ts,g,n=>match t.type g n with
   | some u=>(match zY ts g n with | some us=>some (u::us) | none=>none)
   | none=>none
end
theorem zD5 {o:Option Ty} {t:Ty} (h:vld o=some t):o=some t/\t.valid=true:=by
 cases o with
 | none=>cases h
 | some u=>
   simp only [vld] at h
   split at h
   ·cases h;exact ⟨rfl,by assumption⟩
   ·cases h
theorem Tm.type_valid {e:Tm} {g:List Tg} {n:Int} {t:Ty} (h:e.type g n=some t):t.valid=true:=by
 cases e with
 | mk k nm ot m ty re l=>
   simp only [Tm.type] at h
   exact (zD5 h).2
theorem zDI:∀ {l:List Tm} {g:List Tg} {n:Int} {ts:List Ty},zY l g n=some ts->ts.length=l.length/\∀ t∈ts,t.valid=true
 | [],g,n,ts,h=>by simp [zY] at h;subst h;simp
 | e :: es,g,n,ts,h=>by
   simp only [zY] at h
   split at h
   ·rename_i u hu
    split at h
    ·rename_i us hus
     cases h
     have:=zDI hus
     refine ⟨by simp [this.1],fun t ht=>?_⟩
     rcases oG.1 ht with rfl | ht
     ·exact Tm.type_valid hu
     ·exact this.2 t ht
    ·cases h
   ·cases h
/-- what typing may count on -/
structure Pre (g:List Tg) (e:Tm) (n:Int):Prop where
 ok:e.ok=true
 lev:e.lev n=true
 len:g.length+2*e.cnt<=1073741824
 ty:∀ x∈g,x.ty.cnt<=64
/-- the facts of a well-formed node -/
structure Node (k:Int) (nm ot:ByteArray) (n:Int) (ty re:Ty) (l:List Tm):Prop where
 f:yG k nm ot n ty re=true
 ar:(l.length:Int)=zFf k nm
 sub:∀ x∈l,x.ok=true
theorem zGz:∀ {l:List Tm} {x:Tm},zC3 l=true->x∈l->x.ok=true
 | t::ts,x,h,hx=>by
   simp only [zC3,oL] at h
   rcases oG.1 hx with rfl | hx
   ·exact h.1
   ·exact zGz h.2 hx
theorem zDe:∀ {l:List Tm} {n:Int} {x:Tm},uo l n=true->x∈l->x.lev n=true
 | t::ts,n,x,h,hx=>by
   simp only [uo,oL] at h
   rcases oG.1 hx with rfl | hx
   ·exact h.1
   ·exact zDe h.2 hx
theorem yU {k:Int} {nm ot:ByteArray} {n:Int} {ty re:Ty} {l:List Tm} (h:(Tm.mk k nm ot n ty re l).ok=true):Node k nm ot n ty re l:=by
 simp only [Tm.ok,oL] at h
 exact ⟨h.2.1,by simpa using h.2.2,fun x hx=>zGz h.1 hx⟩
theorem Node.vt {k n:Int} {nm ot:ByteArray} {ty re:Ty} {l:List Tm} (h:Node k nm ot n ty re l) (hk:k=6\/k=9):ty.valid=true:=by
 have:=h.f
 have e:zA7 k=true:=by rcases hk with rfl | rfl<;>rfl
 simp only [yG,oL,e] at this
 simpa using this.1
theorem Node.vr {k n:Int} {nm ot:ByteArray} {ty re:Ty} {l:List Tm} (h:Node k nm ot n ty re l) (hk:k=9):re.valid=true:=by
 have:=h.f
 subst hk
 simp only [yG,oL] at this
 simpa using this.2.2.1
theorem zA6 {k:Int} {nm:ByteArray} (h:0<=zFf k nm):k=1\/k=2\/k=3\/k=4\/k=5\/k=6\/k=7\/k=8\/k=9\/k=10\/k=11\/k=12\/k=13:=by
 unfold zFf at h
 (repeat' split at h)<;>omega
theorem Ty.cnt_pos (t:Ty):1<=t.cnt:=by cases t;simp only [Ty.cnt];omega
theorem Pre.sub {g g':List Tg} {k:Int} {nm ot:ByteArray} {m:Int} {ty re:Ty} {l:List Tm} {n:Int} {x:Tm} (h:Pre g (.mk k nm ot m ty re l) n) (hx:x∈l) (hl:g'.length<=g.length+2) (ht:∀ y∈g',y.ty.cnt<=64):Pre g' x (zr k n):=by
 have h1:=h.len
 have h2:=yu hx
 have h3:=ty.cnt_pos
 have h4:=re.cnt_pos
 simp only [Tm.cnt] at h1
 refine ⟨(yU h.ok).sub x hx,?_,by omega,ht⟩
 have:=h.lev
 simp only [Tm.lev,oL] at this
 exact zDe this.2 hx
theorem Pre.lv {g:List Tg} {e:Tm} {n:Int} (h:Pre g e n):0<=n/\n<=2:=by
 have:=h.lev
 cases e
 simp only [Tm.lev,oL] at this
 exact xl.1 this.1
theorem tF {g:List Tg} (h:∀ y∈g,y.ty.cnt<=64) {x:Tg} (hx:x.ty.cnt<=64):∀ y∈g++[x],y.ty.cnt<=64:=fun y hy=>by
 rcases oK.1 hy with hy | hy
 ·exact h y hy
 ·rw [oh] at hy;subst hy;exact hx
theorem zDo (e:Tm) (g:List Tg) (n:Int):((e.type g n).getD tZero).cnt<=30:=by
 cases h:e.type g n with
 | none=>simp [tZero,Ty.cnt,zI]
 | some t=>simpa using Ty.valid_cnt (Tm.type_valid h)
/-- returns this type and true, or the zero type and false -/
def zOe (f:FuncId) (args:List PV) (o:Option Ty):Prop:=∀ (N:Nat) (Q:QT [.ag 2,.bool]),(∀ d N',N<=N'->(o.getD tZero).Is d->Q d o.isSome N')->ACalls prog f [.ag 2,.bool] args N Q
/-- returns this type and true, or false -/
def zOj (f:FuncId) (args:List PV) (o:Option Ty):Prop:=∀ (N:Nat) (Q:QT [.ag 2,.bool]),(∀ d N',N<=N'->(∀ t,o=some t->t.Is d)->Q d o.isSome N')->ACalls prog f [.ag 2,.bool] args N Q
def IH (l:List Tm):Prop:=∀ x∈l,∀ d,x.Is d->∀ g es a c n,Pre g x n->Ctx g es->zOe 97 [.sv a 4 es c,.dg 9 d,.int .i64 n] (x.type g n)
theorem zNR {nm ot:ByteArray} {m n:Int} {ty re:Ty} {e0:Tm} {t0 t1 r0 r1 d0:D} {a1 a:Option Addr} {c1 c:Nat} {g:List Tg} {es:List D} (ih:IH [e0]) (hh:Tm.Hd nm ot ty re t0 t1 r0 r1) (h0:e0.Is d0)
  (pre:Pre g (.mk 6 nm ot m ty re [e0]) n) (ctx:Ctx g es) :
  zOj 216 [.sv a 4 es c,.dg 9 (.ag [.lit (.int .i64 6),.lit (.string nm),.lit (.string ot),.lit (.int .i64 m),t0,t1,r0,r1,.sl a1 9 [d0] c1]),.int .i64 n] (match e0.type (g++[⟨nm,ty,n⟩]) n with | some b=>some (wQ ty b) | none=>none):=fun N Q hQ=>by
 have hlen:=pre.len
 have hv:=Ty.valid_cnt ((yU pre.ok).vt (.inl rfl))
 have hp:Pre (g++[⟨nm,ty,n⟩]) e0 n:=by simpa [zr] using pre.sub (x:=e0) (by simp) (g':=g++[⟨nm,ty,n⟩]) (by simp) (tF pre.ty (show ty.cnt<=64 by omega))
 have hc:=zDo e0 (g++[⟨nm,ty,n⟩]) n
 refine uX N a es c _ n Q fun _ _=>?_
 repeat' first|with_reducible intro _|simp only[oN,oP,Y1,Y2,Y3,Y4]|with_reducible refine X ?_ ?_|refine⟨_,_,_,rfl,?_⟩|refine⟨_,rfl,?_⟩|refine And.intro (by first|omega|trivial|(show _=_;rfl)|(with_reducible constructor)<;>first|omega|trivial|rfl) ?_|refine (z5 ctx (by omega) a c hh.nm hh.ty n) _ _ ?_|refine (ih e0 nV d0 h0 (g++[⟨nm,ty,n⟩]) _ _ _ n hp (by assumption)) _ _ ?_|refine (yX ty ((e0.type (g++[⟨nm,ty,n⟩]) n).getD tZero) _ _ hh.ty (by assumption) (by omega) (by omega)) _ _ ?_|fail
 all_goals first | (exfalso;omega) | skip
 rename_i x1 N6 hN6 hx1 ho _ _ N7 hN7
 cases h:e0.type (g++[⟨nm,ty,n⟩]) n with
 | none=>rw [h] at hQ;exact hQ _ _ (by omega) (by simp)
 | some b=>rw [h] at hQ hx1;exact hQ _ _ (by omega) (by simpa using hx1)
theorem zNS {nm ot:ByteArray} {m n:Int} {ty re:Ty} {e0 e1:Tm} {t0 t1 r0 r1 d0 d1:D} {a1 a:Option Addr} {c1 c:Nat} {g:List Tg} {es:List D} (ih:IH [e0,e1]) (hh:Tm.Hd nm ot ty re t0 t1 r0 r1) (h0:e0.Is d0) (h1:e1.Is d1)
  (pre:Pre g (.mk 8 nm ot m ty re [e0,e1]) n) (ctx:Ctx g es) :
  zOj 216 [.sv a 4 es c,.dg 9 (.ag [.lit (.int .i64 8),.lit (.string nm),.lit (.string ot),.lit (.int .i64 m),t0,t1,r0,r1,.sl a1 9 [d0,d1] c1]),.int .i64 n] (match e0.type g n with | some b=>e1.type (g++[⟨nm,b,n⟩]) n | none=>none):=fun N Q hQ=>by
 have hlen:=pre.len
 have hp:Pre g e0 n:=by simpa [zr] using pre.sub (x:=e0) (by simp) (g':=g) (by simp) pre.ty
 have hc:=zDo e0 g n
 have ih0:=ih e0 nV d0 h0 g es a c n hp ctx
 refine uX N a es c _ n Q fun _ _=>?_
 cases h:e0.type g n with
 | none=>
   rw [h] at hQ ih0
   repeat' first|with_reducible intro _|simp only[oN,oP,mC,Y1,Y2,Y3,Y4]|with_reducible refine X ?_ ?_|refine⟨_,_,_,rfl,?_⟩|refine⟨_,rfl,?_⟩|refine And.intro (by first|omega|trivial|(show _=_;rfl)|(with_reducible constructor)<;>first|omega|trivial|rfl) ?_|refine ih0 _ _ ?_|fail
   all_goals first | (exfalso;omega) | skip
   exact hQ _ _ (by omega) (by simp)
 | some b=>
   rw [h] at hQ hc ih0
   dsimp only at hQ
   have hp1:Pre (g++[⟨nm,b,n⟩]) e1 n:=by simpa [zr] using pre.sub (x:=e1) (by simp) (g':=g++[⟨nm,b,n⟩]) (by simp) (tF pre.ty (by simpa using oW hc (by omega)))
   repeat' first|with_reducible intro _|simp only[oN,oP,mF,Y1,Y2,Y3,Y4]|with_reducible refine X ?_ ?_|refine⟨_,_,_,rfl,?_⟩|refine⟨_,rfl,?_⟩|refine And.intro (by first|omega|trivial|(show _=_;rfl)|(with_reducible constructor)<;>first|omega|trivial|rfl) ?_|refine ih0 _ _ ?_|refine (z5 ctx (by omega) a c hh.nm (t:=b) (by assumption) n) _ _ ?_|refine (ih e1 (by simp) d1 h1 (g++[⟨nm,b,n⟩]) _ _ _ n hp1 (by assumption)) _ _ ?_|fail
   all_goals first | (exfalso;omega) | skip
   rename_i hx _ _ _ _
   refine hQ _ _ (by omega) fun t ht=>?_
   rw [ht] at hx
   exact hx
theorem zNo {nm ot:ByteArray} {m n:Int} {ty re:Ty} {e0:Tm} {t0 t1 r0 r1 d0:D} {a1 a:Option Addr} {c1 c:Nat} {g:List Tg} {es:List D} (ih:IH [e0]) (hh:Tm.Hd nm ot ty re t0 t1 r0 r1) (h0:e0.Is d0)
  (pre:Pre g (.mk 9 nm ot m ty re [e0]) n) (ctx:Ctx g es) :
  zOj 216 [.sv a 4 es c,.dg 9 (.ag [.lit (.int .i64 9),.lit (.string nm),.lit (.string ot),.lit (.int .i64 m),t0,t1,r0,r1,.sl a1 9 [d0] c1]),.int .i64 n]
   (match e0.type ((g++[⟨nm,wQ ty re,n⟩])++[⟨ot,ty,n⟩]) n with | some b=>if uN b re then some (wQ ty re) else none | none=>none):=fun N Q hQ=>by
 have hlen:=pre.len
 have hv:=Ty.valid_cnt ((yU pre.ok).vt (.inr rfl))
 have hr:=Ty.valid_cnt ((yU pre.ok).vr rfl)
 have hg1:=tF (x:=⟨nm,wQ ty re,n⟩) pre.ty (show (wQ ty re).cnt<=64 by simp only [wQ,Ty.cnt,zI];omega)
 have hp:=pre.sub (x:=e0) (by simp) (g':=(g++[⟨nm,wQ ty re,n⟩])++[⟨ot,ty,n⟩]) (by simp) (tF hg1 (show ty.cnt<=64 by omega))
 rw [show zr 9 n=n by simp [zr]] at hp
 have h1c:1<=(Tm.mk 9 nm ot m ty re [e0]).cnt:=by simp only [Tm.cnt];omega
 have hgl:(g++[⟨nm,wQ ty re,n⟩]:List Tg).length<=1073741824:=by rw [oH,nK];omega
 have ih0:∀ es a c,Ctx ((g++[⟨nm,wQ ty re,n⟩])++[⟨ot,ty,n⟩]) es->zOe 97 [.sv a 4 es c,.dg 9 d0,.int .i64 n] (e0.type ((g++[⟨nm,wQ ty re,n⟩])++[⟨ot,ty,n⟩]) n):=fun es a c hc=>ih e0 nV d0 h0 _ es a c n hp hc
 refine uX N a es c _ n Q fun _ _=>?_
 cases h:e0.type ((g++[⟨nm,wQ ty re,n⟩])++[⟨ot,ty,n⟩]) n with
 | none=>
   rw [h] at hQ ih0
   dsimp only at hQ
   repeat' first|with_reducible intro _|simp only[oN,oP,mC,Y1,Y2,Y3,Y4]|with_reducible refine X ?_ ?_|refine⟨_,_,_,rfl,?_⟩|refine⟨_,rfl,?_⟩|refine And.intro (by first|omega|trivial|(show _=_;rfl)|(with_reducible constructor)<;>first|omega|trivial|rfl) ?_|refine (yX ty re _ _ hh.ty hh.re (by omega) (by omega)) _ _ ?_|refine (z5 ctx (by omega) a c hh.nm (t:=wQ ty re) (by assumption) n) _ _ ?_|refine (z5 (g:=g++[⟨nm,wQ ty re,n⟩]) (by assumption) hgl _ _ hh.ot hh.ty n) _ _ ?_|refine (ih0 _ _ _ (by assumption)) _ _ ?_|fail
   all_goals first | (exfalso;omega) | skip
   exact hQ _ _ (by omega) (by simp)
 | some b=>
   rw [h] at hQ ih0
   dsimp only at hQ
   repeat' first|with_reducible intro _|simp only[oN,oP,mF,Y1,Y2,Y3,Y4]|with_reducible refine X ?_ ?_|refine⟨_,_,_,rfl,?_⟩|refine⟨_,rfl,?_⟩|refine And.intro (by first|omega|trivial|(show _=_;rfl)|(with_reducible constructor)<;>first|omega|trivial|rfl) ?_|refine (yX ty re _ _ hh.ty hh.re (by omega) (by omega)) _ _ ?_|refine (z5 ctx (by omega) a c hh.nm (t:=wQ ty re) (by assumption) n) _ _ ?_|refine (z5 (g:=g++[⟨nm,wQ ty re,n⟩]) (by assumption) hgl _ _ hh.ot hh.ty n) _ _ ?_|refine (ih0 _ _ _ (by assumption)) _ _ ?_|refine (yd b re _ _ (by assumption) hh.re) _ _ ?_|fail
   all_goals first | (exfalso;omega) | skip
   cases he:uN b re with
   | false=>rw [he] at hQ;exact hQ _ _ (by omega) (by simp)
   | true=>rw [he] at hQ;exact hQ _ _ (by omega) fun t ht=>by cases ht;assumption
/-- code, splices, runs and lifts -/
theorem zNA {k:Int} {nm ot:ByteArray} {m n:Int} {ty re:Ty} {e0:Tm} {t0 t1 r0 r1 d0:D} {a1 a:Option Addr} {c1 c:Nat} {g:List Tg} {es:List D} (hk:k=10\/k=11\/k=12\/k=13) (ih:IH [e0]) (h0:e0.Is d0)
  (pre:Pre g (.mk k nm ot m ty re [e0]) n) (ctx:Ctx g es) :
  zOj 217 [.sv a 4 es c,.dg 9 (.ag [.lit (.int .i64 k),.lit (.string nm),.lit (.string ot),.lit (.int .i64 m),t0,t1,r0,r1,.sl a1 9 [d0] c1]),.int .i64 n]
   (match e0.type (if k=12 then xA g n else g) (zr k n) with | some t=>yW k t | none=>none):=fun N Q hQ=>by
 have hlen:=pre.len
 have hsub:=sR g n g 0
 have hp:=pre.sub (x:=e0) (by simp) (g':=if k=12 then xA g n else g) (by split<;>simp [xA];omega) (by split;exact fun y hy=>pre.ty y (hsub.1 y hy);exact pre.ty)
 have ih0:∀ es a c,Ctx (if k=12 then xA g n else g) es->zOe 97 [.sv a 4 es c,.dg 9 d0,.int .i64 (zr k n)] (e0.type (if k=12 then xA g n else g) (zr k n)):=fun es a c hc=>ih e0 nV d0 h0 _ es a c _ hp hc
 have hc2:∀ x∈g,x.ty.cnt<=1073741824:=fun x hx=>oW (pre.ty x hx) (by omega)
 refine zCc N a es c _ n Q fun _ _=>?_
 cases h:e0.type (if k=12 then xA g n else g) (zr k n) with
 | none=>
   rw [h] at hQ ih0
   dsimp only at hQ
   repeat' first|with_reducible intro _|simp only[oN,oP,mC,Y1,Y2,Y3,Y4]|with_reducible refine X ?_ ?_|refine⟨_,_,_,rfl,?_⟩|refine⟨_,rfl,?_⟩|refine And.intro (by first|omega|trivial|(show _=_;rfl)|(with_reducible constructor)<;>first|omega|trivial|rfl) ?_|refine (wW ctx (by omega) hc2 a c n) _ _ ?_|refine (uf pre.lv) _ _ ?_|refine (ih0 _ _ _ (by first | (rw [if_pos (by assumption)];assumption) | (rw [if_neg (by assumption)];assumption))) _ _ ?_|fail
   all_goals first | (exfalso;omega) | skip
   all_goals exact hQ _ _ (by omega) (by simp)
 | some t=>
   have hv:=Tm.type_valid h
   rw [h] at hQ ih0
   dsimp only at hQ
   cases t with
   | mk k0 l0=>
   have hf:=Ty.form_len hv
   have hcn:=Ty.valid_cnt hv
   repeat' first|with_reducible intro _|simp only[oN,oP,mF,Y1,Y2,Y3,Y4]|with_reducible refine X ?_ ?_|refine⟨_,_,_,rfl,?_⟩|refine⟨_,rfl,?_⟩|refine And.intro (by first|omega|trivial|(show _=_;rfl)|(with_reducible constructor)<;>first|omega|trivial|rfl) ?_|refine (wW ctx (by omega) hc2 a c n) _ _ ?_|refine (uf pre.lv) _ _ ?_|refine (ih0 _ _ _ (by first | (rw [if_pos (by assumption)];assumption) | (rw [if_neg (by assumption)];assumption))) _ _ ?_|refine (yY (.mk k0 l0) _ (by assumption) (by omega)) _ _ ?_|refine (uR (.mk k0 l0) _ (by assumption)) _ _ ?_|fail
   all_goals first | (exfalso;omega) | skip
   ·rename_i hd _ _ h10 h13
    obtain ⟨a2,es2,c2,rfl,hl2,he2⟩:=Ty.is_mk.1 hd
    by_cases h4:k0=4
    ·subst h4
     have hl1:(l0.length:Int)=1:=by simpa [tO] using hf
     obtain ⟨u,rfl⟩:∃ u,l0=[u]:=by
      match l0,hl1 with
      | [u],_=>exact ⟨u,rfl⟩
      | [],h=>simp at h
      | _::_::_,h=>simp at h;omega
     obtain ⟨x0,_,rfl,hx0,rfl⟩:=he2
     simp only [Ty.cnt,zI] at hcn
     have hs:yW k (.mk 4 [u])=some u:=by simp [yW,h10,h13,Ty.k,Ty.as]
     rw [hs] at hQ
     repeat' first|with_reducible intro _|simp only[oN,oP,Y1,Y2,Y3,Y4]|with_reducible refine X ?_ ?_|refine⟨_,_,_,rfl,?_⟩|refine⟨_,rfl,?_⟩|refine And.intro (by first|omega|trivial|(show _=_;rfl)|(with_reducible constructor)<;>first|omega|trivial|rfl) ?_|refine (zJ u _ hx0 (by omega)) _ _ ?_|fail
     all_goals first | (exfalso;omega) | skip
     exact hQ _ _ (by omega) fun t ht=>by cases ht;assumption
    ·have hs:yW k (.mk k0 l0)=none:=by simp [yW,h10,h13,Ty.k,h4]
     rw [hs] at hQ
     repeat' first|with_reducible intro _|simp only[oN,oP,Y1,Y2,Y3,Y4]|with_reducible refine X ?_ ?_|refine⟨_,_,_,rfl,?_⟩|refine⟨_,rfl,?_⟩|refine And.intro (by first|omega|trivial|(show _=_;rfl)|(with_reducible constructor)<;>first|omega|trivial|rfl) ?_|fail
     all_goals first | (exfalso;omega) | skip
     exact hQ _ _ (by omega) (by simp)
   ·have hs:yW k (.mk k0 l0)=some (wg (.mk k0 l0)):=by rw [yW,if_pos (by assumption)]
    rw [hs] at hQ
    exact hQ _ _ (by omega) fun t ht=>by cases ht;assumption
   ·have hs:yW k (.mk k0 l0)=if (Ty.mk k0 l0).base then some (wg (.mk k0 l0)) else none:=by rw [yW,if_neg (by assumption),if_pos (by assumption)]
    rw [hs] at hQ
    cases hb:(Ty.mk k0 l0).base with
    | false=>rw [hb] at hQ;exact hQ _ _ (by omega) (by simp)
    | true=>rw [hb] at hQ;exact hQ _ _ (by omega) fun t ht=>by cases ht;assumption
   ·rename_i hd _ _ h10 h13
    obtain ⟨a2,es2,c2,rfl,hl2,he2⟩:=Ty.is_mk.1 hd
    by_cases h4:k0=4
    ·subst h4
     have hl1:(l0.length:Int)=1:=by simpa [tO] using hf
     obtain ⟨u,rfl⟩:∃ u,l0=[u]:=by
      match l0,hl1 with
      | [u],_=>exact ⟨u,rfl⟩
      | [],h=>simp at h
      | _::_::_,h=>simp at h;omega
     obtain ⟨x0,_,rfl,hx0,rfl⟩:=he2
     simp only [Ty.cnt,zI] at hcn
     have hs:yW k (.mk 4 [u])=some u:=by simp [yW,h10,h13,Ty.k,Ty.as]
     rw [hs] at hQ
     repeat' first|with_reducible intro _|simp only[oN,oP,Y1,Y2,Y3,Y4]|with_reducible refine X ?_ ?_|refine⟨_,_,_,rfl,?_⟩|refine⟨_,rfl,?_⟩|refine And.intro (by first|omega|trivial|(show _=_;rfl)|(with_reducible constructor)<;>first|omega|trivial|rfl) ?_|refine (zJ u _ hx0 (by omega)) _ _ ?_|fail
     all_goals first | (exfalso;omega) | skip
     exact hQ _ _ (by omega) fun t ht=>by cases ht;assumption
    ·have hs:yW k (.mk k0 l0)=none:=by simp [yW,h10,h13,Ty.k,h4]
     rw [hs] at hQ
     repeat' first|with_reducible intro _|simp only[oN,oP,Y1,Y2,Y3,Y4]|with_reducible refine X ?_ ?_|refine⟨_,_,_,rfl,?_⟩|refine⟨_,rfl,?_⟩|refine And.intro (by first|omega|trivial|(show _=_;rfl)|(with_reducible constructor)<;>first|omega|trivial|rfl) ?_|fail
     all_goals first | (exfalso;omega) | skip
     exact hQ _ _ (by omega) (by simp)
/-- the type of a term ahead of the test that it is valid -/
def Tm.raw:Tm->List Tg->Int->Option Ty
 | .mk k nm ot _ ty re l,g,n=>
   if k=1 then xB g nm n
   else if k=2 then some tInt
   else if k=3 then some tBool
   else if k=6 then (match xZ l 0 (g++[⟨nm,ty,n⟩]) n with | some b=>some (wQ ty b) | none=>none)
   else if k=8 then (match xZ l 0 g n with | some a=>xZ l 1 (g++[⟨nm,a,n⟩]) n | none=>none)
   else if k=9 then (match xZ l 0 ((g++[⟨nm,wQ ty re,n⟩])++[⟨ot,ty,n⟩]) n with | some b=>if uN b re then some (wQ ty re) else none | none=>none)
   else if k=10\/k=11\/k=12\/k=13 then (match xZ l 0 (if k=12 then xA g n else g) (zr k n) with | some t=>yW k t | none=>none)
   else (match zY l g n with | some ts=>y8 k nm ts | none=>none)
theorem Tm.type_eq (e:Tm) (g:List Tg) (n:Int):e.type g n=vld (e.raw g n):=by
 cases e;simp only [Tm.type,Tm.raw]<;>rfl
theorem zOM {a:Option Addr} {r:List D} {d:D} {N:Nat} (ha:ApA a r) (hb:vQ N [a]) (h:∀ x∈d.foot,x∈zE r\/N<=x):Off [a] d:=by
 intro a' ha' ad had hm
 rw [oh] at ha'
 subst ha'
 rcases h _ hm with h | h
 ·have:∀ r:List D,ad.block∈zE r->∃ d∈r,ad.block∈d.foot:=by
   intro r
   induction r with
   | nil=>intro h;simp [zE] at h
   | cons x r ih=>
     intro h
     simp only [zE,oK] at h
     rcases h with h | h
     ·exact ⟨x,by simp,h⟩
     ·obtain ⟨d,hd,hm⟩:=ih h
      exact ⟨d,by simp [hd],hm⟩
  obtain ⟨d',hd',hm'⟩:=this r h
  exact ha ad had d' hd' hm'
 ·have:=hb a' (by simp) ad had
  omega
theorem zKh {k:Int} {nm ot:ByteArray} {m n:Int} {ty re:Ty} {l:List Tm} {t0 t1 r0 r1:D} {es1:List D} {a1 a:Option Addr} {c1 c:Nat} {g:List Tg} {es:List D} (hk:k=4\/k=5\/k=7) (ih:IH l) (h0:All2 Tm.Is l es1) (hl1:es1.length<=4611686018427387904)
  (pre:Pre g (.mk k nm ot m ty re l) n) (ctx:Ctx g es) (N:Nat) (Q:QT [.ag 2,.bool]) (hQ:∀ d N',N<=N'->(∀ t,Tm.raw (.mk k nm ot m ty re l) g n=some t->t.Is d)->Q d (Tm.raw (.mk k nm ot m ty re l) g n).isSome N') :
  yc Q N a es c n 0 0 (0:Nat) (.ag [.lit (.int .i64 k),.lit (.string nm),.lit (.string ot),.lit (.int .i64 m),t0,t1,r0,r1,.sl a1 9 es1 c1]) 0 none [] 0 [] 0 N:=by
 have hlen:=pre.len
 have hcl:=wS l
 have hln:=h0.len
 have nd:=yU pre.ok
 simp only [Tm.cnt] at hlen
 have hraw:Tm.raw (.mk k nm ot m ty re l) g n=(match zY l g n with | some ts=>y8 k nm ts | none=>none):=by
  simp only [Tm.raw]
  rw [if_neg (by omega),if_neg (by omega),if_neg (by omega),if_neg (by omega),if_neg (by omega),if_neg (by omega),if_neg (by omega)]
 rw [hraw] at hQ
 refine up h0 hl1 (fun i xs=>∀ (r:List D) (q p:Nat) (N':Nat) (ts:List Ty),N<=N'->p=r.length->All2 Ty.Is ts r->ts.length=i->(∀ t∈ts,t.valid=true) ->
  zY l g n=(match zY xs g n with | some us=>some (ts++us) | none=>none) ->
  yc Q N a es c n p q i (.ag [.lit (.int .i64 k),.lit (.string nm),.lit (.string ot),.lit (.int .i64 m),t0,t1,r0,r1,.sl a1 9 es1 c1]) 0 none [] 0 r q N') ?_ ?_ [] 0 0 N [] (oF _) rfl rfl rfl (by simp) ?_
 ·intro i hlt hi r q p N' ts hN' hp hr hti hv hargs
  have hrl:=hr.len
  simp only [zY,nF] at hargs
  rw [hargs] at hQ
  dsimp only at hQ
  have hk2:k=4\/k=5/\ts.length=3\/k=7/\ts.length=2:=by
   have:=nd.ar
   rcases hk with rfl | rfl | rfl
   ·exact .inl rfl
   ·exact .inr (.inl ⟨rfl, by have:(l.length:Int)=3:=this
                              omega⟩)
   ·exact .inr (.inr ⟨rfl, by have:(l.length:Int)=2:=this
                              omega⟩)
  refine u6 _ _ _ _ _ _ _ _ _ _ _ _ _ _ _ _ _ ?_
  repeat' first|with_reducible intro _|simp only[hlt,Y1,Y2,Y3,Y4]|with_reducible refine X ?_ ?_|refine⟨_,_,_,rfl,?_⟩|refine⟨_,rfl,?_⟩|refine And.intro (by first|omega|trivial|(show _=_;rfl)|(with_reducible constructor)<;>first|omega|trivial|rfl) ?_|refine (zFO hr (by omega) _ _ hv hk2) _ _ ?_|fail
  rename_i a2 hap hoff N4 hN4 hba d b N5 hN5 ho hfo _
  refine ⟨zOM hap hba hfo,fun _ N6 hN6=>?_⟩
  cases h:y8 k nm ts with
  | none=>rw [h] at ho hQ;simp only [zJO] at ho;subst ho;exact hQ _ _ (by omega) (by simp)
  | some t=>rw [h] at ho hQ;obtain ⟨rfl,ho⟩:=ho;exact hQ _ _ (by omega) fun t ht=>by cases ht;exact ho
 ·intro i x xs hat _ ih2 r q p N' ts hN' hp hr hti hv hargs
  have hb:=hat.b
  have hrl:=hr.len
  have hpx:=pre.sub hat.m (g':=g) (by omega) pre.ty
  rw [show zr k n=n by simp only [zr];rw [if_neg (by omega),if_neg (by omega)]] at hpx
  have ih0:=ih x hat.m _ hat.r g es a c n hpx ctx
  simp only [zY] at hargs
  refine u6 _ _ _ _ _ _ _ _ _ _ _ _ _ _ _ _ _ ?_
  cases h:x.type g n with
  | none=>
    rw [h] at ih0 hargs
    dsimp only at hargs
    rw [hargs] at hQ
    repeat' first|with_reducible intro _|simp only[hat.lt,hat.w,oM,mC,Y1,Y2,Y3,Y4]|with_reducible refine X ?_ ?_|refine⟨_,_,_,rfl,?_⟩|refine⟨_,rfl,?_⟩|refine And.intro (by first|omega|trivial|(show _=_;rfl)|(with_reducible constructor)<;>first|omega|trivial|rfl) ?_|refine ih0 _ _ ?_|fail
    all_goals first | (exfalso;omega) | skip
    exact hQ _ _ (by omega) (by simp)
  | some t=>
    have hvt:=Tm.type_valid h
    rw [h] at ih0 hargs
    dsimp only at hargs
    repeat' first|with_reducible intro _|simp only[hat.lt,hat.w,oM,mF,Y1,Y2,Y3,Y4]|with_reducible refine X ?_ ?_|refine⟨_,_,_,rfl,?_⟩|refine⟨_,rfl,?_⟩|refine And.intro (by first|omega|trivial|(show _=_;rfl)|(with_reducible constructor)<;>first|omega|trivial|rfl) ?_|refine ih0 _ _ ?_|fail
    all_goals first | (exfalso;omega) | skip
    rename_i N2 hN2 d N3 hN3 hd _ _
    refine ⟨by unfold zA;simp only [oH,nK];omega,fun c2=>ih2 _ _ _ _ (ts++[t]) (by omega) rfl (hr.snoc hd) (by simp [hti]) (fun u hu=>?_) ?_⟩
    ·rcases oK.1 hu with hu | hu
     ·exact hv u hu
     ·rw [oh] at hu;subst hu;exact hvt
    ·rw [hargs];cases zY xs g n<;>simp
 ·cases zY l g n<;>simp
theorem p6 {α:Type} {l:List α} (h:l.length=1):∃ a,l=[a]:=by
 match l,h with
 | [a],_=>exact ⟨a,rfl⟩
theorem zIU {α:Type} {l:List α} (h:l.length=2):∃ a b,l=[a,b]:=by
 match l,h with
 | [a,b],_=>exact ⟨a,b,rfl⟩
theorem zEj {e:Tm} {d:D} (he:e.Is d) (ih:match e with | .mk _ _ _ _ _ _ l=>IH l) {g:List Tg} {es:List D} {a:Option Addr} {c:Nat} {n:Int} (pre:Pre g e n) (ctx:Ctx g es) :
  zOj 167 [.sv a 4 es c,.dg 9 d,.int .i64 n] (e.raw g n):=fun N Q hQ=>by
 cases e with
 | mk k nm ot m ty re l=>
 dsimp only at ih
 obtain ⟨t0,t1,r0,r1,a1,es1,c1,rfl,hh,hlen1,hes1⟩:=Tm.is_mk.1 he
 have hl:=hes1.len
 have hl2:=ctx.all.len
 have nd:=yU pre.ok
 have har:=nd.ar
 have hkk:=zA6 (k:=k) (nm:=nm) (by omega)
 refine zET N a es c _ n Q fun _ _=>?_
 rcases hkk with rfl | rfl | rfl | h | h | rfl | h | rfl | rfl | h | h | h | h
 ·-- a variable
  have hraw:Tm.raw (.mk 1 nm ot m ty re l) g n=xB g nm n:=by simp [Tm.raw]
  rw [hraw] at hQ
  rcases uF g nm g.length with hlx | hlx
  ·have hlx:zC g nm = -1:=hlx
   have:xB g nm n=none:=by simp [xB,hlx]
   rw [this] at hQ
   repeat' first|with_reducible intro _|simp only[hlx,Y1,Y2,Y3,Y4]|with_reducible refine X ?_ ?_|refine⟨_,_,_,rfl,?_⟩|refine⟨_,rfl,?_⟩|refine And.intro (by first|omega|trivial|(show _=_;rfl)|(with_reducible constructor)<;>first|omega|trivial|rfl) ?_|refine (wx ctx a c nm) _ _ ?_|fail
   all_goals first | (exfalso;omega) | skip
   exact hQ _ _ (by omega) (by simp)
  ·have hlx:0<=zC g nm/\zC g nm<g.length:=hlx
   have hg:g[(zC g nm).toNat]?=some g[(zC g nm).toNat]:=oD (by omega)
   have hx:=ctx.all.get hg
   have hgd:g.getD (zC g nm).toNat tg0=g[(zC g nm).toNat]:=zCD hg
   obtain ⟨u0,u1,hd,hs,ht⟩:=hx
   have hm:g[(zC g nm).toNat]∈g:=nk _
   have hcn:=pre.ty _ hm
   have:xB g nm n=if g[(zC g nm).toNat].lv=n then some g[(zC g nm).toNat].ty else none:=by
    rw [xB,if_neg (by omega),hgd]
   rw [this] at hQ
   generalize g[(zC g nm).toNat]=x at *
   repeat' first|with_reducible intro _|simp only[hd,Y1,Y2,Y3,Y4]|with_reducible refine X ?_ ?_|refine⟨_,_,_,rfl,?_⟩|refine⟨_,rfl,?_⟩|refine And.intro (by first|omega|trivial|(show _=_;rfl)|(with_reducible constructor)<;>first|omega|trivial|rfl) ?_|refine (wx ctx a c nm) _ _ ?_|refine (zJ _ _ ht (by omega)) _ _ ?_|fail
   all_goals first | (exfalso;omega) | skip
   ·rw [if_neg (by assumption)] at hQ;exact hQ _ _ (by omega) (by simp)
   ·rw [if_pos (by assumption)] at hQ;exact hQ _ _ (by omega) fun t ht=>by cases ht;assumption
 ·have hraw:Tm.raw (.mk 2 nm ot m ty re l) g n=some tInt:=by simp [Tm.raw]
  rw [hraw] at hQ
  repeat' first|with_reducible intro _|simp only[Y1,Y2,Y3,Y4]|with_reducible refine X ?_ ?_|refine⟨_,_,_,rfl,?_⟩|refine⟨_,rfl,?_⟩|refine And.intro (by first|omega|trivial|(show _=_;rfl)|(with_reducible constructor)<;>first|omega|trivial|rfl) ?_|refine yz _ _ ?_|fail
  all_goals first | (exfalso;omega) | skip
  exact hQ _ _ (by omega) fun t ht=>by cases ht;assumption
 ·have hraw:Tm.raw (.mk 3 nm ot m ty re l) g n=some tBool:=by simp [Tm.raw]
  rw [hraw] at hQ
  repeat' first|with_reducible intro _|simp only[Y1,Y2,Y3,Y4]|with_reducible refine X ?_ ?_|refine⟨_,_,_,rfl,?_⟩|refine⟨_,rfl,?_⟩|refine And.intro (by first|omega|trivial|(show _=_;rfl)|(with_reducible constructor)<;>first|omega|trivial|rfl) ?_|refine y7 _ _ ?_|fail
  all_goals first | (exfalso;omega) | skip
  exact hQ _ _ (by omega) fun t ht=>by cases ht;assumption
 ·have hk:k=4\/k=5\/k=7:=by omega
  have:=zKh hk ih hes1 hlen1 pre ctx (a:=a) (c:=c) (t0:=t0) (t1:=t1) (r0:=r0) (r1:=r1) (a1:=a1) (c1:=c1) N Q hQ
  repeat' first|with_reducible intro _|simp only[Y1,Y2,Y3,Y4]|with_reducible refine X ?_ ?_|refine⟨_,_,_,rfl,?_⟩|refine⟨_,rfl,?_⟩|refine And.intro (by first|omega|trivial|(show _=_;rfl)|(with_reducible constructor)<;>first|omega|trivial|rfl) ?_|fail
  all_goals first | (exfalso;omega) | exact this
 ·have hk:k=4\/k=5\/k=7:=by omega
  have:=zKh hk ih hes1 hlen1 pre ctx (a:=a) (c:=c) (t0:=t0) (t1:=t1) (r0:=r0) (r1:=r1) (a1:=a1) (c1:=c1) N Q hQ
  repeat' first|with_reducible intro _|simp only[Y1,Y2,Y3,Y4]|with_reducible refine X ?_ ?_|refine⟨_,_,_,rfl,?_⟩|refine⟨_,rfl,?_⟩|refine And.intro (by first|omega|trivial|(show _=_;rfl)|(with_reducible constructor)<;>first|omega|trivial|rfl) ?_|fail
  all_goals first | (exfalso;omega) | exact this
 ·have h1 : l.length = 1 := by have:(l.length:Int)=1:=har
                               omega
  obtain ⟨e0,rfl⟩:=p6 h1
  obtain ⟨d0,_,rfl,h0,rfl⟩:=hes1
  have hraw:Tm.raw (.mk 6 nm ot m ty re [e0]) g n=(match e0.type (g++[⟨nm,ty,n⟩]) n with | some b=>some (wQ ty b) | none=>none):=by simp [Tm.raw,xZ]
  rw [hraw] at hQ
  repeat' first|with_reducible intro _|simp only[Y1,Y2,Y3,Y4]|with_reducible refine X ?_ ?_|refine⟨_,_,_,rfl,?_⟩|refine⟨_,rfl,?_⟩|refine And.intro (by first|omega|trivial|(show _=_;rfl)|(with_reducible constructor)<;>first|omega|trivial|rfl) ?_|refine (zNR ih hh h0 pre ctx) _ _ ?_|fail
  all_goals first | (exfalso;omega) | skip
  exact hQ _ _ (by omega) (by assumption)
 ·have hk:k=4\/k=5\/k=7:=by omega
  have:=zKh hk ih hes1 hlen1 pre ctx (a:=a) (c:=c) (t0:=t0) (t1:=t1) (r0:=r0) (r1:=r1) (a1:=a1) (c1:=c1) N Q hQ
  repeat' first|with_reducible intro _|simp only[Y1,Y2,Y3,Y4]|with_reducible refine X ?_ ?_|refine⟨_,_,_,rfl,?_⟩|refine⟨_,rfl,?_⟩|refine And.intro (by first|omega|trivial|(show _=_;rfl)|(with_reducible constructor)<;>first|omega|trivial|rfl) ?_|fail
  all_goals first | (exfalso;omega) | exact this
 ·have h1 : l.length = 2 := by have:(l.length:Int)=2:=har
                               omega
  obtain ⟨e0,e1,rfl⟩:=zIU h1
  obtain ⟨d0,_,rfl,h0,d1,_,rfl,h1,rfl⟩:=hes1
  have hraw:Tm.raw (.mk 8 nm ot m ty re [e0,e1]) g n=(match e0.type g n with | some b=>e1.type (g++[⟨nm,b,n⟩]) n | none=>none):=by simp [Tm.raw,xZ]
  rw [hraw] at hQ
  repeat' first|with_reducible intro _|simp only[Y1,Y2,Y3,Y4]|with_reducible refine X ?_ ?_|refine⟨_,_,_,rfl,?_⟩|refine⟨_,rfl,?_⟩|refine And.intro (by first|omega|trivial|(show _=_;rfl)|(with_reducible constructor)<;>first|omega|trivial|rfl) ?_|refine (zNS ih hh h0 h1 pre ctx) _ _ ?_|fail
  all_goals first | (exfalso;omega) | skip
  exact hQ _ _ (by omega) (by assumption)
 ·have h1 : l.length = 1 := by have:(l.length:Int)=1:=har
                               omega
  obtain ⟨e0,rfl⟩:=p6 h1
  obtain ⟨d0,_,rfl,h0,rfl⟩:=hes1
  have hraw:Tm.raw (.mk 9 nm ot m ty re [e0]) g n=(match e0.type ((g++[⟨nm,wQ ty re,n⟩])++[⟨ot,ty,n⟩]) n with | some b=>if uN b re then some (wQ ty re) else none | none=>none):=by simp only [Tm.raw,xZ];rfl
  rw [hraw] at hQ
  repeat' first|with_reducible intro _|simp only[Y1,Y2,Y3,Y4]|with_reducible refine X ?_ ?_|refine⟨_,_,_,rfl,?_⟩|refine⟨_,rfl,?_⟩|refine And.intro (by first|omega|trivial|(show _=_;rfl)|(with_reducible constructor)<;>first|omega|trivial|rfl) ?_|refine (zNo ih hh h0 pre ctx) _ _ ?_|fail
  all_goals first | (exfalso;omega) | skip
  exact hQ _ _ (by omega) (by assumption)
 all_goals
  have h1:l.length=1:=by
   have hk:k=10\/k=11\/k=12\/k=13:=by omega
   have:(l.length:Int)=1:=by rw [har];rcases hk with rfl | rfl | rfl | rfl<;>rfl
   omega
  obtain ⟨e0,rfl⟩:=p6 h1
  obtain ⟨d0,_,rfl,h0,rfl⟩:=hes1
  have hk:k=10\/k=11\/k=12\/k=13:=by omega
  have hraw:Tm.raw (.mk k nm ot m ty re [e0]) g n=(match e0.type (if k=12 then xA g n else g) (zr k n) with | some t=>yW k t | none=>none):=by
   simp only [Tm.raw,xZ]
   rw [if_neg (by omega),if_neg (by omega),if_neg (by omega),if_neg (by omega),if_neg (by omega),if_neg (by omega),if_pos hk]
  rw [hraw] at hQ
  repeat' first|with_reducible intro _|simp only[Y1,Y2,Y3,Y4]|with_reducible refine X ?_ ?_|refine⟨_,_,_,rfl,?_⟩|refine⟨_,rfl,?_⟩|refine And.intro (by first|omega|trivial|(show _=_;rfl)|(with_reducible constructor)<;>first|omega|trivial|rfl) ?_|refine (zNA hk ih h0 pre ctx) _ _ ?_|fail
  all_goals first | (exfalso;omega) | skip
  exact hQ _ _ (by omega) (by assumption)
theorem uV:∀ {l:List Tm} {i:Nat} {g:List Tg} {n:Int} {t:Ty},xZ l i g n=some t->t.valid=true
 | [],i,g,n,t,h=>by simp [xZ] at h
 | e::es,0,g,n,t,h=>by simp only [xZ] at h;exact Tm.type_valid h
 | e::es,i+1,g,n,t,h=>by simp only [xZ] at h;exact uV h
theorem zEu {l:List Ty} {m:Nat} (h:∀ t∈l,t.cnt<=m) (hm:1<=m) (i:Nat):(l.getD i tZero).cnt<=m:=by
 rw [oA]
 cases hi:l[i]? with
 | none=>simpa [tZero,Ty.cnt,zI] using hm
 | some t=>exact h t (oC hi)
theorem zMX (t:Ty) (i:Nat):(t.as.getD i tZero).cnt<=t.cnt:=by
 cases t with
 | mk k l=>exact zEu (l:=l) (fun u hu=>by have:=xX (l:=l) hu;simp only [Ty.cnt];omega) (by simp only [Ty.cnt];omega) i
theorem zNG {g:List Tg} {m:Nat} (h:∀ x∈g,x.ty.cnt<=m) (hm:1<=m) (i:Nat):(g.getD i tg0).ty.cnt<=m:=by
 rw [oA]
 cases hi:g[i]? with
 | none=>simpa [tg0,tZero,Ty.cnt,zI] using hm
 | some t=>exact h t (oC hi)
theorem zJE {k:Int} {s:ByteArray} {ts:List Ty} {t:Ty} (hv:∀ t∈ts,t.cnt<=64) (h:y8 k s ts=some t):t.cnt<=64:=by
 simp only [y8] at h
 split at h
 ·simp only [zM3] at h
  split at h
  ·cases h;unfold zCG;(repeat' split)<;>simp [tInt,tBool,Ty.cnt,zI]
  ·cases h
 ·split at h
  ·split at h
   ·cases h;exact zEu hv (by omega) _
   ·cases h
  ·split at h
   ·cases h;exact oW (zMX _ _) (zEu hv (by omega) _)
   ·cases h
theorem zHA {k:Int} {u t:Ty} (hv:u.cnt<=30) (h:yW k u=some t):t.cnt<=64:=by
 have h1:(wg u).cnt<=64:=by simp only [wg,Ty.cnt,zI];omega
 have h2:=zMX u 0
 simp only [yW] at h
 (repeat' split at h)<;>cases h<;>first | exact h1 | omega
theorem zK0 {e:Tm} {g:List Tg} {n:Int} {t:Ty} (pre:Pre g e n) (h:e.raw g n=some t):t.cnt<=64:=by
 cases e with
 | mk k nm ot m ty re l=>
 have nd:=yU pre.ok
 simp only [Tm.raw] at h
 split at h
 ·simp only [xB] at h
  (repeat' split at h)<;>cases h
  exact zNG pre.ty (by omega) _
 split at h
 ·cases h;simp [tInt,Ty.cnt,zI]
 split at h
 ·cases h;simp [tBool,Ty.cnt,zI]
 split at h
 ·rename_i h6
  have hv:=Ty.valid_cnt (nd.vt (.inl h6))
  split at h
  ·rename_i b hb
   have:=Ty.valid_cnt (uV hb)
   cases h;simp only [wQ,Ty.cnt,zI];omega
  ·cases h
 split at h
 ·split at h
  ·have:=Ty.valid_cnt (uV h);omega
  ·cases h
 split at h
 ·rename_i h9
  have hv:=Ty.valid_cnt (nd.vt (.inr h9))
  have hr:=Ty.valid_cnt (nd.vr h9)
  split at h
  ·split at h
   ·cases h;simp only [wQ,Ty.cnt,zI];omega
   ·cases h
  ·cases h
 split at h
 ·split at h
  ·rename_i b hb
   exact zHA (Ty.valid_cnt (uV hb)) h
  ·cases h
 ·split at h
  ·rename_i ts hts
   exact zJE (fun u hu=>oW (Ty.valid_cnt ((zDI hts).2 u hu)) (by omega)) h
  ·cases h
theorem yM:tZero.Is (.ag [.lit (.int .i64 0),.sl none 2 [] 0]):=yv 0
theorem zFZ:∀ (e:Tm),∀ d,e.Is d->∀ g es a c n,Pre g e n->Ctx g es->zOe 97 [.sv a 4 es c,.dg 9 d,.int .i64 n] (e.type g n):=by
 refine Tm.ind fun k nm ot m ty re l ih d hd g es a c n pre ctx N Q hQ=>?_
 have hs:=zEj (a:=a) (c:=c) hd ih pre ctx
 rw [Tm.type_eq] at hQ
 refine zE6 N a es c _ n Q fun _ _=>?_
 cases h:Tm.raw (.mk k nm ot m ty re l) g n with
 | none=>
   rw [h] at hs hQ
   repeat' first|with_reducible intro _|simp only[mC,Y1,Y2,Y3,Y4]|with_reducible refine X ?_ ?_|refine⟨_,_,_,rfl,?_⟩|refine⟨_,rfl,?_⟩|refine And.intro (by first|omega|trivial|(show _=_;rfl)|(with_reducible constructor)<;>first|omega|trivial|rfl) ?_|refine hs _ _ ?_|fail
   all_goals first | (exfalso;omega) | skip
   exact hQ _ _ (by omega) yM
 | some t=>
   have hc:=zK0 pre h
   rw [h] at hs hQ
   simp only [vld] at hQ
   cases hv:t.valid with
   | false=>
     rw [hv] at hQ
     repeat' first|with_reducible intro _|simp only[mF,hv,Y1,Y2,Y3,Y4]|with_reducible refine X ?_ ?_|refine⟨_,_,_,rfl,?_⟩|refine⟨_,rfl,?_⟩|refine And.intro (by first|omega|trivial|(show _=_;rfl)|(with_reducible constructor)<;>first|omega|trivial|rfl) ?_|refine hs _ _ ?_|refine (zo t _ (by rename_i h _ _ _ _;exact h t rfl) (by omega)) _ _ ?_|fail
     all_goals first | (exfalso;omega) | skip
     exact hQ _ _ (by omega) yM
   | true=>
     rw [hv] at hQ
     repeat' first|with_reducible intro _|simp only[mF,hv,Y1,Y2,Y3,Y4]|with_reducible refine X ?_ ?_|refine⟨_,_,_,rfl,?_⟩|refine⟨_,rfl,?_⟩|refine And.intro (by first|omega|trivial|(show _=_;rfl)|(with_reducible constructor)<;>first|omega|trivial|rfl) ?_|refine hs _ _ ?_|refine (zo t _ (by rename_i h _ _ _ _;exact h t rfl) (by omega)) _ _ ?_|fail
     all_goals first | (exfalso;omega) | skip
     rename_i hx _ _ _ _ _ _ _ _ _
     exact hQ _ _ (by omega) (hx t rfl)
/-- what TypeOf comes to -/
def wt (g:List Tg) (e:Tm) (n:Int):Option Ty:=if zBy g/\zEC e n then e.type g n else none
theorem zFg:∀ {g:List Tg},zAx g=true->∀ x∈g,x.ty.valid=true
 | y::ys,h,x,hx=>by
   simp only [zAx,Tg.ok,oL] at h
   rcases oG.1 hx with rfl | hx
   ·exact h.1.2.1
   ·exact zFg h.2 x hx
theorem zMf {g:List Tg} {e:Tm} {n:Int} (h1:zBy g=true) (h2:zEC e n=true) (hc:e.cnt<=1048576000 / 2):Pre g e n:=by
 simp only [zBy,oL,nC] at h1
 simp only [zEC,oL] at h2
 exact ⟨h2.1,h2.2,by omega,fun x hx=>oW (Ty.valid_cnt (zFg h1.1 x hx)) (by omega)⟩
theorem qU {g:List Tg} {es:List D} (ctx:Ctx g es) (hg:∀ x∈g,x.ty.cnt<=1073741824) {e:Tm} {d:D} (he:e.Is d) (hc:e.cnt<=1048576000 / 2) (a:Option Addr) (c:Nat) (n:Int) :
  zOe 32 [.sv a 4 es c,.dg 9 d,.int .i64 n] (wt g e n):=fun N Q hQ=>by
 refine zFU N a es c d n Q fun _ _=>?_
 cases h1:zBy g with
 | false=>
   rw [wt,if_neg (by simp [h1])] at hQ
   repeat' first|with_reducible intro _|simp only[h1,Y1,Y2,Y3,Y4]|with_reducible refine X ?_ ?_|refine⟨_,_,_,rfl,?_⟩|refine⟨_,rfl,?_⟩|refine And.intro (by first|omega|trivial|(show _=_;rfl)|(with_reducible constructor)<;>first|omega|trivial|rfl) ?_|refine (vq ctx hg a c) _ _ ?_|fail
   exact hQ _ _ (by omega) yM
 | true=>
   cases h2:zEC e n with
   | false=>
     rw [wt,if_neg (by simp [h2])] at hQ
     repeat' first|with_reducible intro _|simp only[h1,h2,Y1,Y2,Y3,Y4]|with_reducible refine X ?_ ?_|refine⟨_,_,_,rfl,?_⟩|refine⟨_,rfl,?_⟩|refine And.intro (by first|omega|trivial|(show _=_;rfl)|(with_reducible constructor)<;>first|omega|trivial|rfl) ?_|refine (vq ctx hg a c) _ _ ?_|refine (tw e d he (by omega) n) _ _ ?_|fail
     exact hQ _ _ (by omega) yM
   | true=>
     rw [wt,if_pos ⟨h1,h2⟩] at hQ
     repeat' first|with_reducible intro _|simp only[h1,h2,Y1,Y2,Y3,Y4]|with_reducible refine X ?_ ?_|refine⟨_,_,_,rfl,?_⟩|refine⟨_,rfl,?_⟩|refine And.intro (by first|omega|trivial|(show _=_;rfl)|(with_reducible constructor)<;>first|omega|trivial|rfl) ?_|refine (vq ctx hg a c) _ _ ?_|refine (tw e d he (by omega) n) _ _ ?_|refine (zFZ e d he g es a c n (zMf h1 h2 hc) ctx) _ _ ?_|fail
     exact hQ _ _ (by omega) (by assumption)
end Go.Proofs.YtkdjhkfiolhkiaaGreat
