/- Terms and typings as plain data; well-formed terms and contexts: the reference's functions. -/
import Derived.Test.YtkdjhkfiolhkiaaGreatVf
set_option linter.unusedVariables false
set_option linter.unusedSimpArgs false
namespace Go.Proofs.YtkdjhkfiolhkiaaGreat
open Go Go.Proofs Go.Proofs.Tryz Go.IntWalk
inductive Tm where
 | mk (k:Int) (nm ot:ByteArray) (n:Int) (ty re:Ty) (l:List Tm)
def Tm.as:Tm->List Tm
 | .mk _ _ _ _ _ _ l=>l
/-- the cells of a term ahead of its parts -/
structure Tm.Hd (nm ot:ByteArray) (ty re:Ty) (t0 t1 r0 r1:D):Prop where
 nm:nm.size<=4611686018427387904
 ot:ot.size<=4611686018427387904
 ty:ty.Is (.ag [t0,t1])
 re:re.Is (.ag [r0,r1])
mutual
def Tm.Is:Tm->D->Prop
 | .mk k nm ot n ty re l,d=>∃ t0 t1 r0 r1 a es c,d=.ag [.lit (.int .i64 k),.lit (.string nm),.lit (.string ot),.lit (.int .i64 n),t0,t1,r0,r1,.sl a 9 es c]/\Tm.Hd nm ot ty re t0 t1 r0 r1/\es.length<=4611686018427387904/\zMR l es
def zMR:List Tm->List D->Prop
 | [],es=>es=[]
 | t::ts,es=>∃ d ds,es=d::ds/\t.Is d/\zMR ts ds
end
theorem zGM:∀ {l:List Tm} {es:List D},zMR l es↔All2 Tm.Is l es
 | [],es=>by simp only [zMR,All2]
 | t::ts,es=>by
   simp only [zMR,All2]
   exact ⟨fun ⟨d,ds,h1,h2,h3⟩=>⟨d,ds,h1,h2,zGM.1 h3⟩,fun ⟨d,ds,h1,h2,h3⟩=>⟨d,ds,h1,h2,zGM.2 h3⟩⟩
theorem Tm.is_mk {k:Int} {nm ot:ByteArray} {n:Int} {ty re:Ty} {l:List Tm} {d:D}:(Tm.mk k nm ot n ty re l).Is d ↔
  ∃ t0 t1 r0 r1 a es c,d=.ag [.lit (.int .i64 k),.lit (.string nm),.lit (.string ot),.lit (.int .i64 n),t0,t1,r0,r1,.sl a 9 es c]/\Tm.Hd nm ot ty re t0 t1 r0 r1/\es.length<=4611686018427387904/\All2 Tm.Is l es:=by
 simp only [Tm.Is,zGM]
theorem Tm.ind {P:Tm->Prop} (h:∀ k nm ot n ty re l,(∀ t∈l,P t)->P (.mk k nm ot n ty re l)):∀ t,P t:=fun t=>
 Tm.rec (motive_1:=P) (motive_2:=fun l=>∀ t∈l,P t) (fun k nm ot n ty re l ih=>h k nm ot n ty re l ih) (by simp) (fun t l h1 h2 u hu=>by
  rcases oG.1 hu with rfl | hu
  ·exact h1
  ·exact h2 u hu) t
mutual
def Tm.cnt:Tm->Nat
 | .mk _ _ _ _ ty re l=>1+ty.cnt+re.cnt+zI l
def zI:List Tm->Nat
 | []=>0
 | t::ts=>t.cnt+zI ts
end
theorem wc:∀ {l:List Tm} {t:Tm},t∈l->t.cnt<=zI l
 | u::us,t,h=>by
   simp only [zI]
   rcases oG.1 h with rfl | h
   ·omega
   ·have:=wc h;omega
theorem vY:∀ l:List Tm,l.length<=zI l
 | []=>oD _
 | .mk _ _ _ _ _ _ _::ts=>by simp only [zI,Tm.cnt,oP];have:=vY ts;omega
structure Tg where
 nm:ByteArray
 ty:Ty
 lv:Int
def Tg.Is (g:Tg) (d:D):Prop:=∃ t0 t1,d=.ag [.lit (.string g.nm),t0,t1,.lit (.int .i64 g.lv)]/\g.nm.size<=4611686018427387904/\g.ty.Is (.ag [t0,t1])
theorem Tg.is_mk {nm:ByteArray} {ty:Ty} {lv:Int} {d:D}:(Tg.mk nm ty lv).Is d↔∃ t0 t1,d=.ag [.lit (.string nm),t0,t1,.lit (.int .i64 lv)]/\nm.size<=4611686018427387904/\ty.Is (.ag [t0,t1]):=mq
def zFJ (s:ByteArray):Int:=if s=bytes [43] then 2 else if s=bytes [45] then 2 else if s=bytes [42] then 2 else if s=bytes [61] then 2 else if s=bytes [60] then 2 else if s=bytes [38] then 2 else if s=bytes [124] then 2 else if s=bytes [33] then 1 else 0
theorem uP (s:ByteArray):zBW 231 [.str s] (zFJ s):=fun N Q hQ=>by
 refine zDi N s Q ?_
 repeat' first|with_reducible intro _|simp only[Y1,Y2,Y3,Y4]|with_reducible refine X ?_ ?_|refine⟨_,_,_,rfl,?_⟩|refine⟨_,rfl,?_⟩|refine And.intro (by first|omega|trivial|(show _=_;rfl)|(with_reducible constructor)<;>first|omega|trivial|rfl) ?_|fail
 all_goals (refine Qi (hQ _ (by assumption)) ?_;unfold zFJ;(repeat' split)<;>first | rfl | contradiction)
def Ty.zero (t:Ty):Bool:=t.k==0&&(t.as.length:Int)==0
theorem qQ (t:Ty) (d:D) (hd:t.Is d):vK 229 [.dg 2 d] t.zero:=fun N Q hQ=>by
 cases t with
 | mk k l=>
 obtain ⟨a,es,c,rfl,hlen,hes⟩:=Ty.is_mk.1 hd
 have hl:=hes.len
 refine zFE N _ Q fun _=>?_
 repeat' first|with_reducible intro _|simp only[Y1,Y2,Y3,Y4]|with_reducible refine X ?_ ?_|refine⟨_,_,_,rfl,?_⟩|refine⟨_,rfl,?_⟩|refine And.intro (by first|omega|trivial|(show _=_;rfl)|(with_reducible constructor)<;>first|omega|trivial|rfl) ?_|fail
 all_goals refine Qb (hQ _ (by assumption)) ?_
 all_goals simp [Ty.zero,Ty.k,Ty.as,hl, *]
def xA (k:Int) (nm ot:ByteArray):Bool:=
 if k=4 then decide (zFJ nm>0)&&decide (ot=bytes []) else if k=1\/k=6\/k=8 then yL nm&&decide (ot=bytes []) else if k=9 then yL nm&&(yL ot&&!decide (nm=ot)) else decide (nm=bytes [])&&decide (ot=bytes [])
theorem zRB (a b:Int):(a==b)=decide (a=b):=by rw [mE];simp
def sN (k:Int):Bool:=k==6||k==9
def zJ (k:Int) (nm ot:ByteArray) (n:Int) (ty re:Ty):Bool:=
 (sN k==ty.valid)&&((sN k||ty.zero)&&(((k==9)==re.valid)&&((k==9||re.zero)&&(inB n 0 (if k=2 then 10006 else if k=3 then 1 else 0)&&xA k nm ot))))
def zDY (k:Int) (nm:ByteArray):Int:=
 if k=1\/k=2\/k=3 then 0 else if k=4 then zFJ nm else if k=6\/k=9\/k=10\/k=11\/k=12\/k=13 then 1 else if k=7\/k=8 then 2 else if k=5 then 3 else -1
mutual
def Tm.ok:Tm->Bool
 | .mk k nm ot n ty re l=>ut l&&(zJ k nm ot n ty re&&(l.length:Int)==zDY k nm)
def ut:List Tm->Bool
 | []=>true
 | t::ts=>t.ok&&ut ts
end
theorem zD7 {k n:Int} {nm ot:ByteArray} {ty re:Ty} {t0 t1 r0 r1 x:D} (h:Tm.Hd nm ot ty re t0 t1 r0 r1):vK 230 [.dg 9 (.ag [.lit (.int .i64 k),.lit (.string nm),.lit (.string ot),.lit (.int .i64 n),t0,t1,r0,r1,x])] (xA k nm ot):=fun N Q hQ=>by
 refine zDs N _ Q fun _=>?_
 repeat' first|with_reducible intro _|simp only[Y1,Y2,Y3,Y4]|with_reducible refine X ?_ ?_|refine⟨_,_,_,rfl,?_⟩|refine⟨_,rfl,?_⟩|refine And.intro (by first|omega|trivial|(show _=_;rfl)|(with_reducible constructor)<;>first|omega|trivial|rfl) ?_|refine (uP _) _ _ ?_|refine (qN _ h.nm) _ _ ?_|refine (qN _ h.ot) _ _ ?_|fail
 all_goals (refine Qb (hQ _ (by omega)) ?_;simp [xA,uA, *])
theorem zBs {k n:Int} {nm ot:ByteArray} {ty re:Ty} {t0 t1 r0 r1 x:D} (h:Tm.Hd nm ot ty re t0 t1 r0 r1) (hc:ty.cnt<=1073741824) (hc2:re.cnt<=1073741824) :
  vK 181 [.dg 9 (.ag [.lit (.int .i64 k),.lit (.string nm),.lit (.string ot),.lit (.int .i64 n),t0,t1,r0,r1,x])] (zJ k nm ot n ty re):=fun N Q hQ=>by
 refine zDQ N _ Q fun _=>?_
 repeat' first|with_reducible intro _|simp only[Y1,Y2,Y3,Y4]|with_reducible refine X ?_ ?_|refine⟨_,_,_,rfl,?_⟩|refine⟨_,rfl,?_⟩|refine And.intro (by first|omega|trivial|(show _=_;rfl)|(with_reducible constructor)<;>first|omega|trivial|rfl) ?_|refine (v9 _ _ h.ty hc) _ _ ?_|refine (v9 _ _ h.re hc2) _ _ ?_|refine (qQ _ _ h.ty) _ _ ?_|refine (qQ _ _ h.re) _ _ ?_|refine (xB _ _ _) _ _ ?_|refine (zD7 h) _ _ ?_|fail
 all_goals first | (exfalso;omega) | (refine Qb (hQ _ (by omega)) ?_;simp [zJ,sN, *];done) | (refine Qb (hQ _ (by omega)) ?_;simp_all [zJ,sN];done) | (refine Qb (hQ _ (by omega)) ?_;simp_all only [zJ,sN,zRB];simp_all;done)
theorem xP {k n:Int} {nm ot:ByteArray} {t0 t1 r0 r1 x:D}:zBW 182 [.dg 9 (.ag [.lit (.int .i64 k),.lit (.string nm),.lit (.string ot),.lit (.int .i64 n),t0,t1,r0,r1,x])] (zDY k nm):=fun N Q hQ=>by
 refine zEC N _ Q fun _=>?_
 repeat' first|with_reducible intro _|simp only[Y1,Y2,Y3,Y4]|with_reducible refine X ?_ ?_|refine⟨_,_,_,rfl,?_⟩|refine⟨_,rfl,?_⟩|refine And.intro (by first|omega|trivial|(show _=_;rfl)|(with_reducible constructor)<;>first|omega|trivial|rfl) ?_|refine (uP _) _ _ ?_|fail
 all_goals (refine Qi (hQ _ (by omega)) ?_;simp [zDY, *])
theorem vD:∀ (t:Tm) (d:D),t.Is d->t.cnt<=1073741824->vK 122 [.dg 9 d] t.ok:=by
 refine Tm.ind fun k nm ot n ty re l ih d hd hc N Q hQ=>?_
 obtain ⟨t0,t1,r0,r1,a,es,c,rfl,hh,hlen,hes⟩:=Tm.is_mk.1 hd
 have hl:=hes.len
 simp only [Tm.cnt] at hc
 refine zGG N _ Q fun _=>?_
 have key:=up hes hlen (fun i xs=>∀ (N':Nat),N<=N'->(∀ N'',N'<=N''->Q (ut xs&&(zJ k nm ot n ty re&&(l.length:Int)==zDY k nm)) N'')->wQ Q N i (.ag [.lit (.int .i64 k),.lit (.string nm),.lit (.string ot),.lit (.int .i64 n),t0,t1,r0,r1,.sl a 9 es c]) N') ?_ ?_
 ·exact key N (oD _) hQ
 ·intro i hlt _ N' hN' hQ'
  refine tg _ _ _ _ _ ?_
  repeat' first|with_reducible intro _|simp only[hlt,Y1,Y2,Y3,Y4]|with_reducible refine X ?_ ?_|refine⟨_,_,_,rfl,?_⟩|refine⟨_,rfl,?_⟩|refine And.intro (by first|omega|trivial|(show _=_;rfl)|(with_reducible constructor)<;>first|omega|trivial|rfl) ?_|refine (zBs hh (by omega) (by omega)) _ _ ?_|refine xP _ _ ?_|fail
  all_goals (refine Qb (hQ' _ (by omega)) ?_;simp [ut, *])
 ·intro i x xs hat _ ih2 N' hN' hQ'
  have hb:=hat.b
  have hxc:=wc hat.m
  refine tg _ _ _ _ _ ?_
  repeat' first|with_reducible intro _|simp only[hat.lt,hat.w,oJ,Y1,Y2,Y3,Y4]|with_reducible refine X ?_ ?_|refine⟨_,_,_,rfl,?_⟩|refine⟨_,rfl,?_⟩|refine And.intro (by first|omega|trivial|(show _=_;rfl)|(with_reducible constructor)<;>first|omega|trivial|rfl) ?_|refine (ih x hat.m _ hat.r (by omega)) _ _ ?_|fail
  ·refine Qb (hQ' _ (by omega)) ?_;simp [ut, *]
  ·exact ih2 _ (by omega) fun N'' h=>Qb (hQ' N'' (by omega)) (by simp [ut, *])
theorem xz {n a b:Int}:inB n a b=true↔a<=n/\n<=b:=by simp [inB]
def xC (k n:Int):Int:=if k=10 then n+1 else if k=11 then n - 1 else n
mutual
def Tm.lev:Tm->Int->Bool
 | .mk k _ _ _ _ _ l,n=>inB n 0 2&&t6 l (xC k n)
def t6:List Tm->Int->Bool
 | [],_=>true
 | t::ts,n=>t.lev n&&t6 ts n
end
theorem zGa {k n m:Int} {c1 c2 c4 c5 c6 c7 c8:D} (h:0<=m/\m<=2):zBW 215 [.dg 9 (.ag [.lit (.int .i64 k),c1,c2,.lit (.int .i64 n),c4,c5,c6,c7,c8]),.int .i64 m] (xC k m):=fun N Q hQ=>by
 refine qv N _ m Q fun _=>?_
 rw [i64_in (m+1) (by omega),i64_in (m - 1) (by omega)]
 repeat' first|with_reducible intro _|simp only[Y1,Y2,Y3,Y4]|with_reducible refine X ?_ ?_|refine⟨_,_,_,rfl,?_⟩|refine⟨_,rfl,?_⟩|refine And.intro (by first|omega|trivial|(show _=_;rfl)|(with_reducible constructor)<;>first|omega|trivial|rfl) ?_|fail
 all_goals (refine Qi (hQ _ (by omega)) ?_;simp [xC, *])
theorem zB4:∀ (t:Tm) (d:D),t.Is d->∀ m:Int,vK 166 [.dg 9 d,.int .i64 m] (t.lev m):=by
 refine Tm.ind fun k nm ot n ty re l ih d hd m N Q hQ=>?_
 obtain ⟨t0,t1,r0,r1,a,es,c,rfl,hh,hlen,hes⟩:=Tm.is_mk.1 hd
 have hl:=hes.len
 refine zIF N _ m Q fun _=>?_
 cases hin:inB m 0 2 with
 | false=>
   repeat' first|with_reducible intro _|simp only[hin,Y1,Y2,Y3,Y4]|with_reducible refine X ?_ ?_|refine⟨_,_,_,rfl,?_⟩|refine⟨_,rfl,?_⟩|refine And.intro (by first|omega|trivial|(show _=_;rfl)|(with_reducible constructor)<;>first|omega|trivial|rfl) ?_|refine (xB _ _ _) _ _ ?_|fail
   exact Qb (hQ _ (by omega)) (by simp [Tm.lev,hin])
 | true=>
   have hb:=xz.1 hin
   have key:=up hes hlen (fun i xs=>∀ (N':Nat),N<=N'->(∀ N'',N'<=N''->Q (t6 xs (xC k m)) N'')->vE Q N m i (.ag [.lit (.int .i64 k),.lit (.string nm),.lit (.string ot),.lit (.int .i64 n),t0,t1,r0,r1,.sl a 9 es c]) N') ?_ ?_
   ·repeat' first|with_reducible intro _|simp only[hin,Y1,Y2,Y3,Y4]|with_reducible refine X ?_ ?_|refine⟨_,_,_,rfl,?_⟩|refine⟨_,rfl,?_⟩|refine And.intro (by first|omega|trivial|(show _=_;rfl)|(with_reducible constructor)<;>first|omega|trivial|rfl) ?_|refine (xB _ _ _) _ _ ?_|fail
    exact key _ (by omega) fun N'' h=>Qb (hQ N'' (by omega)) (by simp [Tm.lev,hin])
   ·intro i hlt _ N' hN' hQ'
    refine qc _ _ _ _ _ _ ?_
    repeat' first|with_reducible intro _|simp only[hlt,Y1,Y2,Y3,Y4]|with_reducible refine X ?_ ?_|refine⟨_,_,_,rfl,?_⟩|refine⟨_,rfl,?_⟩|refine And.intro (by first|omega|trivial|(show _=_;rfl)|(with_reducible constructor)<;>first|omega|trivial|rfl) ?_|fail
    exact Qb (hQ' _ (by omega)) (by simp [t6])
   ·intro i x xs hat _ ih2 N' hN' hQ'
    have hb2:=hat.b
    refine qc _ _ _ _ _ _ ?_
    repeat' first|with_reducible intro _|simp only[hat.lt,hat.w,oJ,Y1,Y2,Y3,Y4]|with_reducible refine X ?_ ?_|refine⟨_,_,_,rfl,?_⟩|refine⟨_,rfl,?_⟩|refine And.intro (by first|omega|trivial|(show _=_;rfl)|(with_reducible constructor)<;>first|omega|trivial|rfl) ?_|refine (zGa hb) _ _ ?_|refine (ih x hat.m _ hat.r _) _ _ ?_|fail
    ·refine Qb (hQ' _ (by omega)) ?_;simp [t6, *]
    ·exact ih2 _ (by omega) fun N'' h=>Qb (hQ' N'' (by omega)) (by simp [t6, *])
def zB9 (t:Tm) (n:Int):Bool:=t.ok&&t.lev n
theorem tv (t:Tm) (d:D) (hd:t.Is d) (hc:t.cnt<=1073741824) (m:Int):vK 96 [.dg 9 d,.int .i64 m] (zB9 t m):=fun N Q hQ=>by
 refine zCE N _ m Q fun _=>?_
 repeat' first|with_reducible intro _|simp only[Y1,Y2,Y3,Y4]|with_reducible refine X ?_ ?_|refine⟨_,_,_,rfl,?_⟩|refine⟨_,rfl,?_⟩|refine And.intro (by first|omega|trivial|(show _=_;rfl)|(with_reducible constructor)<;>first|omega|trivial|rfl) ?_|refine (vD t d hd hc) _ _ ?_|refine (zB4 t d hd m) _ _ ?_|fail
 all_goals (refine Qb (hQ _ (by omega)) ?_;simp [zB9, *])
structure Ctx (g:List Tg) (es:List D):Prop where
 len:es.length<=4611686018427387904
 all:All2 Tg.Is g es
def Tg.ok (g:Tg):Bool:=yL g.nm&&(g.ty.valid&&inB g.lv 0 2)
def tg0:Tg:=⟨bytes [],tZero,0⟩
def zJc (g:List Tg) (s:ByteArray):Nat->Int
 | 0 => -1
 | k+1=>if (g.getD k tg0).nm=s then k else zJc g s k
def zLV (g:List Tg) (s:ByteArray):Int:=zJc g s g.length
theorem zR5 {α:Type} {R:α->D->Prop} {l:List α} {es:List D} (h:All2 R l es) (hlen:es.length<=4611686018427387904) (P:Int->Prop) (h0:P (-1))
  (hs:∀ (i:Nat) x,At R l es i x->decide ((i:Int)≥0)=true->IntKind.i64.wrap ((i:Int) - 1)=(i:Int) - 1->P ((i:Int) - 1)->P i):P ((es.length:Int) - 1):=by
 have hl:=h.len
 have key:∀ n:Nat,n<=l.length->P ((n:Int) - 1):=by
  intro n
  induction n with
  | zero=>intro _;exact h0
  | succ n ih=>
    intro hn
    have hg:l[n]?=some l[n]:=oF hn
    have e:((n+1:Nat):Int) - 1=n:=by omega
    rw [e]
    exact hs n _ ⟨mN (by omega),⟨by omega,by omega⟩,by rw [i64_in _ (by omega)];simp,h.get hg,mJ hn,hg⟩ (mN (by omega)) (i64_in _ (by omega)) (ih (by omega))
 rw [hl]
 exact key _ (oD _)
theorem zPc {α:Type} {l:List α} {i:Nat} {x d:α} (h:l[i]?=some x):l.getD i d=x:=by simp [oA,h]
theorem q9 {g:List Tg} {es:List D} (h:Ctx g es) (a:Option Addr) (c:Nat) (s:ByteArray):zBW 109 [.sv a 4 es c,.str s] (zLV g s):=fun N Q hQ=>by
 have hl:=h.all.len
 have h1:=h.len
 refine zGD N a es c s Q fun _=>?_
 have key:=zR5 h.all h.len (fun m=>∀ (N':Nat),N<=N'->(∀ N'',N'<=N''->Q (zJc g s (m+1).toNat) N'')->xp Q N a es c s m N') ?_ ?_
 ·rw [i64_in _ (by omega)]
  exact key N (oD _) fun N' hN'=>Qi (hQ N' hN') (by rw [zLV,<-hl];congr 1;omega)
 ·intro N' hN' hQ'
  refine sH _ _ _ _ _ _ _ _ ?_
  repeat' first|with_reducible intro _|simp only[Y1,Y2,Y3,Y4]|with_reducible refine X ?_ ?_|refine⟨_,_,_,rfl,?_⟩|refine⟨_,rfl,?_⟩|refine And.intro (by first|omega|trivial|(show _=_;rfl)|(with_reducible constructor)<;>first|omega|trivial|rfl) ?_|fail
  ·omega
  ·exact hQ' _ (by assumption)
 ·intro i x hat hge hw ih N' hN' hQ'
  have hb:=hat.b
  obtain ⟨t0,t1,hd,hs,ht⟩:=hat.r
  have e1:((i:Int)+1).toNat=i+1:=by omega
  have e2:((i:Int) - 1+1).toNat=i:=by omega
  rw [e1] at hQ'
  simp only [zJc,zPc hat.g] at hQ'
  rw [e2] at ih
  refine sH _ _ _ _ _ _ _ _ ?_
  repeat' first|with_reducible intro _|simp only[hge,hw,oJ,hd,Y1,Y2,Y3,Y4]|with_reducible refine X ?_ ?_|refine⟨_,_,_,rfl,?_⟩|refine⟨_,rfl,?_⟩|refine And.intro (by first|omega|trivial|(show _=_;rfl)|(with_reducible constructor)<;>first|omega|trivial|rfl) ?_|fail
  ·rename_i hx _ _;exact Qi (hQ' _ (by omega)) (by rw [if_pos hx])
  ·rename_i hx;exact ih _ (by omega) fun N'' h=>Qi (hQ' N'' (by omega)) (by rw [if_neg hx])
theorem Ty.is_cells {t:Ty} {d:D} (h:t.Is d):t.Is (.ag [D.cell d 0,D.cell d 1]):=by
 cases t with
 | mk k l=>obtain ⟨a,es,c,rfl,_,_⟩:=Ty.is_mk.1 h;exact h
def zJF (g:List Tg) (n:Int) (x:Tg) (i:Nat):Bool:=x.ty.base&&(decide (x.lv<=n)&&decide (zLV g x.nm=(i:Int)))
def sK (g:List Tg) (n:Int):List Tg->Nat->List Tg
 | [],_=>[]
 | x::xs,i=>if zJF g n x i then x::sK g n xs (i+1) else sK g n xs (i+1)
def zN2 (g:List Tg) (n:Int):List Tg:=sK g n g 0
theorem zEJ (g:List Tg) (n:Int):∀ (l:List Tg) (i:Nat),(∀ x∈sK g n l i,x∈l)/\(sK g n l i).length<=l.length
 | [],i=>by simp [sK]
 | x::xs,i=>by
   have h:=zEJ g n xs (i+1)
   simp only [sK]
   split
   ·refine ⟨fun y hy=>?_,by simp;exact h.2⟩
    rcases oG.1 hy with rfl | hy
    ·exact List.mem_cons_self
    ·exact nh _ (h.1 y hy)
   ·exact ⟨fun y hy=>nh _ (h.1 y hy),by have:=h.2;simp;omega⟩
theorem zDn {g:List Tg} {es:List D} (h:Ctx g es) (hg:g.length<=1073741824) (hc:∀ x∈g,x.ty.cnt<=1073741824) (a:Option Addr) (c:Nat) (n:Int) :
  ∀ (N:Nat) (Q:QT [.sl 4]),(∀ a' es' c' N',N<=N'->Ctx (zN2 g n) es'->Q a' es' c' N')->ACalls prog 42 [.sl 4] [.sv a 4 es c,.int .i64 n] N Q:=fun N Q hQ=>by
 have hl:=h.all.len
 refine zDf N a es c n Q fun _=>?_
 have key:=up h.all h.len (fun i xs=>∀ (r:List D) (m q:Nat) (N':Nat) (done:List Tg),N<=N'->m=r.length->All2 Tg.Is done r->done.length<=i->done++sK g n xs i=zN2 g n->zu Q N a es c n m q i r q N') ?_ ?_
 ·exact key [] 0 0 N [] (oD _) rfl rfl (oD _) rfl
 ·intro i hlt hi r m q N' done hN' hm hr hdl hd
  refine tT _ _ _ _ _ _ _ _ _ _ _ _ ?_
  repeat' first|with_reducible intro _|simp only[hlt,Y1,Y2,Y3,Y4]|with_reducible refine X ?_ ?_|refine⟨_,_,_,rfl,?_⟩|refine⟨_,rfl,?_⟩|refine And.intro (by first|omega|trivial|(show _=_;rfl)|(with_reducible constructor)<;>first|omega|trivial|rfl) ?_|fail
  refine hQ _ _ _ _ (by omega) ⟨by have:=hr.len;omega,?_⟩
  simp only [sK,nW] at hd
  rwa [<-hd]
 ·intro i x xs hat _ ih2 r m q N' done hN' hm hr hdl hd
  have hb:=hat.b
  have hrl:=hr.len
  obtain ⟨t0,t1,he,hs,ht⟩:=hat.r
  simp only [sK] at hd
  refine tT _ _ _ _ _ _ _ _ _ _ _ _ ?_
  repeat' first|with_reducible intro _|simp only[hat.lt,hat.w,oJ,he,Y1,Y2,Y3,Y4]|with_reducible refine X ?_ ?_|refine⟨_,_,_,rfl,?_⟩|refine⟨_,rfl,?_⟩|refine And.intro (by first|omega|trivial|(show _=_;rfl)|(with_reducible constructor)<;>first|omega|trivial|rfl) ?_|refine (pC _ _ ht) _ _ ?_|refine (q9 h a c _) _ _ ?_|refine (zR _ _ ht (hc x hat.m)) _ _ ?_|fail
  ·rename_i N2 hN2 x' N3 hN3 hx ho _ _
   have hin:zJF g n x i=true:=by simp [zJF, *]
   rw [if_pos hin] at hd
   refine ⟨by unfold zB;simp only [oH,mc];omega,fun c2=>ih2 _ _ _ _ (done++[x]) (by omega) rfl (hr.snoc ⟨_,_,rfl,hs,Ty.is_cells hx⟩) (by simp;omega) (by simpa using hd)⟩
  all_goals (refine ih2 _ _ _ _ done (by omega) hm hr (by omega) ?_;rw [<-hd,if_neg (by simp [zJF, *])])
theorem uv {g:List Tg} {es:List D} (h:Ctx g es) (hg:g.length<=1073741824) (a:Option Addr) (c:Nat) {s:ByteArray} (hs:s.size<=4611686018427387904) {t:Ty} {d:D} (ht:t.Is d) (n:Int) :
  ∀ (N:Nat) (Q:QT [.sl 4]),(∀ a' es' c' N',N<=N'->Ctx (g++[⟨s,t,n⟩]) es'->Q a' es' c' N')->ACalls prog 162 [.sl 4] [.sv a 4 es c,.str s,.dg 2 d,.int .i64 n] N Q:=fun N Q hQ=>by
 have hl:=h.all.len
 have hb:∀ x:D,zB ([]++es) [x] 56:=fun x=>by unfold zB;simp only [oZ,oH,mc];omega
 have hb0:zB [] es 56:=by unfold zB;simp only [oZ];omega
 refine zFg N a es c s d n Q fun _ _=>?_
 repeat' first|with_reducible intro _|simp only[Y1,Y2,Y3,Y4]|with_reducible refine X ?_ ?_|refine⟨_,_,_,rfl,?_⟩|refine⟨_,rfl,?_⟩|refine And.intro (by first|omega|trivial|(show _=_;rfl)|(with_reducible constructor)<;>first|omega|trivial|rfl) ?_|fail
 refine ⟨hb _,fun c2=>?_⟩
 repeat' first|with_reducible intro _|simp only[Y1,Y2,Y3,Y4]|with_reducible refine X ?_ ?_|refine⟨_,_,_,rfl,?_⟩|refine⟨_,rfl,?_⟩|refine And.intro (by first|omega|trivial|(show _=_;rfl)|(with_reducible constructor)<;>first|omega|trivial|rfl) ?_|fail
 refine hQ _ _ _ _ (by omega) ⟨by simp;omega,?_⟩
 simp only [oZ]
 exact h.all.snoc ⟨_,_,rfl,hs,Ty.is_cells ht⟩
theorem Ty.valid_cnt {t:Ty} (h:t.valid=true):t.cnt<=30:=by
 simp only [Ty.valid,oL,nP] at h
 exact h.1.1
/-- what typing may count on -/
structure Pre (g:List Tg) (e:Tm) (n:Int):Prop where
 ok:e.ok=true
 lev:e.lev n=true
 len:g.length+2*e.cnt<=1073741824
 ty:∀ x∈g,x.ty.cnt<=64
/-- the facts of a well-formed node -/
structure Node (k:Int) (nm ot:ByteArray) (n:Int) (ty re:Ty) (l:List Tm):Prop where
 f:zJ k nm ot n ty re=true
 ar:(l.length:Int)=zDY k nm
 sub:∀ x∈l,x.ok=true
theorem zHE:∀ {l:List Tm} {x:Tm},ut l=true->x∈l->x.ok=true
 | t::ts,x,h,hx=>by
   simp only [ut,oL] at h
   rcases oG.1 hx with rfl | hx
   ·exact h.1
   ·exact zHE h.2 hx
theorem zLm {k:Int} {nm ot:ByteArray} {n:Int} {ty re:Ty} {l:List Tm} (h:(Tm.mk k nm ot n ty re l).ok=true):Node k nm ot n ty re l:=by
 simp only [Tm.ok,oL] at h
 exact ⟨h.2.1,by simpa using h.2.2,fun x hx=>zHE h.1 hx⟩
theorem Node.vt {k n:Int} {nm ot:ByteArray} {ty re:Ty} {l:List Tm} (h:Node k nm ot n ty re l) (hk:k=6\/k=9):ty.valid=true:=by
 have:=h.f
 have e:sN k=true:=by rcases hk with rfl | rfl<;>rfl
 simp only [zJ,oL,e] at this
 simpa using this.1
theorem Node.vr {k n:Int} {nm ot:ByteArray} {ty re:Ty} {l:List Tm} (h:Node k nm ot n ty re l) (hk:k=9):re.valid=true:=by
 have:=h.f
 subst hk
 simp only [zJ,oL] at this
 simpa using this.2.2.1
theorem zL3 {k:Int} {nm:ByteArray} (h:0<=zDY k nm):k=1\/k=2\/k=3\/k=4\/k=5\/k=6\/k=7\/k=8\/k=9\/k=10\/k=11\/k=12\/k=13:=by
 unfold zDY at h
 (repeat' split at h)<;>omega
theorem Ty.cnt_pos (t:Ty):1<=t.cnt:=by cases t;simp only [Ty.cnt];omega
theorem Pre.lv {g:List Tg} {e:Tm} {n:Int} (h:Pre g e n):0<=n/\n<=2:=by
 have:=h.lev
 cases e
 simp only [Tm.lev,oL] at this
 exact xz.1 this.1
theorem zKr:tZero.Is (.ag [.lit (.int .i64 0),.sl none 2 [] 0]):=xE 0
end Go.Proofs.YtkdjhkfiolhkiaaGreat
