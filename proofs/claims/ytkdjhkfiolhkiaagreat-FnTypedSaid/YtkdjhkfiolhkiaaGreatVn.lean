/- The program's functions on names and types. -/
import Derived.Test.YtkdjhkfiolhkiaaGreatVi
import Derived.Test.YtkdjhkfiolhkiaaGreatKi
set_option linter.unusedVariables false
set_option linter.unusedSimpArgs false
namespace Go.Proofs.YtkdjhkfiolhkiaaGreat
open Go Go.Proofs Go.Proofs.Tryz Go.IntWalk
theorem yD (n a b:Int):v3 115 [.int .i64 n,.int .i64 a,.int .i64 b] (inB n a b):=fun N Q hQ=>by
 refine zEE N n a b Q ?_
 repeat' first|with_reducible intro _|simp only[Y1,Y2,Y3,Y4]|with_reducible refine X ?_ ?_|refine⟨_,_,_,rfl,?_⟩|refine⟨_,rfl,?_⟩|refine And.intro (by first|omega|trivial|(show _=_;rfl)|(with_reducible constructor)<;>first|omega|trivial|rfl) ?_|fail
 all_goals simpa [inB, *] using hQ _ (by omega)
def zCZ {α:Type} (p:α->Bool):List α->Int->Int
 | [],_ => -1
 | x::xs,i=>if p x then i else zCZ p xs (i+1)
theorem sH {α:Type} (p:α->Bool):∀ (l:List α) (i:Int),0<=i->decide (zCZ p l i≥0)=l.any p
 | [],i,h=>by simp [zCZ]
 | x::xs,i,h=>by
   have ih:=sH p xs (i+1) (by omega)
   rw [nj,na] at ih ⊢
   simp only [zCZ,mm,mO]
   by_cases hp:p x=true
   ·simp only [hp,ml,true_or,iff_true];exact h
   ·simpa [hp] using ih
/-- a row of words -/
def zB (l:List ByteArray):List D:=l.map fun s=>.lit (.string s)
theorem wb:∀ l:List ByteArray,All2 (fun s d=>d=.lit (.string s)) l (zB l)
 | []=>rfl
 | s::l=>⟨_,_,rfl,rfl,wb l⟩
theorem zHa (l:List ByteArray) (hl:l.length<=4611686018427387904) (a:Option Addr) (c:Nat) (s:ByteArray):zCW 219 [.sv a 0 (zB l) c,.str s] (zCZ (fun x=>decide (s=x)) l 0):=fun N Q hQ=>by
 have hes:=wb l
 have hlen:(zB l).length<=4611686018427387904:=by rw [hes.len];exact hl
 refine rH N a _ c s Q fun _=>?_
 refine up hes hlen (fun i xs=>∀ (N':Nat),N<=N'->(∀ N'',N'<=N''->Q (zCZ (fun x=>decide (s=x)) xs i) N'')->yC Q N a (zB l) c s ((zB l).length:Int) i N') ?_ ?_ N (oF _) hQ
 ·intro i hlt _ N' hN' hQ'
  refine wd _ _ _ _ _ _ _ _ _ ?_
  repeat' first|with_reducible intro _|simp only[hlt,Y1,Y2,Y3,Y4]|with_reducible refine X ?_ ?_|refine⟨_,_,_,rfl,?_⟩|refine⟨_,rfl,?_⟩|refine And.intro (by first|omega|trivial|(show _=_;rfl)|(with_reducible constructor)<;>first|omega|trivial|rfl) ?_|fail
  exact hQ' _ (by omega)
 ·intro i x xs hat _ ih2 N' hN' hQ'
  have hb:=hat.b
  have hr:=hat.r
  simp only [zCZ] at hQ'
  refine wd _ _ _ _ _ _ _ _ _ ?_
  repeat' first|with_reducible intro _|simp only[hat.lt,hat.w,oM,hr,Y1,Y2,Y3,Y4]|with_reducible refine X ?_ ?_|refine⟨_,_,_,rfl,?_⟩|refine⟨_,rfl,?_⟩|refine And.intro (by first|omega|trivial|(show _=_;rfl)|(with_reducible constructor)<;>first|omega|trivial|rfl) ?_|fail
  ·rename_i h _ _;subst h;exact Qi (hQ' _ (by omega)) (by simp)
  ·rename_i h;exact ih2 _ hN' fun N'' h2=>Qi (hQ' _ h2) (by rw [if_neg (by simpa using h)];simp)
theorem zCy (l:List ByteArray) (hl:l.length<=4611686018427387904) (a:Option Addr) (c:Nat) (s:ByteArray):v3 173 [.sv a 0 (zB l) c,.str s] (l.any fun x=>decide (s=x)):=fun N Q hQ=>by
 refine tC N a _ c s Q fun _=>?_
 repeat' first|with_reducible intro _|simp only[Y1,Y2,Y3,Y4]|with_reducible refine X ?_ ?_|refine⟨_,_,_,rfl,?_⟩|refine⟨_,rfl,?_⟩|refine And.intro (by first|omega|trivial|(show _=_;rfl)|(with_reducible constructor)<;>first|omega|trivial|rfl) ?_|refine (zHa l hl a c s) _ _ ?_|fail
 exact Qb (hQ _ (by omega)) (sH _ l 0 (by omega)).symm
theorem uc (s:ByteArray) (hs:s.size<=4611686018427387904):v3 113 [.str s] (u4 s):=fun N Q hQ=>by
 refine zDx N s Q ?_
 have key:=upN hs (fun i=>∀ N',N<=N'->(∀ N'',N'<=N''->Q (vX s i&&zA5 s) N'')->yR Q N s (s.size:Int) i N') ?_ ?_
 ·exact key N (oF _) hQ
 ·intro hlt N' hN' hQ'
  have hc:=zCy [bytes [105,102],bytes [108,101,116],bytes [108,105,102,116],bytes [114,101,99],bytes [114,117,110]] (by simp)
  simp only [zB,List.map] at hc
  refine tY _ _ _ _ _ _ ?_
  repeat' first|with_reducible intro _|simp only[hlt,Y1,Y2,Y3,Y4]|with_reducible refine X ?_ ?_|refine⟨_,_,_,rfl,?_⟩|refine⟨_,rfl,?_⟩|refine And.intro (by first|omega|trivial|(show _=_;rfl)|(with_reducible constructor)<;>first|omega|trivial|rfl) ?_|refine (yD _ _ _) _ _ ?_|refine (hc _ _ _) _ _ ?_|fail
  all_goals (refine Qb (hQ' _ (by omega)) ?_;rw [pw])
  ·simp only [zA5,mm,List.any_nil,Bool.or_false, *]
   cases decide (s=bytes [105,102])<;>cases decide (s=bytes [108,101,116])<;>cases decide (s=bytes [108,105,102,116])<;>cases decide (s=bytes [114,101,99])<;>cases decide (s=bytes [114,117,110])<;>rfl
  ·simp [zA5, *]
 ·intro i hi hlt hw ih2 N' hN' hQ'
  refine tY _ _ _ _ _ _ ?_
  rw [rV hi] at hQ'
  repeat' first|with_reducible intro _|simp only[hlt,hw,oM,Y1,Y2,Y3,Y4]|with_reducible refine X ?_ ?_|refine⟨_,_,_,rfl,?_⟩|refine⟨_,rfl,?_⟩|refine And.intro (by first|omega|trivial|(show _=_;rfl)|(with_reducible constructor)<;>first|omega|trivial|rfl) ?_|fail
  all_goals first
   | (refine Qb (hQ' _ (by omega)) ?_;unfold zDF pq;simp only [*];simp;done)
   | (refine ih2 _ (by omega) fun N'' h=>Qb (hQ' N'' (by omega)) ?_;unfold zDF pq;simp only [*];simp;done)
theorem pK:∀ (t:Ty) (d:D),t.Is d->t.cnt<=1073741824->zCW 174 [.dg 2 d] t.cnt:=by
 refine Ty.ind fun k l ih d hd hc N Q hQ=>?_
 obtain ⟨a,es,c,rfl,hlen,hes⟩:=Ty.is_mk.1 hd
 simp only [Ty.cnt] at hc
 refine qt N _ Q fun _=>⟨_,_,_,rfl,?_⟩
 refine up hes hlen (fun i xs=>∀ (m:Nat) (N':Nat),N<=N'->m+zI xs=1+zI l->ya Q N m a es c es.length i N') ?_ ?_ 1 N (oF _) rfl
 ·intro i hlt _ m N' hN' hm
  refine vK _ _ _ _ _ _ _ _ _ ?_
  simp only [zI] at hm
  repeat' first|with_reducible intro _|simp only[hlt,Y1,Y2,Y3,Y4]|with_reducible refine X ?_ ?_|refine⟨_,_,_,rfl,?_⟩|refine⟨_,rfl,?_⟩|refine And.intro (by first|omega|trivial|(show _=_;rfl)|(with_reducible constructor)<;>first|omega|trivial|rfl) ?_|fail
  exact Qi (hQ _ (by omega)) (by simp only [Ty.cnt];omega)
 ·intro i x xs hat _ ih2 m N' hN' hm
  have hb:=hat.b
  have hxc:=xX hat.m
  simp only [zI] at hm
  refine vK _ _ _ _ _ _ _ _ _ ?_
  repeat' first|with_reducible intro _|simp only[hat.lt,hat.w,oM,Y1,Y2,Y3,Y4]|with_reducible refine X ?_ ?_|refine⟨_,_,_,rfl,?_⟩|refine⟨_,rfl,?_⟩|refine And.intro (by first|omega|trivial|(show _=_;rfl)|(with_reducible constructor)<;>first|omega|trivial|rfl) ?_|refine (ih x hat.m _ hat.r (by omega)) _ _ ?_|fail
  rw [i64_in _ (by omega)]
  exact ih2 (m+x.cnt) _ (by omega) (by omega)
theorem qb:∀ (t:Ty) (d:D),t.Is d->t.cnt<=1073741824->zCW 175 [.dg 2 d] t.dep:=by
 refine Ty.ind fun k l ih d hd hc N Q hQ=>?_
 obtain ⟨a,es,c,rfl,hlen,hes⟩:=Ty.is_mk.1 hd
 simp only [Ty.cnt] at hc
 have hdl:=sQ l
 refine ry N _ Q fun _=>⟨_,_,_,rfl,?_⟩
 refine up hes hlen (fun i xs=>∀ (m:Nat) (N':Nat),N<=N'->max m (u9 xs)=u9 l->yN Q N m a es c es.length i N') ?_ ?_ 0 N (oF _) (by omega)
 ·intro i hlt _ m N' hN' hm
  refine wo _ _ _ _ _ _ _ _ _ ?_
  simp only [u9] at hm
  repeat' first|with_reducible intro _|simp only[hlt,Y1,Y2,Y3,Y4]|with_reducible refine X ?_ ?_|refine⟨_,_,_,rfl,?_⟩|refine⟨_,rfl,?_⟩|refine And.intro (by first|omega|trivial|(show _=_;rfl)|(with_reducible constructor)<;>first|omega|trivial|rfl) ?_|fail
  rw [i64_in _ (by omega)]
  exact Qi (hQ _ (by omega)) (by simp only [Ty.dep];omega)
 ·intro i x xs hat _ ih2 m N' hN' hm
  have hb:=hat.b
  have hxc:=xX hat.m
  simp only [u9] at hm
  refine wo _ _ _ _ _ _ _ _ _ ?_
  repeat' first|with_reducible intro _|simp only[hat.lt,hat.w,oM,Y1,Y2,Y3,Y4]|with_reducible refine X ?_ ?_|refine⟨_,_,_,rfl,?_⟩|refine⟨_,rfl,?_⟩|refine And.intro (by first|omega|trivial|(show _=_;rfl)|(with_reducible constructor)<;>first|omega|trivial|rfl) ?_|refine (ih x hat.m _ hat.r (by omega)) _ _ ?_|fail
  have e:(if (x.dep:Int)>(m:Int) then (x.dep:Int) else (m:Int))=((max m x.dep:Nat):Int):=by split<;>omega
  rw [e]
  exact ih2 _ _ (by omega) (by omega)
theorem zBN (t:Ty) (d:D) (hd:t.Is d):v3 177 [.dg 2 d] (tO t.k t.as.length):=fun N Q hQ=>by
 cases t with
 | mk k l=>
 obtain ⟨a,es,c,rfl,hlen,hes⟩:=Ty.is_mk.1 hd
 have hl:=hes.len
 simp only [Ty.k,Ty.as] at hQ
 refine sc N _ Q fun _=>?_
 cases hin:inB k 1 4 with
 | false=>
   repeat' first|with_reducible intro _|simp only[hin,Y1,Y2,Y3,Y4]|with_reducible refine X ?_ ?_|refine⟨_,_,_,rfl,?_⟩|refine⟨_,rfl,?_⟩|refine And.intro (by first|omega|trivial|(show _=_;rfl)|(with_reducible constructor)<;>first|omega|trivial|rfl) ?_|refine (yD _ _ _) _ _ ?_|fail
   refine Qb (hQ _ (by omega)) ?_
   have:¬(1<=k/\k<=4):=fun h=>by rw [xl.2 h] at hin;cases hin
   unfold tO
   rw [if_neg (by omega),if_neg (by omega),if_neg (by omega)]
 | true=>
   have hb:=xl.1 hin
   have w0:IntKind.i64.wrap 0=0:=rfl
   have w1:IntKind.i64.wrap 1=1:=rfl
   have w2:IntKind.i64.wrap 2=2:=rfl
   have w3:IntKind.i64.wrap 3=3:=rfl
   have hk:k=1\/k=2\/k=3\/k=4:=by omega
   rcases hk with rfl | rfl | rfl | rfl
   all_goals
    repeat' first|with_reducible intro _|simp only[hin,w0,w1,w2,w3,Y1,Y2,Y3,Y4]|with_reducible refine X ?_ ?_|refine⟨_,_,_,rfl,?_⟩|refine⟨_,rfl,?_⟩|refine And.intro (by first|omega|trivial|(show _=_;rfl)|(with_reducible constructor)<;>first|omega|trivial|rfl) ?_|refine (yD _ _ _) _ _ ?_|fail
    refine Qb (hQ _ (by omega)) ?_
    simp [tO,hl]
theorem zA0:∀ l:List Ty,vO l=!(l.any fun x=>!x.form)
 | []=>rfl
 | t::ts=>by simp only [vO,mm,zA0 ts];cases t.form<;>simp
theorem zAy {p:Ty->Bool} {l:List Ty} {es:List D} (h:All2 Ty.Is l es) (hlen:es.length<=4611686018427387904) (ad:Addr) (hp:∀ x∈l,∀ d,x.Is d->v3 221 [.dg 2 d,.pd ad 0 (.fn 177 [])] (p x)) (a:Option Addr) (c:Nat) :
  v3 220 [.sv a 2 es c,.fn 221 [.pd ad 0 (.fn 177 [])]] (l.any p):=fun N Q hQ=>by
 have hi:zCW 247 [.sv a 2 es c,.fn 221 [.pd ad 0 (.fn 177 [])]] (zCZ p l 0):=fun N Q hQ=>by
  refine vU N a es c ad Q fun _=>?_
  refine up h hlen (fun i xs=>∀ (N':Nat),N<=N'->(∀ N'',N'<=N''->Q (zCZ p xs i) N'')->zi Q N a es c ad es.length i N') ?_ ?_ N (oF _) hQ
  ·intro i hlt _ N' hN' hQ'
   refine xJ _ _ _ _ _ _ _ _ _ ?_
   repeat' first|with_reducible intro _|simp only[hlt,Y1,Y2,Y3,Y4]|with_reducible refine X ?_ ?_|refine⟨_,_,_,rfl,?_⟩|refine⟨_,rfl,?_⟩|refine And.intro (by first|omega|trivial|(show _=_;rfl)|(with_reducible constructor)<;>first|omega|trivial|rfl) ?_|fail
   exact hQ' _ (by omega)
  ·intro i x xs hat _ ih2 N' hN' hQ'
   have hb:=hat.b
   simp only [zCZ] at hQ'
   refine xJ _ _ _ _ _ _ _ _ _ ?_
   repeat' first|with_reducible intro _|simp only[hat.lt,hat.w,oM,Y1,Y2,Y3,Y4]|with_reducible refine X ?_ ?_|refine⟨_,_,_,rfl,?_⟩|refine⟨_,rfl,?_⟩|refine And.intro (by first|omega|trivial|(show _=_;rfl)|(with_reducible constructor)<;>first|omega|trivial|rfl) ?_|refine (hp x hat.m _ hat.r) _ _ ?_|fail
   ·exact Qi (hQ' _ (by omega)) (by rw [if_pos (by assumption)])
   ·rename_i h;exact ih2 _ (by omega) fun N'' h2=>Qi (hQ' _ (by omega)) (by rw [h];simp)
 refine wk N a es c ad Q fun _=>?_
 repeat' first|with_reducible intro _|simp only[Y1,Y2,Y3,Y4]|with_reducible refine X ?_ ?_|refine⟨_,_,_,rfl,?_⟩|refine⟨_,rfl,?_⟩|refine And.intro (by first|omega|trivial|(show _=_;rfl)|(with_reducible constructor)<;>first|omega|trivial|rfl) ?_|refine hi _ _ ?_|fail
 exact Qb (hQ _ (by omega)) (sH _ l 0 (by omega)).symm
theorem zIl:∀ (t:Ty) (d:D),t.Is d->v3 176 [.dg 2 d,.fn 177 []] t.form:=by
 refine Ty.ind fun k l ih d hd N Q hQ=>?_
 have hd':=hd
 obtain ⟨a,es,c,rfl,hlen,hes⟩:=Ty.is_mk.1 hd
 refine rq N _ Q fun _=>?_
 simp only [Ty.form,zA0] at hQ
 repeat' first|with_reducible intro _|simp only[Y1,Y2,Y3,Y4]|with_reducible refine X ?_ ?_|refine⟨_,_,_,rfl,?_⟩|refine⟨_,rfl,?_⟩|refine And.intro (by first|omega|trivial|(show _=_;rfl)|(with_reducible constructor)<;>first|omega|trivial|rfl) ?_|refine (zBN _ _ hd') _ _ ?_|refine (zAy hes hlen _ (fun x hx d hd=>fun N Q hQ=>sV N d _ Q fun _ N1 hN1=>ih x hx d hd N1 _ fun N2 hN2 hle N3 hN3=>hQ N3 (by omega)) _ _) _ _ ?_|fail
 ·have h:tO (Ty.mk k l).k (Ty.mk k l).as.length=true:=by assumption
  exact Qb (hQ _ (by omega)) (by simp only [Ty.k,Ty.as] at h;rw [h,Bool.and_true])
 ·rename_i h _ _
  exact Qb (hQ _ (by omega)) (by simp only [Ty.k,Ty.as] at h;rw [h,mi])
theorem yo (t:Ty) (d:D) (hd:t.Is d) (hc:t.cnt<=1073741824):v3 114 [.dg 2 d] t.valid:=fun N Q hQ=>by
 refine qW N _ Q fun _=>?_
 repeat' first|with_reducible intro _|simp only[Y1,Y2,Y3,Y4]|with_reducible refine X ?_ ?_|refine⟨_,_,_,rfl,?_⟩|refine⟨_,rfl,?_⟩|refine And.intro (by first|omega|trivial|(show _=_;rfl)|(with_reducible constructor)<;>first|omega|trivial|rfl) ?_|refine (pK t d hd hc) _ _ ?_|refine (qb t d hd hc) _ _ ?_|refine (zIl t d hd) _ _ ?_|fail
 ·refine Qb (hQ _ (by omega)) ?_
  have h1:t.cnt<=30:=by omega
  have h2:t.dep<=8:=by omega
  simp [Ty.valid, *]
 ·refine Qb (hQ _ (by omega)) ?_
  have h2:¬t.dep<=8:=by omega
  simp [Ty.valid, *]
 ·refine Qb (hQ _ (by omega)) ?_
  have h1:¬t.cnt<=30:=by omega
  simp [Ty.valid, *]
theorem zH:∀ (t u:Ty) (d e:D),t.Is d->u.Is e->v3 33 [.dg 2 d,.dg 2 e] (uN t u):=by
 refine Ty.ind fun k l ih u d e hd he N Q hQ=>?_
 cases u with
 | mk k' l'=>
 obtain ⟨a,es,c,rfl,hlen,hes⟩:=Ty.is_mk.1 hd
 obtain ⟨a',es',c',rfl,hlen',hes'⟩:=Ty.is_mk.1 he
 have hl:=hes.len
 have hl':=hes'.len
 simp only [uN] at hQ
 have hf:v3 98 [.sv a 2 es c,.sv a' 2 es' c',.fn 33 []] (ud l l'):=fun N Q hQ=>by
  have key:l.length=l'.length->∀ (N':Nat),N<=N'->(∀ N'',N'<=N''->Q (ud l (l'.drop 0)) N'')->zQ Q N a' es' c' a es c es.length (0:Nat) N':=by
   intro hll
   refine up hes hlen (fun i xs=>∀ (N':Nat),N<=N'->(∀ N'',N'<=N''->Q (ud xs (l'.drop i)) N'')->zQ Q N a' es' c' a es c es.length i N') ?_ ?_
   ·intro i hlt hi N' hN' hQ'
    refine xF _ _ _ _ _ _ _ _ _ _ _ ?_
    repeat' first|with_reducible intro _|simp only[hlt,Y1,Y2,Y3,Y4]|with_reducible refine X ?_ ?_|refine⟨_,_,_,rfl,?_⟩|refine⟨_,rfl,?_⟩|refine And.intro (by first|omega|trivial|(show _=_;rfl)|(with_reducible constructor)<;>first|omega|trivial|rfl) ?_|fail
    refine Qb (hQ' _ (by assumption)) ?_
    rw [mN (by omega)]
    rfl
   ·intro i x xs hat _ ih2 N' hN' hQ'
    have hb:=hat.b
    have hi':i<l'.length:=by omega
    have hg:l'[i]?=some l'[i]:=oD hi'
    have hd':l'.drop i=l'[i]::l'.drop (i+1):=List.drop_eq_getElem_cons hi'
    refine xF _ _ _ _ _ _ _ _ _ _ _ ?_
    rw [hd'] at hQ'
    repeat' first|with_reducible intro _|simp only[hat.lt,hat.w,oM,Y1,Y2,Y3,Y4]|with_reducible refine X ?_ ?_|refine⟨_,_,_,rfl,?_⟩|refine⟨_,rfl,?_⟩|refine And.intro (by first|omega|trivial|(show _=_;rfl)|(with_reducible constructor)<;>first|omega|trivial|rfl) ?_|refine (ih x hat.m _ _ _ hat.r (hes'.get hg)) _ _ ?_|fail
    ·exact Qb (hQ' _ (by omega)) (by simp [ud, *])
    ·exact ih2 _ (by omega) fun N'' h=>Qb (hQ' N'' (by omega)) (by simp [ud, *])
  refine vS N _ _ _ _ _ _ Q fun _ _=>?_
  repeat' first|with_reducible intro _|simp only[Y1,Y2,Y3,Y4]|with_reducible refine X ?_ ?_|refine⟨_,_,_,rfl,?_⟩|refine⟨_,rfl,?_⟩|refine And.intro (by first|omega|trivial|(show _=_;rfl)|(with_reducible constructor)<;>first|omega|trivial|rfl) ?_|fail
  ·exact Qb (hQ _ (by assumption)) (zBu (by omega))
  ·exact key (by omega) N (oF _) hQ
 refine zAC N _ _ Q fun _ _=>?_
 repeat' first|with_reducible intro _|simp only[Y1,Y2,Y3,Y4]|with_reducible refine X ?_ ?_|refine⟨_,_,_,rfl,?_⟩|refine⟨_,rfl,?_⟩|refine And.intro (by first|omega|trivial|(show _=_;rfl)|(with_reducible constructor)<;>first|omega|trivial|rfl) ?_|refine hf _ _ ?_|fail
 ·exact Qb (hQ _ (by omega)) (by simp [*])
 ·exact Qb (hQ _ (by omega)) (by simp [*])
theorem qh (t:Ty) (d:D) (hd:t.Is d):v3 102 [.dg 2 d] t.base:=fun N Q hQ=>by
 cases t with
 | mk k l=>
 obtain ⟨a,es,c,rfl,hlen,hes⟩:=Ty.is_mk.1 hd
 have hl:=hes.len
 have hin:inB k 1 2=(k==1||k==2):=by
  rw [nj,xl]
  simp
  omega
 refine zFH N _ Q fun _=>?_
 repeat' first|with_reducible intro _|simp only[Y1,Y2,Y3,Y4]|with_reducible refine X ?_ ?_|refine⟨_,_,_,rfl,?_⟩|refine⟨_,rfl,?_⟩|refine And.intro (by first|omega|trivial|(show _=_;rfl)|(with_reducible constructor)<;>first|omega|trivial|rfl) ?_|refine (yD _ _ _) _ _ ?_|fail
 all_goals (rename_i h _ _;rw [hin] at h;exact Qb (hQ _ (by omega)) (by simp only [Ty.base,Ty.k,Ty.as,h,hl];simp))
theorem sn (s:ByteArray):zCW 250 [.str s] (zEb s):=fun N Q hQ=>by
 refine zCr N s Q ?_
 repeat' first|with_reducible intro _|simp only[Y1,Y2,Y3,Y4]|with_reducible refine X ?_ ?_|refine⟨_,_,_,rfl,?_⟩|refine⟨_,rfl,?_⟩|refine And.intro (by first|omega|trivial|(show _=_;rfl)|(with_reducible constructor)<;>first|omega|trivial|rfl) ?_|fail
 all_goals (refine Qi (hQ _ (by assumption)) ?_;unfold zEb;(repeat' split)<;>first | rfl | contradiction)
def arI (k:Int) (nm:ByteArray):Int:=
 if k=4 then zEb nm else if k=5 then 3 else if k=7\/k=8 then 2 else if k=6\/k=9\/k=10\/k=11\/k=12\/k=13 then 1 else 0
theorem zGF {k n:Int} {nm ot:ByteArray} {t0 t1 r0 r1 x:D}:zCW 227 [.dg 9 (.ag [.lit (.int .i64 k),.lit (.string nm),.lit (.string ot),.lit (.int .i64 n),t0,t1,r0,r1,x])] (arI k nm):=fun N Q hQ=>by
 refine zGc N _ Q fun _=>?_
 repeat' first|with_reducible intro _|simp only[Y1,Y2,Y3,Y4]|with_reducible refine X ?_ ?_|refine⟨_,_,_,rfl,?_⟩|refine⟨_,rfl,?_⟩|refine And.intro (by first|omega|trivial|(show _=_;rfl)|(with_reducible constructor)<;>first|omega|trivial|rfl) ?_|refine (sn _) _ _ ?_|fail
 all_goals (refine Qi (hQ _ (by omega)) ?_;simp [arI, *])
theorem zB9 (n:Int):v3 238 [.int .i64 n] (inB n 0 10006):=fun N Q hQ=>by
 refine zBW N n Q ?_
 repeat' first|with_reducible intro _|simp only[Y1,Y2,Y3,Y4]|with_reducible refine X ?_ ?_|refine⟨_,_,_,rfl,?_⟩|refine⟨_,rfl,?_⟩|refine And.intro (by first|omega|trivial|(show _=_;rfl)|(with_reducible constructor)<;>first|omega|trivial|rfl) ?_|refine (yD _ _ _) _ _ ?_|fail
 exact hQ _ (by omega)
def zDE (k:Int) (nm ot:ByteArray) (n:Int) (ty re:Ty):Bool:=
 if k=1\/k=8 then u4 nm else if k=2 then inB n 0 10006 else if k=3 then inB n 0 1 else if k=4 then decide (zEb nm>0)
 else if k=6 then u4 nm&&ty.valid else if k=9 then u4 nm&&(u4 ot&&(!decide (nm=ot)&&(ty.valid&&re.valid))) else inB k 1 13
theorem zC6 {k n:Int} {nm ot:ByteArray} {ty re:Ty} {t0 t1 r0 r1 x:D} (h:Tm.Hd nm ot ty re t0 t1 r0 r1) (hc:ty.cnt<=1073741824) (hc2:re.cnt<=1073741824) :
  v3 228 [.dg 9 (.ag [.lit (.int .i64 k),.lit (.string nm),.lit (.string ot),.lit (.int .i64 n),t0,t1,r0,r1,x])] (zDE k nm ot n ty re):=fun N Q hQ=>by
 refine zDA N _ Q fun _=>?_
 repeat' first|with_reducible intro _|simp only[Y1,Y2,Y3,Y4]|with_reducible refine X ?_ ?_|refine⟨_,_,_,rfl,?_⟩|refine⟨_,rfl,?_⟩|refine And.intro (by first|omega|trivial|(show _=_;rfl)|(with_reducible constructor)<;>first|omega|trivial|rfl) ?_|refine (sn _) _ _ ?_|refine (uc _ h.nm) _ _ ?_|refine (uc _ h.ot) _ _ ?_|refine (zB9 _) _ _ ?_|refine (yD _ _ _) _ _ ?_|refine (yo _ _ h.ty hc) _ _ ?_|refine (yo _ _ h.re hc2) _ _ ?_|fail
 all_goals (refine Qb (hQ _ (by omega)) ?_;simp [zDE, *])
theorem t8 (t:Ty):uN t t=true:=(r5 t t).2 rfl
def zI7 (k:Int) (nm ot:ByteArray) (n:Int) (ty re:Ty) (m:Int):Bool:=
 decide (m=arI k nm)&&(zDE k nm ot n ty re&&((decide (k=1\/k=8\/k=4\/k=6\/k=9)||decide (nm=bytes []))&&((decide (k=9)||decide (ot=bytes []))&&((decide (k=2\/k=3)||decide (n=0)) &&
  ((decide (k=6\/k=9)||uN ty tZero)&&(decide (k=9)||uN re tZero))))))
theorem zC9 {k n:Int} {nm ot:ByteArray} {ty re:Ty} {t0 t1 r0 r1:D} {a:Option Addr} {es:List D} {c:Nat} (h:Tm.Hd nm ot ty re t0 t1 r0 r1) (hc:ty.cnt<=1073741824) (hc2:re.cnt<=1073741824) :
  v3 179 [.dg 9 (.ag [.lit (.int .i64 k),.lit (.string nm),.lit (.string ot),.lit (.int .i64 n),t0,t1,r0,r1,.sl a 9 es c])] (zI7 k nm ot n ty re es.length):=fun N Q hQ=>by
 refine zDv N _ Q fun _=>?_
 repeat' first|with_reducible intro _|simp only[Y1,Y2,Y3,Y4]|with_reducible refine X ?_ ?_|refine⟨_,_,_,rfl,?_⟩|refine⟨_,rfl,?_⟩|refine And.intro (by first|omega|trivial|(show _=_;rfl)|(with_reducible constructor)<;>first|omega|trivial|rfl) ?_|refine zGF _ _ ?_|refine (zC6 h hc hc2) _ _ ?_|refine (zH ty tZero _ _ h.ty yM) _ _ ?_|refine (zH re tZero _ _ h.re yM) _ _ ?_|refine (zH ty ty _ _ h.ty h.ty) _ _ ?_|refine (zH re re _ _ h.re h.re) _ _ ?_|fail
 all_goals first | (exfalso;omega) | (refine Qb (hQ _ (by omega)) ?_;simp [zI7,t8, *];done) | (refine Qb (hQ _ (by omega)) ?_;simp_all [zI7,t8];done)
theorem zNd (t:Ty):uN t tZero=t.zero:=by
 cases t with
 | mk k l => cases l<;>simp [uN,tZero,ud,Ty.zero,Ty.k,Ty.as]
             try omega
theorem zIw {t:Ty} (h:t.zero=true):t.valid=false:=by
 cases t with
 | mk k l=>
   simp only [Ty.zero,Ty.k,Ty.as,oL,mH] at h
   simp [Ty.valid,Ty.form,tO,h.1]
theorem zPu (n:Int):inB n 0 0=decide (n=0):=by
 rw [nj,xl,na];omega
theorem zp (t:Ty) (b:Bool):(!t.valid&&(t.zero&&b))=(t.zero&&b):=by
 cases h:t.zero with
 | false=>simp
 | true=>rw [zIw h];simp
theorem zMI (k:Int) (nm ot:ByteArray) (n:Int) (ty re:Ty) (m:Int) (hm:0<=m):zI7 k nm ot n ty re m=(yG k nm ot n ty re&&m==zFf k nm):=by
 by_cases hk:k=1\/k=2\/k=3\/k=4\/k=5\/k=6\/k=7\/k=8\/k=9\/k=10\/k=11\/k=12\/k=13
 ·rw [zPS m]
  have b5:inB 5 1 13=true:=rfl
  have b7:inB 7 1 13=true:=rfl
  have b10:inB 10 1 13=true:=rfl
  have b11:inB 11 1 13=true:=rfl
  have b12:inB 12 1 13=true:=rfl
  have b13:inB 13 1 13=true:=rfl
  rcases hk with rfl | rfl | rfl | rfl | rfl | rfl | rfl | rfl | rfl | rfl | rfl | rfl | rfl
  all_goals
   simp [zI7,arI,zDE,yG,zA7,tL,zFf,zNd,zPu,zp,b5,b7,b10,b11,b12,b13]
   try (rw [nj];simp [and_comm,and_left_comm,and_assoc])
 ·have h1:zFf k nm = -1:=by
   unfold zFf;rw [if_neg (by omega),if_neg (by omega),if_neg (by omega),if_neg (by omega),if_neg (by omega)]
  have h2:inB k 1 13=false:=by
   cases h:inB k 1 13 with
   | false=>rfl
   | true=>have:=xl.1 h;omega
  have h3:zDE k nm ot n ty re=false:=by
   unfold zDE;rw [if_neg (by omega),if_neg (by omega),if_neg (by omega),if_neg (by omega),if_neg (by omega),if_neg (by omega),h2]
  have h4:(m==zFf k nm)=false:=by rw [h1,zPS];exact decide_eq_false (by omega)
  rw [h4,zI7,h3]
  simp
theorem zLY {k n:Int} {nm ot:ByteArray} {ty re:Ty} {t0 t1 r0 r1:D} {a:Option Addr} {es:List D} {c:Nat} (h:Tm.Hd nm ot ty re t0 t1 r0 r1) (hc:ty.cnt<=1073741824) (hc2:re.cnt<=1073741824) :
  v3 179 [.dg 9 (.ag [.lit (.int .i64 k),.lit (.string nm),.lit (.string ot),.lit (.int .i64 n),t0,t1,r0,r1,.sl a 9 es c])] (yG k nm ot n ty re&&(es.length:Int)==zFf k nm):=by
 rw [<-zMI _ _ _ _ _ _ _ (by omega)]
 exact zC9 h hc hc2
theorem zGg:∀ l:List Tm,zC3 l=!(l.any fun x=>!x.ok)
 | []=>rfl
 | t::ts=>by simp only [zC3,mm,zGg ts];cases t.ok<;>simp
theorem zCQ {p:Tm->Bool} {l:List Tm} {es:List D} (h:All2 Tm.Is l es) (hlen:es.length<=4611686018427387904) (ad:Addr) (hp:∀ x∈l,∀ d,x.Is d->v3 189 [.dg 9 d,.pd ad 0 (.fn 179 [])] (p x)) (a:Option Addr) (c:Nat) :
  v3 188 [.sv a 9 es c,.fn 189 [.pd ad 0 (.fn 179 [])]] (l.any p):=fun N Q hQ=>by
 have hi:zCW 236 [.sv a 9 es c,.fn 189 [.pd ad 0 (.fn 179 [])]] (zCZ p l 0):=fun N Q hQ=>by
  refine vV N a es c ad Q fun _=>?_
  refine up h hlen (fun i xs=>∀ (N':Nat),N<=N'->(∀ N'',N'<=N''->Q (zCZ p xs i) N'')->zj Q N a es c ad es.length i N') ?_ ?_ N (oF _) hQ
  ·intro i hlt _ N' hN' hQ'
   refine xE _ _ _ _ _ _ _ _ _ ?_
   repeat' first|with_reducible intro _|simp only[hlt,Y1,Y2,Y3,Y4]|with_reducible refine X ?_ ?_|refine⟨_,_,_,rfl,?_⟩|refine⟨_,rfl,?_⟩|refine And.intro (by first|omega|trivial|(show _=_;rfl)|(with_reducible constructor)<;>first|omega|trivial|rfl) ?_|fail
   exact hQ' _ (by omega)
  ·intro i x xs hat _ ih2 N' hN' hQ'
   have hb:=hat.b
   simp only [zCZ] at hQ'
   refine xE _ _ _ _ _ _ _ _ _ ?_
   repeat' first|with_reducible intro _|simp only[hat.lt,hat.w,oM,Y1,Y2,Y3,Y4]|with_reducible refine X ?_ ?_|refine⟨_,_,_,rfl,?_⟩|refine⟨_,rfl,?_⟩|refine And.intro (by first|omega|trivial|(show _=_;rfl)|(with_reducible constructor)<;>first|omega|trivial|rfl) ?_|refine (hp x hat.m _ hat.r) _ _ ?_|fail
   ·exact Qi (hQ' _ (by omega)) (by rw [if_pos (by assumption)])
   ·rename_i h;exact ih2 _ (by omega) fun N'' h2=>Qi (hQ' _ (by omega)) (by rw [h];simp)
 refine wl N a es c ad Q fun _=>?_
 repeat' first|with_reducible intro _|simp only[Y1,Y2,Y3,Y4]|with_reducible refine X ?_ ?_|refine⟨_,_,_,rfl,?_⟩|refine⟨_,rfl,?_⟩|refine And.intro (by first|omega|trivial|(show _=_;rfl)|(with_reducible constructor)<;>first|omega|trivial|rfl) ?_|refine hi _ _ ?_|fail
 exact Qb (hQ _ (by omega)) (sH _ l 0 (by omega)).symm
theorem zJA:∀ (t:Tm) (d:D),t.Is d->t.cnt<=1073741824->v3 133 [.dg 9 d,.fn 179 []] t.ok:=by
 refine Tm.ind fun k nm ot n ty re l ih d hd hc N Q hQ=>?_
 obtain ⟨t0,t1,r0,r1,a,es,c,rfl,hh,hlen,hes⟩:=Tm.is_mk.1 hd
 have hl:=hes.len
 simp only [Tm.cnt] at hc
 refine rZ N _ Q fun _=>?_
 simp only [Tm.ok,zGg,<-hl] at hQ
 repeat' first|with_reducible intro _|simp only[Y1,Y2,Y3,Y4]|with_reducible refine X ?_ ?_|refine⟨_,_,_,rfl,?_⟩|refine⟨_,rfl,?_⟩|refine And.intro (by first|omega|trivial|(show _=_;rfl)|(with_reducible constructor)<;>first|omega|trivial|rfl) ?_|refine (zLY hh (by omega) (by omega)) _ _ ?_|refine (zCQ hes hlen _ (fun x hx d hd=>fun N Q hQ=>sY N d _ Q fun _ N1 hN1=>ih x hx d hd (by have:=yu hx;omega) N1 _ fun N2 hN2 hle N3 hN3=>hQ N3 (by omega)) _ _) _ _ ?_|fail
 ·have h:(yG k nm ot n ty re&&(es.length:Int)==zFf k nm)=true:=by assumption
  exact Qb (hQ _ (by omega)) (by rw [h,Bool.and_true])
 ·have h:(yG k nm ot n ty re&&(es.length:Int)==zFf k nm)=false:=by assumption
  exact Qb (hQ _ (by omega)) (by rw [h,mi])
theorem qV (t:Tm) (d:D) (hd:t.Is d) (hc:t.cnt<=1073741824):v3 119 [.dg 9 d] t.ok:=fun N Q hQ=>by
 refine zEz N _ Q fun _=>?_
 repeat' first|with_reducible intro _|simp only[Y1,Y2,Y3,Y4]|with_reducible refine X ?_ ?_|refine⟨_,_,_,rfl,?_⟩|refine⟨_,rfl,?_⟩|refine And.intro (by first|omega|trivial|(show _=_;rfl)|(with_reducible constructor)<;>first|omega|trivial|rfl) ?_|refine (zJA t d hd hc) _ _ ?_|fail
 exact hQ _ (by omega)
theorem zG6 {k n m:Int} {c1 c2 c4 c5 c6 c7 c8:D} (h:0<=m/\m<=2):zCW 207 [.dg 9 (.ag [.lit (.int .i64 k),c1,c2,.lit (.int .i64 n),c4,c5,c6,c7,c8]),.int .i64 m] (zr k m):=fun N Q hQ=>by
 refine zAd N _ m Q fun _=>?_
 rw [i64_in (m+1) (by omega),i64_in (m - 1) (by omega)]
 repeat' first|with_reducible intro _|simp only[Y1,Y2,Y3,Y4]|with_reducible refine X ?_ ?_|refine⟨_,_,_,rfl,?_⟩|refine⟨_,rfl,?_⟩|refine And.intro (by first|omega|trivial|(show _=_;rfl)|(with_reducible constructor)<;>first|omega|trivial|rfl) ?_|fail
 all_goals (refine Qi (hQ _ (by omega)) ?_;simp [zr, *])
theorem zAA (d:D) (m:Int):v3 164 [.dg 9 d,.int .i64 m] (inB m 0 2):=fun N Q hQ=>by
 refine qm N _ m Q fun _=>?_
 repeat' first|with_reducible intro _|simp only[Y1,Y2,Y3,Y4]|with_reducible refine X ?_ ?_|refine⟨_,_,_,rfl,?_⟩|refine⟨_,rfl,?_⟩|refine And.intro (by first|omega|trivial|(show _=_;rfl)|(with_reducible constructor)<;>first|omega|trivial|rfl) ?_|refine (yD _ _ _) _ _ ?_|fail
 exact hQ _ (by omega)
theorem zLu:∀ (t:Tm) (d:D),t.Is d->∀ m:Int,v3 163 [.dg 9 d,.int .i64 m,.fn 164 []] (t.lev m):=by
 refine Tm.ind fun k nm ot n ty re l ih d hd m N Q hQ=>?_
 obtain ⟨t0,t1,r0,r1,a,es,c,rfl,hh,hlen,hes⟩:=Tm.is_mk.1 hd
 have hl:=hes.len
 refine zAD N _ m Q fun _=>?_
 cases hin:inB m 0 2 with
 | false=>
   repeat' first|with_reducible intro _|simp only[hin,Y1,Y2,Y3,Y4]|with_reducible refine X ?_ ?_|refine⟨_,_,_,rfl,?_⟩|refine⟨_,rfl,?_⟩|refine And.intro (by first|omega|trivial|(show _=_;rfl)|(with_reducible constructor)<;>first|omega|trivial|rfl) ?_|refine (zAA _ _) _ _ ?_|fail
   exact Qb (hQ _ (by omega)) (by simp [Tm.lev,hin])
 | true=>
   have hb:=xl.1 hin
   have key:=up hes hlen (fun i xs=>∀ (N':Nat),N<=N'->(∀ N'',N'<=N''->Q (uo xs (zr k m)) N'')->xo Q N m a es c es.length i (.ag [.lit (.int .i64 k),.lit (.string nm),.lit (.string ot),.lit (.int .i64 n),t0,t1,r0,r1,.sl a 9 es c]) N') ?_ ?_
   ·repeat' first|with_reducible intro _|simp only[hin,Y1,Y2,Y3,Y4]|with_reducible refine X ?_ ?_|refine⟨_,_,_,rfl,?_⟩|refine⟨_,rfl,?_⟩|refine And.intro (by first|omega|trivial|(show _=_;rfl)|(with_reducible constructor)<;>first|omega|trivial|rfl) ?_|refine (zAA _ _) _ _ ?_|fail
    exact key _ (by omega) fun N'' h=>Qb (hQ N'' (by omega)) (by simp [Tm.lev,hin])
   ·intro i hlt _ N' hN' hQ'
    refine tS _ _ _ _ _ _ _ _ _ _ ?_
    repeat' first|with_reducible intro _|simp only[hlt,Y1,Y2,Y3,Y4]|with_reducible refine X ?_ ?_|refine⟨_,_,_,rfl,?_⟩|refine⟨_,rfl,?_⟩|refine And.intro (by first|omega|trivial|(show _=_;rfl)|(with_reducible constructor)<;>first|omega|trivial|rfl) ?_|fail
    exact Qb (hQ' _ (by omega)) (by simp [uo])
   ·intro i x xs hat _ ih2 N' hN' hQ'
    have hb2:=hat.b
    refine tS _ _ _ _ _ _ _ _ _ _ ?_
    repeat' first|with_reducible intro _|simp only[hat.lt,hat.w,oM,Y1,Y2,Y3,Y4]|with_reducible refine X ?_ ?_|refine⟨_,_,_,rfl,?_⟩|refine⟨_,rfl,?_⟩|refine And.intro (by first|omega|trivial|(show _=_;rfl)|(with_reducible constructor)<;>first|omega|trivial|rfl) ?_|refine (zG6 hb) _ _ ?_|refine (ih x hat.m _ hat.r _) _ _ ?_|fail
    ·refine Qb (hQ' _ (by omega)) ?_;simp [uo, *]
    ·exact ih2 _ (by omega) fun N'' h=>Qb (hQ' N'' (by omega)) (by simp [uo, *])
theorem tq (t:Tm) (d:D) (hd:t.Is d) (hc:t.cnt<=1073741824) (m:Int):v3 94 [.dg 9 d,.int .i64 m] (zEC t m):=fun N Q hQ=>by
 refine zBl N _ m Q fun _=>?_
 repeat' first|with_reducible intro _|simp only[Y1,Y2,Y3,Y4]|with_reducible refine X ?_ ?_|refine⟨_,_,_,rfl,?_⟩|refine⟨_,rfl,?_⟩|refine And.intro (by first|omega|trivial|(show _=_;rfl)|(with_reducible constructor)<;>first|omega|trivial|rfl) ?_|refine (qV t d hd hc) _ _ ?_|refine (zLu t d hd m) _ _ ?_|fail
 all_goals (refine Qb (hQ _ (by omega)) ?_;simp [zEC, *])
theorem zJj (x:Tg) (d:D) (hd:x.Is d) (hc:x.ty.cnt<=1073741824):v3 112 [.dg 4 d] (!x.ok):=fun N Q hQ=>by
 obtain ⟨t0,t1,rfl,hs,ht⟩:=hd
 refine zCf N _ Q fun _=>?_
 repeat' first|with_reducible intro _|simp only[Y1,Y2,Y3,Y4]|with_reducible refine X ?_ ?_|refine⟨_,_,_,rfl,?_⟩|refine⟨_,rfl,?_⟩|refine And.intro (by first|omega|trivial|(show _=_;rfl)|(with_reducible constructor)<;>first|omega|trivial|rfl) ?_|refine (uc _ hs) _ _ ?_|refine (yo _ _ ht hc) _ _ ?_|refine (yD _ _ _) _ _ ?_|fail
 all_goals (refine Qb (hQ _ (by omega)) ?_;simp [Tg.ok, *])
theorem zGX:∀ l:List Tg,zAx l=!(l.any fun x=>!x.ok)
 | []=>rfl
 | t::ts=>by simp only [zAx,mm,zGX ts];cases t.ok<;>simp
theorem vk {g:List Tg} {es:List D} (h:Ctx g es) (hc:∀ x∈g,x.ty.cnt<=1073741824) (a:Option Addr) (c:Nat):v3 43 [.sv a 4 es c] (zBy g):=fun N Q hQ=>by
 have hl:=h.all.len
 have hi:zCW 172 [.sv a 4 es c,.fn 112 []] (zCZ (fun x=>!x.ok) g 0):=fun N Q hQ=>by
  refine w5 N a es c Q fun _=>?_
  refine up h.all h.len (fun i xs=>∀ (N':Nat),N<=N'->(∀ N'',N'<=N''->Q (zCZ (fun x=>!x.ok) xs i) N'')->zV Q N a es c es.length i N') ?_ ?_ N (oF _) hQ
  ·intro i hlt _ N' hN' hQ'
   refine yx _ _ _ _ _ _ _ _ ?_
   repeat' first|with_reducible intro _|simp only[hlt,Y1,Y2,Y3,Y4]|with_reducible refine X ?_ ?_|refine⟨_,_,_,rfl,?_⟩|refine⟨_,rfl,?_⟩|refine And.intro (by first|omega|trivial|(show _=_;rfl)|(with_reducible constructor)<;>first|omega|trivial|rfl) ?_|fail
   exact hQ' _ (by omega)
  ·intro i x xs hat _ ih2 N' hN' hQ'
   have hb:=hat.b
   simp only [zCZ] at hQ'
   refine yx _ _ _ _ _ _ _ _ ?_
   repeat' first|with_reducible intro _|simp only[hat.lt,hat.w,oM,Y1,Y2,Y3,Y4]|with_reducible refine X ?_ ?_|refine⟨_,_,_,rfl,?_⟩|refine⟨_,rfl,?_⟩|refine And.intro (by first|omega|trivial|(show _=_;rfl)|(with_reducible constructor)<;>first|omega|trivial|rfl) ?_|refine (zJj x _ hat.r (hc x hat.m)) _ _ ?_|fail
   all_goals first
    | exact Qi (hQ' _ (by omega)) (by rw [if_pos (by simp [*])])
    | exact ih2 _ (by omega) fun N'' h2=>Qi (hQ' _ (by omega)) (by rw [if_neg (by simp [*])];simp)
 have hcf:v3 111 [.sv a 4 es c,.fn 112 []] (g.any fun x=>!x.ok):=fun N Q hQ=>by
  refine wM N a es c Q fun _=>?_
  repeat' first|with_reducible intro _|simp only[Y1,Y2,Y3,Y4]|with_reducible refine X ?_ ?_|refine⟨_,_,_,rfl,?_⟩|refine⟨_,rfl,?_⟩|refine And.intro (by first|omega|trivial|(show _=_;rfl)|(with_reducible constructor)<;>first|omega|trivial|rfl) ?_|refine hi _ _ ?_|fail
  exact Qb (hQ _ (by omega)) (sH _ g 0 (by omega)).symm
 refine zGr N a es c Q fun _=>?_
 repeat' first|with_reducible intro _|simp only[Y1,Y2,Y3,Y4]|with_reducible refine X ?_ ?_|refine⟨_,_,_,rfl,?_⟩|refine⟨_,rfl,?_⟩|refine And.intro (by first|omega|trivial|(show _=_;rfl)|(with_reducible constructor)<;>first|omega|trivial|rfl) ?_|refine hcf _ _ ?_|fail
 ·exact Qb (hQ _ (by omega)) (by have:(g.length:Int)<=12:=by omega
                                 simp [zBy,zGX,this])
 ·exact Qb (hQ _ (by omega)) (by have:¬(g.length:Int)<=12:=by omega
                                 simp [zBy,this])
theorem pF {g:List Tg} {es:List D} (h:Ctx g es) (a:Option Addr) (c:Nat) (s:ByteArray):zCW 103 [.sv a 4 es c,.str s] (zC g s):=fun N Q hQ=>by
 have hl:=h.all.len
 have h1:=h.len
 refine zB3 N a es c s Q fun _=>?_
 have key:=zPj h.all h.len (fun m=>∀ (N':Nat),N<=N'->(∀ N'',N'<=N''->Q (xc g s (m+1).toNat) N'')->y6 Q N a es c s m N') ?_ ?_
 ·rw [i64_in _ (by omega)]
  exact key N (oF _) fun N' hN'=>Qi (hQ N' hN') (by rw [zC,<-hl];congr 1;omega)
 ·intro N' hN' hQ'
  refine uC _ _ _ _ _ _ _ _ ?_
  repeat' first|with_reducible intro _|simp only[Y1,Y2,Y3,Y4]|with_reducible refine X ?_ ?_|refine⟨_,_,_,rfl,?_⟩|refine⟨_,rfl,?_⟩|refine And.intro (by first|omega|trivial|(show _=_;rfl)|(with_reducible constructor)<;>first|omega|trivial|rfl) ?_|fail
  ·omega
  ·exact hQ' _ (by assumption)
 ·intro i x hat hge hw ih N' hN' hQ'
  have hb:=hat.b
  obtain ⟨t0,t1,hd,hs,ht⟩:=hat.r
  have e1:((i:Int)+1).toNat=i+1:=by omega
  have e2:((i:Int) - 1+1).toNat=i:=by omega
  rw [e1] at hQ'
  simp only [xc,zCD hat.g] at hQ'
  rw [e2] at ih
  refine uC _ _ _ _ _ _ _ _ ?_
  repeat' first|with_reducible intro _|simp only[hge,hw,oM,hd,Y1,Y2,Y3,Y4]|with_reducible refine X ?_ ?_|refine⟨_,_,_,rfl,?_⟩|refine⟨_,rfl,?_⟩|refine And.intro (by first|omega|trivial|(show _=_;rfl)|(with_reducible constructor)<;>first|omega|trivial|rfl) ?_|fail
  ·rename_i hx _ _;exact Qi (hQ' _ (by omega)) (by rw [if_pos hx])
  ·rename_i hx;exact ih _ (by omega) fun N'' h=>Qi (hQ' N'' (by omega)) (by rw [if_neg hx])
theorem zHr:∀ (t:Ty) (d:D),t.Is d->t.cnt<=1073741824->zAQ 104 [.dg 2 d] t:=by
 refine Ty.ind fun k l ih d hd hc N Q hQ=>?_
 obtain ⟨a,es,c,rfl,hlen,hes⟩:=Ty.is_mk.1 hd
 have hl:=hes.len
 simp only [Ty.cnt] at hc
 have hlc:=rE l
 refine zCL N _ Q fun _=>⟨_,rfl,_,_,_,rfl,?_⟩
 have key:=up hes hlen (fun i xs=>∀ (N':Nat),N<=N'->(i=0->wP Q N a es c es.length i 0 none [] 0 k none [] 0 N')/\∀ (m q:Nat) (r:List D),m=r.length->All2 Ty.Is (l.take i) r->OwnL N N' r ->
  yO Q N a es c es.length i 0 none [] 0 k m q r q N') ?_ ?_
 ·exact (key N (oF _)).1 rfl
 ·intro i hlt hi N' hN'
  refine ⟨fun h0=>v9 _ _ _ _ _ _ _ _ _ _ _ _ _ _ _ _ ?_,fun m q r hm hr ho=>wq _ _ _ _ _ _ _ _ _ _ _ _ _ _ _ _ _ ?_⟩
  ·repeat' first|with_reducible intro _|simp only[hlt,Y1,Y2,Y3,Y4]|with_reducible refine X ?_ ?_|refine⟨_,_,_,rfl,?_⟩|refine⟨_,rfl,?_⟩|refine And.intro (by first|omega|trivial|(show _=_;rfl)|(with_reducible constructor)<;>first|omega|trivial|rfl) ?_|fail
   have:l=[]:=om (by omega)
   subst this
   exact hQ _ _ (by omega) (yv _) yL
  ·repeat' first|with_reducible intro _|simp only[hlt,Y1,Y2,Y3,Y4]|with_reducible refine X ?_ ?_|refine⟨_,_,_,rfl,?_⟩|refine⟨_,rfl,?_⟩|refine And.intro (by first|omega|trivial|(show _=_;rfl)|(with_reducible constructor)<;>first|omega|trivial|rfl) ?_|fail
   rename_i a' N3 hN3 hf N4 hN4
   rw [nU (by omega)] at hr
   exact hQ _ _ (by omega) (Ty.is_mk.2 ⟨_,_,_,rfl,by have:=hr.len;omega,hr⟩) (zBz (xR (yF ((pj ho hf (by omega)).mono (oF _) hN4))))
 ·intro i x xs hat _ ih2 N' hN'
  have hb:=hat.b
  have hxc:=xX hat.m
  refine ⟨fun h0=>v9 _ _ _ _ _ _ _ _ _ _ _ _ _ _ _ _ ?_,fun m q r hm hr ho=>wq _ _ _ _ _ _ _ _ _ _ _ _ _ _ _ _ _ ?_⟩
  ·repeat' first|with_reducible intro _|simp only[hat.lt,hat.w,oM,Y1,Y2,Y3,Y4]|with_reducible refine X ?_ ?_|refine⟨_,_,_,rfl,?_⟩|refine⟨_,rfl,?_⟩|refine And.intro (by first|omega|trivial|(show _=_;rfl)|(with_reducible constructor)<;>first|omega|trivial|rfl) ?_|refine (ih x hat.m _ hat.r (by omega)) _ _ ?_|fail
   rename_i N2 hN2 d' N3 hN3 hx hox hle hbel
   subst h0
   exact ⟨by unfold zA;simp,fun c2=>(ih2 _ (by omega)).2 _ _ _ rfl (by rw [rD hat.g];exact ⟨_,_,rfl,hx,rfl⟩) (yF (hox.mono (by omega) (oF _)))⟩
  ·repeat' first|with_reducible intro _|simp only[hat.lt,hat.w,oM,Y1,Y2,Y3,Y4]|with_reducible refine X ?_ ?_|refine⟨_,_,_,rfl,?_⟩|refine⟨_,rfl,?_⟩|refine And.intro (by first|omega|trivial|(show _=_;rfl)|(with_reducible constructor)<;>first|omega|trivial|rfl) ?_|refine (ih x hat.m _ hat.r (by omega)) _ _ ?_|fail
   rename_i N2 hN2 d' N3 hN3 hx hox hle hbel
   have hrl:=hr.len
   have hli:(l.take i).length=i:=by rw [nX];omega
   refine ⟨by unfold zA;simp only [oH,nK];omega,fun c2=>?_⟩
   exact (ih2 _ (by omega)).2 _ _ _ rfl (by rw [rD hat.g];exact hr.snoc hx) (vH (ho.mono (oF _) hN2) (yF hox) (by omega) hN3)
theorem zJi:zAQ 209 [] tInt:=fun N Q hQ=>zGE N Q fun N' hN'=>hQ _ _ hN' (yv _) yL
theorem zEU:zAQ 210 [] tBool:=fun N Q hQ=>zFE N Q fun N' hN'=>hQ _ _ hN' (yv _) yL
theorem zJn (t u:Ty) (d e:D) (hd:t.Is d) (he:u.Is e) (hct:t.cnt<=1073741824) (hcu:u.cnt<=1073741824):zAQ 213 [.dg 2 d,.dg 2 e] (wQ t u):=fun N Q hQ=>by
 refine zFo N _ _ Q fun _ _=>?_
 repeat' first|with_reducible intro _|simp only[Y1,Y2,Y3,Y4]|with_reducible refine X ?_ ?_|refine⟨_,_,_,rfl,?_⟩|refine⟨_,rfl,?_⟩|refine And.intro (by first|omega|trivial|(show _=_;rfl)|(with_reducible constructor)<;>first|omega|trivial|rfl) ?_|refine (zHr t d hd hct) _ _ ?_|refine (zHr u e he hcu) _ _ ?_|fail
 rename_i N1 hN1 d1 N2 hN2 h1 o1 hl1 b1 N3 hN3 d2 N4 hN4 h2 o2 hl2 b2 a' N5 hN5 hf N6 hN6
 exact hQ _ _ (by omega) (Ty.is_mk.2 ⟨_,_,_,rfl,by simp,_,_,rfl,h1,_,_,rfl,h2,rfl⟩)
  (zBz (xR (yF ((pj (vH ((yF o1).mono hN1 hN3) (yF o2) (by omega) hN4) hf (by omega)).mono (oF _) hN6))))
theorem zIf (t:Ty) (d:D) (hd:t.Is d) (hct:t.cnt<=1073741824):zAQ 244 [.dg 2 d] (wg t):=fun N Q hQ=>by
 refine zEL N _ Q fun _=>?_
 repeat' first|with_reducible intro _|simp only[Y1,Y2,Y3,Y4]|with_reducible refine X ?_ ?_|refine⟨_,_,_,rfl,?_⟩|refine⟨_,rfl,?_⟩|refine And.intro (by first|omega|trivial|(show _=_;rfl)|(with_reducible constructor)<;>first|omega|trivial|rfl) ?_|refine (zHr t d hd hct) _ _ ?_|fail
 rename_i N1 hN1 d1 N2 hN2 h1 o1 hl1 b1 a' N5 hN5 hf N6 hN6
 exact hQ _ _ (by omega) (Ty.is_mk.2 ⟨_,_,_,rfl,by simp,_,_,rfl,h1,rfl⟩)
  (zBz (xR (yF ((pj ((yF o1).mono hN1 (oF _)) hf (by omega)).mono (oF _) hN6))))
/-- the part of a code type -/
def p7 (t:Ty):Ty:=if t.k=4 then t.as.getD 0 tZero else tZero
theorem zHy (t:Ty) (d:D) (hd:t.Is d) (hv:t.valid=true\/t=tZero):zAQ 245 [.dg 2 d] (p7 t):=fun N Q hQ=>by
 cases t with
 | mk k l=>
 obtain ⟨a,es,c,rfl,hlen,hes⟩:=Ty.is_mk.1 hd
 refine zES N _ Q fun _=>?_
 by_cases hk:k=4
 ·subst hk
  rcases hv with hv | hv
  ·have hf:=Ty.form_len hv
   have hcn:=Ty.valid_cnt hv
   have hl1:(l.length:Int)=1:=by simpa [tO] using hf
   obtain ⟨u,rfl⟩:=p6 (l:=l) (by omega)
   obtain ⟨x0,_,rfl,hx0,rfl⟩:=hes
   simp only [Ty.cnt,zI] at hcn
   have e:p7 (.mk 4 [u])=u:=rfl
   rw [e] at hQ
   repeat' first|with_reducible intro _|simp only[oN,oP,Y1,Y2,Y3,Y4]|with_reducible refine X ?_ ?_|refine⟨_,_,_,rfl,?_⟩|refine⟨_,rfl,?_⟩|refine And.intro (by first|omega|trivial|(show _=_;rfl)|(with_reducible constructor)<;>first|omega|trivial|rfl) ?_|refine (zHr u _ hx0 (by omega)) _ _ ?_|fail
   all_goals first | (exfalso;omega) | skip
   rename_i N1 hN1 d1 N2 hN2 h1 o1 hl1 b1 N3 hN3
   exact hQ _ _ (by omega) h1 (o1.mono (by omega) (by omega))
  ·cases hv
 ·have e:p7 (.mk k l)=tZero:=by unfold p7;exact if_neg hk
  rw [e] at hQ
  repeat' first|with_reducible intro _|simp only[Y1,Y2,Y3,Y4]|with_reducible refine X ?_ ?_|refine⟨_,_,_,rfl,?_⟩|refine⟨_,rfl,?_⟩|refine And.intro (by first|omega|trivial|(show _=_;rfl)|(with_reducible constructor)<;>first|omega|trivial|rfl) ?_|fail
  all_goals first | (exfalso;omega) | skip
  exact hQ _ _ (by omega) yM yL
def qv (u:Ty):List Ty->Bool
 | []=>true
 | t::ts=>uN t u&&qv u ts
def rG (s:ByteArray):Ty:=if s=bytes [61] then tInt else if s=bytes [60] then tInt else if s=bytes [38] then tBool else if s=bytes [124] then tBool else if s=bytes [33] then tBool else tInt
def pi (s:ByteArray):Ty:=if s=bytes [61] then tBool else if s=bytes [60] then tBool else if s=bytes [38] then tBool else if s=bytes [124] then tBool else if s=bytes [33] then tBool else tInt
theorem zLd {ts:List Ty} {es:List D} (h:All2 Ty.Is ts es) (hlen:es.length<=4611686018427387904) (a:Option Addr) (c:Nat) (s:ByteArray) :
  zAQ 211 [.str s,.sv a 2 es c] (if qv (rG s) ts then pi s else tZero):=fun N Q hQ=>by
 have key:∀ (u v:Ty) (d e:D) (N0 N1:Nat),u.Is d->v.Is e->Own N N1 e->N<=N1->rG s=u->pi s=v->zN Q N a es c es.length (0:Nat) 0 none [] 0 d e N1:=by
  intro u v d e N0 N1 hd he ho hN1 hu hv
  subst hu hv
  refine up h hlen (fun i xs=>∀ (N':Nat),N1<=N'->qv (rG s) xs=qv (rG s) ts->zN Q N a es c es.length i 0 none [] 0 d e N') ?_ ?_ N1 (oF _) rfl
  ·intro i hlt _ N' hN' hk
   refine ux _ _ _ _ _ _ _ _ _ _ _ _ _ _ ?_
   rw [<-hk] at hQ
   repeat' first|with_reducible intro _|simp only[hlt,Y1,Y2,Y3,Y4]|with_reducible refine X ?_ ?_|refine⟨_,_,_,rfl,?_⟩|refine⟨_,rfl,?_⟩|refine And.intro (by first|omega|trivial|(show _=_;rfl)|(with_reducible constructor)<;>first|omega|trivial|rfl) ?_|fail
   exact hQ _ _ (by omega) he (ho.mono (oF _) (by omega))
  ·intro i x xs hat _ ih2 N' hN' hk
   have hb:=hat.b
   refine ux _ _ _ _ _ _ _ _ _ _ _ _ _ _ ?_
   repeat' first|with_reducible intro _|simp only[hat.lt,hat.w,oM,Y1,Y2,Y3,Y4]|with_reducible refine X ?_ ?_|refine⟨_,_,_,rfl,?_⟩|refine⟨_,rfl,?_⟩|refine And.intro (by first|omega|trivial|(show _=_;rfl)|(with_reducible constructor)<;>first|omega|trivial|rfl) ?_|refine (zH x _ _ _ hat.r hd) _ _ ?_|fail
   ·rename_i hne _ _
    rw [<-hk,qv,hne] at hQ
    exact hQ _ _ (by omega) yM yL
   ·rename_i hne
    exact ih2 _ (by omega) (by rw [<-hk,qv,hne,Bool.true_and])
 refine zEH N s a es c Q fun _=>?_
 repeat' first|with_reducible intro _|simp only[Y1,Y2,Y3,Y4]|with_reducible refine X ?_ ?_|refine⟨_,_,_,rfl,?_⟩|refine⟨_,rfl,?_⟩|refine And.intro (by first|omega|trivial|(show _=_;rfl)|(with_reducible constructor)<;>first|omega|trivial|rfl) ?_|refine zJi _ _ ?_|refine zEU _ _ ?_|fail
 all_goals first
  | exact key tInt tBool _ _ 0 _ (by assumption) (by assumption) (Own.mono (by assumption) (by omega) (by omega)) (by omega) (by unfold rG;(repeat' split)<;>first | rfl | contradiction) (by unfold pi;(repeat' split)<;>first | rfl | contradiction)
  | exact key tBool tBool _ _ 0 _ (by assumption) (by assumption) (Own.mono (by assumption) (by omega) (by omega)) (by omega) (by unfold rG;(repeat' split)<;>first | rfl | contradiction) (by unfold pi;(repeat' split)<;>first | rfl | contradiction)
  | exact key tInt tInt _ _ 0 _ (by assumption) (by assumption) (Own.mono (by assumption) (by omega) (by omega)) (by omega) (by unfold rG;(repeat' split)<;>first | rfl | contradiction) (by unfold pi;(repeat' split)<;>first | rfl | contradiction)
theorem zOF {f:FuncId} {rs:List Sh} {args:List PV} {N z c:Nat} {Q:QT rs} {es:List D} (hc:yb prog f=true) (hm:PV.sv none z es c∈args) (hne:es≠[]):ACalls prog f rs args N Q:=
 ⟨hc,fun av w0 _ _ hok=>by
  have h:=(hok _ hm).1.1
  cases h
  exact absurd rfl hne⟩
theorem zNn {g:List Tg} {es:List D} (h:Ctx g es) (hg:g.length<=1073741824) (a:Option Addr) (c:Nat) (N:Nat) (Q:QT [.row 65 4]) (hQ:∀ c' N',N<=N'->Q es c' N'):ACalls prog 243 [.row 65 4] [.sv a 4 es c] N Q:=by
 have hl:=h.all.len
 have hb0:zA [] es 56:=by unfold zA;simp only [oY];omega
 have main:(a=none->es=[])->ACalls prog 243 [.row 65 4] [.sv a 4 es c] N Q:=fun hn=>by
  refine tj N a es c Q fun _=>?_
  repeat' first|with_reducible intro _|simp only[Y1,Y2,Y3,Y4]|with_reducible refine X ?_ ?_|refine⟨_,_,_,rfl,?_⟩|refine⟨_,rfl,?_⟩|refine And.intro (by first|omega|trivial|(show _=_;rfl)|(with_reducible constructor)<;>first|omega|trivial|rfl) ?_|fail
  ·rename_i hi N1 hN1
   have:es=[]:=hn (by simpa using hi)
   subst this
   exact hQ _ _ hN1
  ·simp only [oY]
   exact hQ _ _ (by omega)
 cases a with
 | some ad=>exact main (by simp)
 | none=>
   by_cases hne:es=[]
   ·exact main fun _=>hne
   ·exact zOF (z:=4) (c:=c) (es:=es) (by kernel_rfl) (by simp) hne
theorem rJ {a:Option Addr} {z c:Nat} {es:List D}:∀ x∈(D.sl a z es c).foot,x∈zE es\/∃ ad,a=some ad/\x=ad.block:=by
 intro x hx
 cases a with
 | none=>simp only [D.foot] at hx;exact .inl hx
 | some ad=>
   simp only [D.foot] at hx
   split at hx
   ·simp at hx
   ·rcases oG.1 hx with rfl | hx
    ·exact .inr ⟨ad,rfl,rfl⟩
    ·exact .inl hx
theorem zL7 {a:Option Addr} {z c:Nat} {es:List D}:∀ x∈zE es,x∈(D.sl a z es c).foot:=by
 intro x hx
 cases a with
 | none=>simpa only [D.foot] using hx
 | some ad=>
   simp only [D.foot]
   split
   ·rename_i h
    cases es with
    | nil=>simp [zE] at hx
    | cons=>simp at h
   ·exact nE _ hx
theorem zKW {g h:List Tg} {es fs:List D} (hg:Ctx g es) (hh:Ctx h fs) (hgl:g.length+h.length<=1073741824) (a b:Option Addr) (c e:Nat) (N:Nat) (Q:QT [.sl 4])
  (hQ:∀ a' es' c' N',N<=N'->Ctx (g++h) es'->(∀ x∈(D.sl a' 4 es' c').foot,x∈zE es\/x∈zE fs\/N<=x)->Q a' es' c' N'):ACalls prog 212 [.sl 4] [.sv a 4 es c,.sv b 4 fs e] N Q:=by
 have hl:=hg.all.len
 have hl2:=hh.all.len
 have hb:zA es fs 56:=by unfold zA;simp only [oH];omega
 refine zHF N a es c b fs e Q fun _ _=>?_
 repeat' first|with_reducible intro _|simp only[Y1,Y2,Y3,Y4]|with_reducible refine X ?_ ?_|refine⟨_,_,_,rfl,?_⟩|refine⟨_,rfl,?_⟩|refine And.intro (by first|omega|trivial|(show _=_;rfl)|(with_reducible constructor)<;>first|omega|trivial|rfl) ?_|refine (zNn hg (by omega) _ _) _ _ ?_|fail
 rename_i a' N3 hN3 hf N4 hN4
 refine hQ _ _ _ _ (by omega) ⟨by simp;omega,hg.all.app hh.all⟩ fun x hx=>?_
 rcases rJ x hx with h1 | ⟨ad,rfl,rfl⟩
 ·rw [zG] at h1
  rcases oK.1 h1 with h1 | h1
  ·exact .inl h1
  ·exact .inr (.inl h1)
 ·have:=hf.lo ad rfl
  exact .inr (.inr (by omega))
theorem zB2 {g:List Tg} {es:List D} (h:Ctx g es) (hg:g.length<=1073741824) (hc:∀ x∈g,x.ty.cnt<=1073741824) (a:Option Addr) (c:Nat) (n:Int) :
  ∀ (N:Nat) (Q:QT [.sl 4]),(∀ a' es' c' N',N<=N'->Ctx (xA g n) es'->Q a' es' c' N')->ACalls prog 37 [.sl 4] [.sv a 4 es c,.int .i64 n] N Q:=fun N Q hQ=>by
 have hl:=h.all.len
 refine zCg N a es c n Q fun _=>?_
 have key:=up h.all h.len (fun i xs=>∀ (r:List D) (m q:Nat) (N':Nat) (done:List Tg),N<=N'->m=r.length->All2 Tg.Is done r->done.length<=i->done++yB g n xs i=xA g n->zt Q N a es c n m q a es c es.length i r q N') ?_ ?_
 ·exact key [] 0 0 N [] (oF _) rfl rfl (oF _) rfl
 ·intro i hlt hi r m q N' done hN' hm hr hdl hd
  refine uv _ _ _ _ _ _ _ _ _ _ _ _ _ _ _ _ ?_
  repeat' first|with_reducible intro _|simp only[hlt,Y1,Y2,Y3,Y4]|with_reducible refine X ?_ ?_|refine⟨_,_,_,rfl,?_⟩|refine⟨_,rfl,?_⟩|refine And.intro (by first|omega|trivial|(show _=_;rfl)|(with_reducible constructor)<;>first|omega|trivial|rfl) ?_|fail
  refine hQ _ _ _ _ (by omega) ⟨by have:=hr.len;omega,?_⟩
  simp only [yB,nF] at hd
  rwa [<-hd]
 ·intro i x xs hat _ ih2 r m q N' done hN' hm hr hdl hd
  have hb:=hat.b
  have hrl:=hr.len
  obtain ⟨t0,t1,he,hs,ht⟩:=hat.r
  simp only [yB] at hd
  refine uv _ _ _ _ _ _ _ _ _ _ _ _ _ _ _ _ ?_
  repeat' first|with_reducible intro _|simp only[hat.lt,hat.w,oM,he,Y1,Y2,Y3,Y4]|with_reducible refine X ?_ ?_|refine⟨_,_,_,rfl,?_⟩|refine⟨_,rfl,?_⟩|refine And.intro (by first|omega|trivial|(show _=_;rfl)|(with_reducible constructor)<;>first|omega|trivial|rfl) ?_|refine (qh _ _ ht) _ _ ?_|refine (pF h a c _) _ _ ?_|refine (zHr _ _ ht (hc x hat.m)) _ _ ?_|fail
  ·rename_i N2 hN2 x' N3 hN3 hx ho _ _
   have hin:wJ g n x i=true:=by simp [wJ, *]
   rw [if_pos hin] at hd
   refine ⟨by unfold zA;simp only [oH,nK];omega,fun c2=>ih2 _ _ _ _ (done++[x]) (by omega) rfl (hr.snoc ⟨_,_,rfl,hs,Ty.is_cells hx⟩) (by simp;omega) (by simpa using hd)⟩
  all_goals (refine ih2 _ _ _ _ done (by omega) hm hr (by omega) ?_;rw [<-hd,if_neg (by simp [wJ, *])])
theorem xV {bs:List (Option Addr)} {N N':Nat} {d:D} (hb:vQ N bs) (ho:Own N N' d):Off bs d:=fun a ha ad had hm=>by
 have:=hb a ha ad had
 have:=ho.lo _ hm
 omega
theorem zDz {a x b:Option Addr} {es fs gs:List D} {c c' N:Nat} (h1:ApA a fs) (h2:Off [a] (.sl x 4 es c)) (h3:vQ N [a]) (h4:∀ y∈(D.sl b 4 gs c').foot,y∈zE es\/y∈zE fs\/N<=y):Off [a] (.sl b 4 gs c'):=fun a' ha ad had hm=>by
 have e:=oh.1 ha
 subst e
 rcases h4 _ hm with h | h | h
 ·exact h2 a' ha ad had (zL7 _ h)
 ·obtain ⟨d,hd,hx⟩:=zD.1 h
  exact h1 ad had d hd hx
 ·have:=h3 a' ha ad had
  omega
theorem Ty.valid_k {t:Ty} (h:t.valid=true):t.k=1/\t.as=[]\/t.k=2/\t.as=[]\/(t.k=3/\∃ a b,t.as=[a,b])\/(t.k=4/\∃ a,t.as=[a]):=by
 cases t with
 | mk k l=>
   have hf:=Ty.form_len h
   simp only [Ty.k,Ty.as]
   unfold tO at hf
   split at hf
   ·rename_i hk
    have hl:l=[]:=by simpa using hf
    rcases hk with hk | hk
    ·exact .inl ⟨hk,hl⟩
    ·exact .inr (.inl ⟨hk,hl⟩)
   ·split at hf
    ·rename_i hk;exact .inr (.inr (.inl ⟨hk,zIU (by simp at hf;omega)⟩))
    ·split at hf
     ·rename_i hk;exact .inr (.inr (.inr ⟨hk,p6 (by simp at hf;omega)⟩))
     ·cases hf
theorem Ty.valid_nz {t:Ty} (h:t.valid=true):t.k≠0:=by
 rcases Ty.valid_k h with h | h | h | h<;>omega
theorem zKJ {t:Ty} (h:t.valid=true):uN t tZero=false/\uN tZero t=false:=by
 have hk:=Ty.valid_nz h
 cases t with
 | mk k l=>
   have hk:k≠0:=hk
   have hk2:0≠k:=fun h=>hk h.symm
   constructor<;>simp [uN,tZero,hk,hk2]
theorem zKl {t:Ty} (h:t.valid=true):uN t tBool=decide (t.k=2):=by
 have hk:=Ty.valid_k h
 cases t with
 | mk k l=>
   simp only [Ty.k,Ty.as] at hk
   rw [nj,r5,na]
   simp only [tBool,Ty.k,Ty.mk.injEq]
   rcases hk with ⟨hk,hl⟩ | ⟨hk,hl⟩ | ⟨hk,_⟩ | ⟨hk,_⟩<;>simp [hk]
   exact hl
theorem zOZ {t:Ty} (h:t.valid=true):uN t tInt=decide (t.k=1):=by
 have hk:=Ty.valid_k h
 cases t with
 | mk k l=>
   simp only [Ty.k,Ty.as] at hk
   rw [nj,r5,na]
   simp only [tInt,Ty.k,Ty.mk.injEq]
   rcases hk with ⟨hk,hl⟩ | ⟨hk,hl⟩ | ⟨hk,_⟩ | ⟨hk,_⟩<;>simp [hk]
   exact hl
/-- the type of a term, the zero type for none -/
def tyZ (e:Tm) (g:List Tg) (n:Int):Ty:=(e.type g n).getD tZero
theorem zHU (e:Tm) (g:List Tg) (n:Int):(tyZ e g n).cnt<=30:=zDo e g n
theorem uB (e:Tm) (g:List Tg) (n:Int):(e.type g n=none/\tyZ e g n=tZero)\/(e.type g n=some (tyZ e g n)/\(tyZ e g n).valid=true):=by
 cases h:e.type g n with
 | none=>exact .inl ⟨rfl,by simp [tyZ,h]⟩
 | some t=>exact .inr ⟨by simp [tyZ,h],by simpa [tyZ,h] using Tm.type_valid h⟩
def IHi (l:List Tm):Prop:=∀ x∈l,∀ d,x.Is d->∀ g es a c n,Pre g x n->Ctx g es->zAQ 95 [.sv a 4 es c,.dg 9 d,.int .i64 n] (tyZ x g n)
theorem zAw {k:Int} {nm ot:ByteArray} {m n:Int} {ty re:Ty} {l:List Tm} {t0 t1 r0 r1:D} {es1:List D} {a1 a:Option Addr} {c1 c:Nat} {g:List Tg} {es:List D} (hk:zr k n=n) (ih:IHi l) (h0:All2 Tm.Is l es1) (hl1:es1.length<=4611686018427387904)
  (pre:Pre g (.mk k nm ot m ty re l) n) (ctx:Ctx g es) (i:Nat) {x:Tm} (hx:l[i]?=some x) (b1 b2 b3:Addr) :
  zAQ 208 [.int .i64 i,.pd b1 0 (.sl a 4 es c),.pd b2 9 (.ag [.lit (.int .i64 k),.lit (.string nm),.lit (.string ot),.lit (.int .i64 m),t0,t1,r0,r1,.sl a1 9 es1 c1]),.pd b3 0 (.lit (.int .i64 n))] (tyZ x g n):=fun N Q hQ=>by
 have hil:=(oB.1 hx).1
 have hln:=h0.len
 have hm:=oC hx
 have hp:=pre.sub hm (g':=g) (by omega) pre.ty
 rw [hk] at hp
 refine sX N i b1 _ b2 _ b3 _ Q ?_
 refine ⟨_,_,_,rfl,_,_,_,rfl,⟨by omega,by omega⟩,_,rfl,?_⟩
 repeat' first|with_reducible intro _|simp only[oM,Y1,Y2,Y3,Y4]|with_reducible refine X ?_ ?_|refine⟨_,_,_,rfl,?_⟩|refine⟨_,rfl,?_⟩|refine And.intro (by first|omega|trivial|(show _=_;rfl)|(with_reducible constructor)<;>first|omega|trivial|rfl) ?_|refine (ih x hm _ (h0.get hx) g _ _ _ n hp ctx) _ _ ?_|fail
 exact hQ _ _ (by omega) (by assumption) (Own.mono (by assumption) (by omega) (by omega))
theorem zPt {e0 e1 e2:Tm} {g:List Tg} {n:Int} {s:ByteArray}:((match zY [e0,e1,e2] g n with | some ts=>y8 5 s ts | none=>none):Option Ty).getD tZero =
  if uN (tyZ e0 g n) tBool&&uN (tyZ e1 g n) (tyZ e2 g n) then tyZ e1 g n else tZero:=by
 rcases uB e0 g n with ⟨h0,z0⟩ | ⟨h0,v0⟩
 ·simp only [zY,h0,z0];rfl
 ·rcases uB e1 g n with ⟨h1,z1⟩ | ⟨h1,v1⟩
  ·simp only [zY,h0,h1,z1];split<;>rfl
  ·rcases uB e2 g n with ⟨h2,z2⟩ | ⟨h2,v2⟩
   ·simp only [zY,h0,h1,h2,z2,(zKJ v1).1,mi];rfl
   ·simp only [zY,h0,h1,h2]
    rw [zKl v0]
    show (y8 5 s [tyZ e0 g n,tyZ e1 g n,tyZ e2 g n]).getD tZero=_
    unfold y8
    rw [if_neg (by omega),if_pos rfl]
    simp only [List.getD_cons_zero,List.getD_cons_succ]
    by_cases hc:(tyZ e0 g n).k=2/\uN (tyZ e1 g n) (tyZ e2 g n)=true
    ·rw [if_pos hc,if_pos (by simp [hc.1,hc.2])];rfl
    ·rw [if_neg hc,if_neg (by simpa using hc)];rfl
theorem zPK {e0 e1:Tm} {g:List Tg} {n:Int} {s:ByteArray}:((match zY [e0,e1] g n with | some ts=>y8 7 s ts | none=>none):Option Ty).getD tZero =
  if (tyZ e0 g n).k=3/\uN ((tyZ e0 g n).as.getD 0 tZero) (tyZ e1 g n) then (tyZ e0 g n).as.getD 1 tZero else tZero:=by
 rcases uB e0 g n with ⟨h0,z0⟩ | ⟨h0,v0⟩
 ·simp only [zY,h0,z0];rfl
 ·rcases uB e1 g n with ⟨h1,z1⟩ | ⟨h1,v1⟩
  ·simp only [zY,h0,h1,z1]
   rw [if_neg]
   ·rfl
   ·rintro ⟨hk,he⟩
    rcases Ty.valid_k v0 with h | h | ⟨_,a,b,hab⟩ | h
    ·omega
    ·omega
    ·rw [hab,r5] at he
     simp only [List.getD_cons_zero] at he
     subst he
     have:(tyZ e0 g n).form=true:=by simp only [Ty.valid,oL] at v0;exact v0.2
     cases hz:tyZ e0 g n with
     | mk k l=>
       rw [hz] at hab this
       simp only [Ty.as] at hab
       subst hab
       simp [Ty.form,vO,tO,tZero] at this
    ·omega
  ·simp only [zY,h0,h1]
   show (y8 7 s [tyZ e0 g n,tyZ e1 g n]).getD tZero=_
   unfold y8
   rw [if_neg (by omega),if_neg (by omega)]
   simp only [List.getD_cons_zero,List.getD_cons_succ]
   split<;>rfl
theorem zPo {l:List Tm} {g:List Tg} {n:Int} {s:ByteArray} (hs:0<zEb s):((match zY l g n with | some ts=>y8 4 s ts | none=>none):Option Ty).getD tZero =
  if qv (rG s) (l.map fun e=>tyZ e g n) then pi s else tZero:=by
 have h2:pi s=zCG s/\(rG s=tInt/\zGa s=1\/rG s=tBool/\zGa s=2):=by
  unfold zEb at hs
  (repeat' split at hs)<;>first | omega | (subst_vars;exact ⟨rfl,.inl ⟨rfl,rfl⟩⟩) | (subst_vars;exact ⟨rfl,.inr ⟨rfl,rfl⟩⟩) | skip
 obtain ⟨h3,h4⟩:=h2
 have key:∀ l:List Tm,(∀ ts,zY l g n=some ts->qv (rG s) (l.map fun e=>tyZ e g n)=zL0 (zGa s) ts)/\(zY l g n=none->qv (rG s) (l.map fun e=>tyZ e g n)=false):=by
  intro l
  induction l with
  | nil=>exact ⟨fun ts h=>by simp [zY] at h;subst h;rfl,fun h=>by simp [zY] at h⟩
  | cons e l ih=>
    rcases uB e g n with ⟨h0,z0⟩ | ⟨h0,v0⟩
    ·have:uN tZero (rG s)=false:=by rcases h4 with ⟨h4,_⟩ | ⟨h4,_⟩<;>rw [h4]<;>rfl
     refine ⟨fun ts h=>by simp [zY,h0] at h,fun _=>by simp [qv,z0,this]⟩
    ·have hk:uN (tyZ e g n) (rG s)=decide ((tyZ e g n).k=zGa s):=by
      rcases h4 with ⟨h4,h5⟩ | ⟨h4,h5⟩<;>rw [h4,h5]
      ·exact zOZ v0
      ·exact zKl v0
     cases hl:zY l g n with
     | none=>exact ⟨fun ts h=>by simp [zY,h0,hl] at h,fun _=>by simp [qv,ih.2 hl]⟩
     | some us=>
       refine ⟨fun ts h=>?_,fun h=>by simp [zY,h0,hl] at h⟩
       simp only [zY,h0,hl,oi] at h
       subst h
       simp only [o8,qv,zL0,hk,ih.1 us hl]
 cases hl:zY l g n with
 | none=>rw [(key l).2 hl];rfl
 | some ts=>
   rw [(key l).1 ts hl,h3]
   show (y8 4 s ts).getD tZero=_
   unfold y8 zM3
   rw [if_pos rfl]
   split<;>rfl
/-- a node's cells -/
abbrev zC8 (k:Int) (nm ot:ByteArray) (m:Int) (t0 t1 r0 r1:D) (a:Option Addr) (es:List D) (c:Nat):D:=.ag [.lit (.int .i64 k),.lit (.string nm),.lit (.string ot),.lit (.int .i64 m),t0,t1,r0,r1,.sl a 9 es c]
theorem f5 {nm ot:ByteArray} {m n:Int} {ty re:Ty} {l:List Tm} {t0 t1 r0 r1:D} {es1:List D} {a1 a:Option Addr} {c1 c:Nat} {g:List Tg} {es:List D} (ih:IHi l) (hh:Tm.Hd nm ot ty re t0 t1 r0 r1) (h0:All2 Tm.Is l es1) (hl1:es1.length<=4611686018427387904)
  (pre:Pre g (.mk 5 nm ot m ty re l) n) (ctx:Ctx g es) :
  zAQ 165 [.sv a 4 es c,.dg 9 (zC8 5 nm ot m t0 t1 r0 r1 a1 es1 c1),.int .i64 n] ((Tm.raw (.mk 5 nm ot m ty re l) g n).getD tZero):=fun N Q hQ=>by
 have hl : l.length = 3 := by have:(l.length:Int)=3:=(yU pre.ok).ar
                              omega
 obtain ⟨e0,e1,e2,rfl⟩:∃ a b c,l=[a,b,c]:=by
  match l,hl with
  | [a,b,c],_=>exact ⟨a,b,c,rfl⟩
 have hraw:(Tm.raw (.mk 5 nm ot m ty re [e0,e1,e2]) g n).getD tZero=if uN (tyZ e0 g n) tBool&&uN (tyZ e1 g n) (tyZ e2 g n) then tyZ e1 g n else tZero:=by
  rw [<-zPt (s:=nm)]
  simp only [Tm.raw]
  rfl
 rw [hraw] at hQ
 have hn:zr 5 n=n:=by simp [zr]
 refine zR N a es c _ n Q fun _ _=>⟨_,rfl,?_⟩
 repeat' first|with_reducible intro _|simp only[Y1,Y2,Y3,Y4]|with_reducible refine X ?_ ?_|refine⟨_,_,_,rfl,?_⟩|refine⟨_,rfl,?_⟩|refine And.intro (by first|omega|trivial|(show _=_;rfl)|(with_reducible constructor)<;>first|omega|trivial|rfl) ?_|refine (zAw hn ih h0 hl1 pre ctx 1 rfl _ _ _) _ _ ?_|refine (zAw hn ih h0 hl1 pre ctx 2 rfl _ _ _) _ _ ?_|refine (zAw hn ih h0 hl1 pre ctx 0 rfl _ _ _) _ _ ?_|refine zEU _ _ ?_|refine (zH (tyZ e0 g n) tBool _ _ (by assumption) (by assumption)) _ _ ?_|refine (zH (tyZ e1 g n) (tyZ e2 g n) _ _ (by assumption) (by assumption)) _ _ ?_|(((with_reducible refine And.intro ?_ ?_);· exact xV (by assumption) (by assumption)))|fail
 all_goals first | (exfalso;omega) | skip
 all_goals first
  | exact hQ _ _ (by omega) (by rw [if_pos (by simp [*])];assumption) (Own.mono (by assumption) (by omega) (by omega))
  | exact hQ _ _ (by omega) (by rw [if_neg (by simp [*])];exact yM) yL
/-- the type of a call -/
def zKd (z0 z1:Ty):Ty:=if z0.k=3/\uN (z0.as.getD 0 tZero) z1 then z0.as.getD 1 tZero else tZero
theorem f7 {nm ot:ByteArray} {m n:Int} {ty re:Ty} {l:List Tm} {t0 t1 r0 r1:D} {es1:List D} {a1 a:Option Addr} {c1 c:Nat} {g:List Tg} {es:List D} (ih:IHi l) (hh:Tm.Hd nm ot ty re t0 t1 r0 r1) (h0:All2 Tm.Is l es1) (hl1:es1.length<=4611686018427387904)
  (pre:Pre g (.mk 7 nm ot m ty re l) n) (ctx:Ctx g es) :
  zAQ 165 [.sv a 4 es c,.dg 9 (zC8 7 nm ot m t0 t1 r0 r1 a1 es1 c1),.int .i64 n] ((Tm.raw (.mk 7 nm ot m ty re l) g n).getD tZero):=fun N Q hQ=>by
 have hl : l.length = 2 := by have:(l.length:Int)=2:=(yU pre.ok).ar
                              omega
 obtain ⟨e0,e1,rfl⟩:=zIU hl
 have hraw:(Tm.raw (.mk 7 nm ot m ty re [e0,e1]) g n).getD tZero=zKd (tyZ e0 g n) (tyZ e1 g n):=by
  unfold zKd
  rw [<-zPK (s:=nm)]
  simp only [Tm.raw]
  rfl
 rw [hraw] at hQ
 have hn:zr 7 n=n:=by simp [zr]
 refine zR N a es c _ n Q fun _ _=>⟨_,rfl,?_⟩
 repeat' first|with_reducible intro _|simp only[Y1,Y2,Y3,Y4]|with_reducible refine X ?_ ?_|refine⟨_,_,_,rfl,?_⟩|refine⟨_,rfl,?_⟩|refine And.intro (by first|omega|trivial|(show _=_;rfl)|(with_reducible constructor)<;>first|omega|trivial|rfl) ?_|refine (zAw hn ih h0 hl1 pre ctx 0 rfl _ _ _) _ _ ?_|refine (zAw hn ih h0 hl1 pre ctx 1 rfl _ _ _) _ _ ?_|(((with_reducible refine And.intro ?_ ?_);· exact xV (by assumption) (by assumption)))|fail
 all_goals first | (exfalso;omega) | skip
 rename_i hd0 ho0 _ _ _ _ _ _ _ _ _ _ _ _ _ _ hd1 ho1 _ _
 have hv:=uB e0 g n
 generalize tyZ e0 g n=z0 at *
 cases z0 with
 | mk k0 l0=>
 obtain ⟨a2,es2,c2,rfl,hl2,he2⟩:=Ty.is_mk.1 hd0
 by_cases hk:k0=3
 ·subst hk
  have hv:(Ty.mk 3 l0).valid=true:=by
   rcases hv with ⟨_,hv⟩ | ⟨_,hv⟩
   ·cases hv
   ·exact hv
  have hcn:=Ty.valid_cnt hv
  rcases Ty.valid_k hv with ⟨hk,_⟩ | ⟨hk,_⟩ | ⟨_,u,v,huv⟩ | ⟨hk,_⟩
  ·cases hk
  ·cases hk
  ·simp only [Ty.as] at huv
   subst huv
   obtain ⟨x0,_,rfl,hx0,x1,_,rfl,hx1,rfl⟩:=he2
   simp only [Ty.cnt,zI] at hcn
   have q1:uN u (tyZ e1 g n)=true->zKd (.mk 3 [u,v]) (tyZ e1 g n)=v:=fun h=>if_pos ⟨rfl,h⟩
   have q2:uN u (tyZ e1 g n)=false->zKd (.mk 3 [u,v]) (tyZ e1 g n)=tZero:=fun h=>if_neg fun hc=>by rw [show (Ty.mk 3 [u,v]).as.getD 0 tZero=u from rfl,h] at hc;cases hc.2
   repeat' first|with_reducible intro _|simp only[oN,oP,Y1,Y2,Y3,Y4]|with_reducible refine X ?_ ?_|refine⟨_,_,_,rfl,?_⟩|refine⟨_,rfl,?_⟩|refine And.intro (by first|omega|trivial|(show _=_;rfl)|(with_reducible constructor)<;>first|omega|trivial|rfl) ?_|refine (zH u (tyZ e1 g n) _ _ hx0 hd1) _ _ ?_|refine (zHr v _ hx1 (by omega)) _ _ ?_|fail
   all_goals first | (exfalso;omega) | skip
   all_goals first
    | exact hQ _ _ (by omega) (by rw [q1 (by assumption)];assumption) (Own.mono (by assumption) (by omega) (by omega))
    | exact hQ _ _ (by omega) (by rw [q2 (by assumption)];exact yM) yL
  ·cases hk
 ·repeat' first|with_reducible intro _|simp only[Y1,Y2,Y3,Y4]|with_reducible refine X ?_ ?_|refine⟨_,_,_,rfl,?_⟩|refine⟨_,rfl,?_⟩|refine And.intro (by first|omega|trivial|(show _=_;rfl)|(with_reducible constructor)<;>first|omega|trivial|rfl) ?_|fail
  all_goals first | (exfalso;omega) | skip
  exact hQ _ _ (by omega) (by rw [show zKd (.mk k0 l0) (tyZ e1 g n)=tZero from if_neg fun h=>hk h.1];exact yM) yL
/-- the type of a function of this parameter -/
def zLU (t z:Ty):Ty:=if z.k=0 then tZero else wQ t z
theorem f6 {nm ot:ByteArray} {m n:Int} {ty re:Ty} {l:List Tm} {t0 t1 r0 r1:D} {es1:List D} {a1 a:Option Addr} {c1 c:Nat} {g:List Tg} {es:List D} (ih:IHi l) (hh:Tm.Hd nm ot ty re t0 t1 r0 r1) (h0:All2 Tm.Is l es1) (hl1:es1.length<=4611686018427387904)
  (pre:Pre g (.mk 6 nm ot m ty re l) n) (ctx:Ctx g es) :
  zAQ 165 [.sv a 4 es c,.dg 9 (zC8 6 nm ot m t0 t1 r0 r1 a1 es1 c1),.int .i64 n] ((Tm.raw (.mk 6 nm ot m ty re l) g n).getD tZero):=fun N Q hQ=>by
 have hl : l.length = 1 := by have:(l.length:Int)=1:=(yU pre.ok).ar
                              omega
 obtain ⟨e0,rfl⟩:=p6 hl
 obtain ⟨d0,_,rfl,h0,rfl⟩:=h0
 have hlen:=pre.len
 have hpc:1<=(Tm.mk 6 nm ot m ty re [e0]).cnt:=by simp only [Tm.cnt];omega
 have hv:=Ty.valid_cnt ((yU pre.ok).vt (.inl rfl))
 have hp:=pre.sub (x:=e0) (by simp) (g':=g++[⟨nm,ty,n⟩]) (by simp) (tF pre.ty (show ty.cnt<=64 by omega))
 rw [show zr 6 n=n by simp [zr]] at hp
 have hc:=zHU e0 (g++[⟨nm,ty,n⟩]) n
 have hz:=uB e0 (g++[⟨nm,ty,n⟩]) n
 have hraw:(Tm.raw (.mk 6 nm ot m ty re [e0]) g n).getD tZero=zLU ty (tyZ e0 (g++[⟨nm,ty,n⟩]) n):=by
  have:Tm.raw (.mk 6 nm ot m ty re [e0]) g n=(match e0.type (g++[⟨nm,ty,n⟩]) n with | some b=>some (wQ ty b) | none=>none):=by simp only [Tm.raw,xZ];rfl
  rw [this]
  unfold zLU
  rcases hz with ⟨h1,h2⟩ | ⟨h1,h2⟩
  ·rw [h1,h2];rfl
  ·rw [h1,if_neg (Ty.valid_nz h2)];rfl
 rw [hraw] at hQ
 have hctx:Ctx [⟨nm,ty,n⟩] [.ag [.lit (.string nm),t0,t1,.lit (.int .i64 n)]]:=⟨by simp,_,_,rfl,⟨_,_,rfl,hh.nm,hh.ty⟩,rfl⟩
 refine zR N a es c _ n Q fun _ _=>⟨_,rfl,?_⟩
 repeat' first|with_reducible intro _|simp only[oN,oP,Y1,Y2,Y3,Y4]|with_reducible refine X ?_ ?_|refine⟨_,_,_,rfl,?_⟩|refine⟨_,rfl,?_⟩|refine And.intro (by first|omega|trivial|(show _=_;rfl)|(with_reducible constructor)<;>first|omega|trivial|rfl) ?_|refine (zKW ctx hctx (by simp;omega) _ _ _ _) _ _ ?_|refine (ih e0 nV d0 h0 (g++[⟨nm,ty,n⟩]) _ _ _ n hp (by assumption)) _ _ ?_|(((with_reducible refine And.intro ?_ ?_);· exact zDz (by assumption) (by assumption) (by assumption) (by assumption)))|fail
 all_goals first | (exfalso;omega) | skip
 rename_i hd0 ho0 _ _
 generalize tyZ e0 (g++[⟨nm,ty,n⟩]) n=z0 at *
 cases z0 with
 | mk k0 l0=>
 have hd1:=hd0
 obtain ⟨a2,es2,c2,rfl,hl2,he2⟩:=Ty.is_mk.1 hd0
 repeat' first|with_reducible intro _|simp only[Y1,Y2,Y3,Y4]|with_reducible refine X ?_ ?_|refine⟨_,_,_,rfl,?_⟩|refine⟨_,rfl,?_⟩|refine And.intro (by first|omega|trivial|(show _=_;rfl)|(with_reducible constructor)<;>first|omega|trivial|rfl) ?_|refine (zJn ty (.mk k0 l0) _ _ hh.ty hd1 (by omega) (by omega)) _ _ ?_|fail
 all_goals first
  | exact hQ _ _ (by omega) (by rw [show zLU ty (.mk k0 l0)=tZero from if_pos (by assumption)];exact yM) yL
  | exact hQ _ _ (by omega) (by rw [show zLU ty (.mk k0 l0)=wQ ty (.mk k0 l0) from if_neg (by assumption)];assumption) (Own.mono (by assumption) (by omega) (by omega))
/-- the type of a let whose first part has this type -/
def zLZ (e1:Tm) (g:List Tg) (nm:ByteArray) (n:Int) (z:Ty):Ty:=if z.k=0 then tZero else tyZ e1 (g++[⟨nm,z,n⟩]) n
theorem f8 {nm ot:ByteArray} {m n:Int} {ty re:Ty} {l:List Tm} {t0 t1 r0 r1:D} {es1:List D} {a1 a:Option Addr} {c1 c:Nat} {g:List Tg} {es:List D} (ih:IHi l) (hh:Tm.Hd nm ot ty re t0 t1 r0 r1) (h0:All2 Tm.Is l es1) (hl1:es1.length<=4611686018427387904)
  (pre:Pre g (.mk 8 nm ot m ty re l) n) (ctx:Ctx g es) :
  zAQ 165 [.sv a 4 es c,.dg 9 (zC8 8 nm ot m t0 t1 r0 r1 a1 es1 c1),.int .i64 n] ((Tm.raw (.mk 8 nm ot m ty re l) g n).getD tZero):=fun N Q hQ=>by
 have hl : l.length = 2 := by have:(l.length:Int)=2:=(yU pre.ok).ar
                              omega
 obtain ⟨e0,e1,rfl⟩:=zIU hl
 have hes1:=h0
 obtain ⟨d0,_,rfl,h0,d1,_,rfl,h1,rfl⟩:=h0
 have hlen:=pre.len
 have hpc:1<=(Tm.mk 8 nm ot m ty re [e0,e1]).cnt:=by simp only [Tm.cnt];omega
 have hz:=uB e0 g n
 have hc:=zHU e0 g n
 have hraw:(Tm.raw (.mk 8 nm ot m ty re [e0,e1]) g n).getD tZero=zLZ e1 g nm n (tyZ e0 g n):=by
  have:Tm.raw (.mk 8 nm ot m ty re [e0,e1]) g n=(match e0.type g n with | some b=>e1.type (g++[⟨nm,b,n⟩]) n | none=>none):=by simp only [Tm.raw,xZ];rfl
  rw [this]
  unfold zLZ
  rcases hz with ⟨h1,h2⟩ | ⟨h1,h2⟩
  ·rw [h1,h2];rfl
  ·rw [h1,if_neg (Ty.valid_nz h2)];rfl
 rw [hraw] at hQ
 have hn:zr 8 n=n:=by simp [zr]
 refine zR N a es c _ n Q fun _ _=>⟨_,rfl,?_⟩
 repeat' first|with_reducible intro _|simp only[oN,oP,Y1,Y2,Y3,Y4]|with_reducible refine X ?_ ?_|refine⟨_,_,_,rfl,?_⟩|refine⟨_,rfl,?_⟩|refine And.intro (by first|omega|trivial|(show _=_;rfl)|(with_reducible constructor)<;>first|omega|trivial|rfl) ?_|refine (zAw hn ih hes1 hl1 pre ctx 0 rfl _ _ _) _ _ ?_|(((with_reducible refine And.intro ?_ ?_);· exact xV (by assumption) (by assumption)))|fail
 all_goals first | (exfalso;omega) | skip
 rename_i hd0 ho0 _ _
 generalize tyZ e0 g n=z0 at *
 cases z0 with
 | mk k0 l0=>
 have hd1:=hd0
 obtain ⟨a2,es2,c2,rfl,hl2,he2⟩:=Ty.is_mk.1 hd0
 by_cases hk:k0=0
 ·have q:zLZ e1 g nm n (.mk k0 l0)=tZero:=if_pos hk
  rw [q] at hQ
  repeat' first|with_reducible intro _|simp only[Y1,Y2,Y3,Y4]|with_reducible refine X ?_ ?_|refine⟨_,_,_,rfl,?_⟩|refine⟨_,rfl,?_⟩|refine And.intro (by first|omega|trivial|(show _=_;rfl)|(with_reducible constructor)<;>first|omega|trivial|rfl) ?_|fail
  all_goals first | (exfalso;omega) | exact hQ _ _ (by omega) yM yL
 ·have q:zLZ e1 g nm n (.mk k0 l0)=tyZ e1 (g++[⟨nm,.mk k0 l0,n⟩]) n:=if_neg hk
  rw [q] at hQ
  have hp:=pre.sub (x:=e1) (by simp) (g':=g++[⟨nm,.mk k0 l0,n⟩]) (by simp) (tF pre.ty (oW hc (by omega)))
  rw [hn] at hp
  have hctx:Ctx [⟨nm,.mk k0 l0,n⟩] [.ag [.lit (.string nm),.lit (.int .i64 k0),.sl a2 2 es2 c2,.lit (.int .i64 n)]]:=⟨by simp,_,_,rfl,⟨_,_,rfl,hh.nm,hd1⟩,rfl⟩
  repeat' first|with_reducible intro _|simp only[oN,oP,Y1,Y2,Y3,Y4]|with_reducible refine X ?_ ?_|refine⟨_,_,_,rfl,?_⟩|refine⟨_,rfl,?_⟩|refine And.intro (by first|omega|trivial|(show _=_;rfl)|(with_reducible constructor)<;>first|omega|trivial|rfl) ?_|refine (zKW ctx hctx (by simp;omega) _ _ _ _) _ _ ?_|refine (ih e1 (by simp) d1 h1 (g++[⟨nm,.mk k0 l0,n⟩]) _ _ _ n hp (by assumption)) _ _ ?_|(((with_reducible refine And.intro ?_ ?_);· exact zDz (by assumption) (by assumption) (by assumption) (by assumption)))|fail
  all_goals first | (exfalso;omega) | skip
  exact hQ _ _ (by omega) (by assumption) (Own.mono (by assumption) (by omega) (by omega))
theorem zPs {nm ot:ByteArray} {ty re:Ty} {t0 t1 r0 r1 x:D} (hh:Tm.Hd nm ot ty re t0 t1 r0 r1) (hx:(wQ ty re).Is x) (n:Int) :
  Ctx [⟨nm,wQ ty re,n⟩,⟨ot,ty,n⟩] [.ag [.lit (.string nm),D.cell x 0,D.cell x 1,.lit (.int .i64 n)],.ag [.lit (.string ot),t0,t1,.lit (.int .i64 n)]]:=
 ⟨by simp,_,_,rfl,⟨_,_,rfl,hh.nm,Ty.is_cells hx⟩,_,_,rfl,⟨_,_,rfl,hh.ot,hh.ty⟩,rfl⟩
theorem f9 {nm ot:ByteArray} {m n:Int} {ty re:Ty} {l:List Tm} {t0 t1 r0 r1:D} {es1:List D} {a1 a:Option Addr} {c1 c:Nat} {g:List Tg} {es:List D} (ih:IHi l) (hh:Tm.Hd nm ot ty re t0 t1 r0 r1) (h0:All2 Tm.Is l es1) (hl1:es1.length<=4611686018427387904)
  (pre:Pre g (.mk 9 nm ot m ty re l) n) (ctx:Ctx g es) :
  zAQ 165 [.sv a 4 es c,.dg 9 (zC8 9 nm ot m t0 t1 r0 r1 a1 es1 c1),.int .i64 n] ((Tm.raw (.mk 9 nm ot m ty re l) g n).getD tZero):=fun N Q hQ=>by
 have hl : l.length = 1 := by have:(l.length:Int)=1:=(yU pre.ok).ar
                              omega
 obtain ⟨e0,rfl⟩:=p6 hl
 obtain ⟨d0,_,rfl,h0,rfl⟩:=h0
 have hlen:=pre.len
 have hpc:1<=(Tm.mk 9 nm ot m ty re [e0]).cnt:=by simp only [Tm.cnt];omega
 have hv:=Ty.valid_cnt ((yU pre.ok).vt (.inr rfl))
 have hrv:=(yU pre.ok).vr rfl
 have hr:=Ty.valid_cnt hrv
 have hg1:=tF (x:=⟨nm,wQ ty re,n⟩) pre.ty (show (wQ ty re).cnt<=64 by simp only [wQ,Ty.cnt,zI];omega)
 have hp:=pre.sub (x:=e0) (by simp) (g':=(g++[⟨nm,wQ ty re,n⟩])++[⟨ot,ty,n⟩]) (by simp) (tF hg1 (show ty.cnt<=64 by omega))
 rw [show zr 9 n=n by simp [zr],np,List.singleton_append] at hp
 have hz:=uB e0 (g++[⟨nm,wQ ty re,n⟩,⟨ot,ty,n⟩]) n
 have hraw:(Tm.raw (.mk 9 nm ot m ty re [e0]) g n).getD tZero=if uN (tyZ e0 (g++[⟨nm,wQ ty re,n⟩,⟨ot,ty,n⟩]) n) re then wQ ty re else tZero:=by
  have:Tm.raw (.mk 9 nm ot m ty re [e0]) g n=(match e0.type ((g++[⟨nm,wQ ty re,n⟩])++[⟨ot,ty,n⟩]) n with | some b=>if uN b re then some (wQ ty re) else none | none=>none):=by simp only [Tm.raw,xZ];rfl
  rw [this,np,List.singleton_append]
  rcases hz with ⟨h1,h2⟩ | ⟨h1,h2⟩
  ·rw [h1,h2,(zKJ hrv).2];rfl
  ·rw [h1];dsimp only;split<;>rfl
 rw [hraw] at hQ
 refine zR N a es c _ n Q fun _ _=>⟨_,rfl,?_⟩
 repeat' first|with_reducible intro _|simp only[oN,oP,Y1,Y2,Y3,Y4]|with_reducible refine X ?_ ?_|refine⟨_,_,_,rfl,?_⟩|refine⟨_,rfl,?_⟩|refine And.intro (by first|omega|trivial|(show _=_;rfl)|(with_reducible constructor)<;>first|omega|trivial|rfl) ?_|refine (zJn ty re _ _ hh.ty hh.re (by omega) (by omega)) _ _ ?_|refine (zKW ctx (h:=[⟨nm,wQ ty re,n⟩,⟨ot,ty,n⟩]) (zPs hh (by assumption) n) (by simp;omega) _ _ _ _) _ _ ?_|refine (ih e0 nV d0 h0 (g++[⟨nm,wQ ty re,n⟩,⟨ot,ty,n⟩]) _ _ _ n hp (by assumption)) _ _ ?_|refine (zH (tyZ e0 (g++[⟨nm,wQ ty re,n⟩,⟨ot,ty,n⟩]) n) re _ _ (by assumption) hh.re) _ _ ?_|(((with_reducible refine And.intro ?_ ?_);· exact zDz (by assumption) (by assumption) (by assumption) (by assumption)))|fail
 all_goals first | (exfalso;omega) | skip
 all_goals first
  | exact hQ _ _ (by omega) (by rw [if_pos (by assumption)];assumption) (Own.mono (by assumption) (by omega) (by omega))
  | exact hQ _ _ (by omega) (by rw [if_neg (by simp [*])];exact yM) yL
/-- the type of a stage over a part of this type -/
def stZ (k:Int) (z:Ty):Ty:=if k=10 then (if z.k=0 then tZero else wg z) else if k=13 then (if z.base then wg z else tZero) else p7 z
theorem zOV {k:Int} {e0:Tm} {g:List Tg} {n:Int}:((match e0.type g n with | some t=>yW k t | none=>none):Option Ty).getD tZero=stZ k (tyZ e0 g n):=by
 rcases uB e0 g n with ⟨h1,h2⟩ | ⟨h1,h2⟩
 ·rw [h1,h2]
  have:stZ k tZero=tZero:=by
   unfold stZ
   split
   ·rfl
   ·split<;>rfl
  exact this.symm
 ·rw [h1]
  dsimp only
  have:=Ty.valid_nz h2
  unfold stZ yW p7
  rw [if_neg this]
  (repeat' split)<;>rfl
theorem fS {k:Int} {nm ot:ByteArray} {m n:Int} {ty re:Ty} {l:List Tm} {t0 t1 r0 r1:D} {es1:List D} {a1 a:Option Addr} {c1 c:Nat} {g:List Tg} {es:List D} (hk:k=10\/k=11\/k=12\/k=13) (ih:IHi l) (hh:Tm.Hd nm ot ty re t0 t1 r0 r1) (h0:All2 Tm.Is l es1) (hl1:es1.length<=4611686018427387904)
  (pre:Pre g (.mk k nm ot m ty re l) n) (ctx:Ctx g es) :
  zAQ 214 [.sv a 4 es c,.dg 9 (zC8 k nm ot m t0 t1 r0 r1 a1 es1 c1),.int .i64 n] ((Tm.raw (.mk k nm ot m ty re l) g n).getD tZero):=fun N Q hQ=>by
 have hl:l.length=1:=by
  have har:=(yU pre.ok).ar
  have:(l.length:Int)=1:=by rw [har];rcases hk with rfl | rfl | rfl | rfl<;>rfl
  omega
 obtain ⟨e0,rfl⟩:=p6 hl
 obtain ⟨d0,_,rfl,h0,rfl⟩:=h0
 have hlen:=pre.len
 have hlv:=pre.lv
 have hsub:=sR g n g 0
 have hc2:∀ x∈g,x.ty.cnt<=1073741824:=fun x hx=>oW (pre.ty x hx) (by omega)
 have hraw:(Tm.raw (.mk k nm ot m ty re [e0]) g n).getD tZero=stZ k (tyZ e0 (if k=12 then xA g n else g) (zr k n)):=by
  rw [<-zOV]
  simp only [Tm.raw,xZ]
  rw [if_neg (by omega),if_neg (by omega),if_neg (by omega),if_neg (by omega),if_neg (by omega),if_neg (by omega),if_pos hk]
  rfl
 rw [hraw] at hQ
 have hp:=pre.sub (x:=e0) (by simp) (g':=if k=12 then xA g n else g) (by split<;>simp [xA];omega) (by split;exact fun y hy=>pre.ty y (hsub.1 y hy);exact pre.ty)
 have ih0:∀ es a c,Ctx (if k=12 then xA g n else g) es->zAQ 95 [.sv a 4 es c,.dg 9 d0,.int .i64 (zr k n)] (tyZ e0 (if k=12 then xA g n else g) (zr k n)):=fun es a c hc=>ih e0 nV d0 h0 _ es a c _ hp hc
 have hz:=uB e0 (if k=12 then xA g n else g) (zr k n)
 have hcn:=zHU e0 (if k=12 then xA g n else g) (zr k n)
 generalize tyZ e0 (if k=12 then xA g n else g) (zr k n)=z0 at *
 have hzv:z0.valid=true\/z0=tZero:=hz.elim (fun h=>.inr h.2) fun h=>.inl h.2
 refine zAh N a es c _ n Q fun _ _=>⟨_,rfl,?_⟩
 rw [i64_in (n+1) (by omega),i64_in (n - 1) (by omega)]
 cases z0 with
 | mk k0 l0=>
 rcases hk with rfl | rfl | rfl | rfl
 ·have ih1:=ih0 es a c ctx
  rw [show zr 10 n=n+1 by simp [zr]] at ih1
  repeat' first|with_reducible intro _|simp only[oN,oP,Y1,Y2,Y3,Y4]|with_reducible refine X ?_ ?_|refine⟨_,_,_,rfl,?_⟩|refine⟨_,rfl,?_⟩|refine And.intro (by first|omega|trivial|(show _=_;rfl)|(with_reducible constructor)<;>first|omega|trivial|rfl) ?_|refine ih1 _ _ ?_|fail
  all_goals first | (exfalso;omega) | skip
  rename_i hd0 ho0 _ _
  have hd1:=hd0
  obtain ⟨a2,es2,c2,rfl,hl2,he2⟩:=Ty.is_mk.1 hd0
  have q:stZ 10 (.mk k0 l0)=if k0=0 then tZero else wg (.mk k0 l0):=rfl
  rw [q] at hQ
  repeat' first|with_reducible intro _|simp only[Y1,Y2,Y3,Y4]|with_reducible refine X ?_ ?_|refine⟨_,_,_,rfl,?_⟩|refine⟨_,rfl,?_⟩|refine And.intro (by first|omega|trivial|(show _=_;rfl)|(with_reducible constructor)<;>first|omega|trivial|rfl) ?_|refine (zIf (.mk k0 l0) _ hd1 (by omega)) _ _ ?_|fail
  all_goals first
   | exact hQ _ _ (by omega) (by rw [if_neg (by assumption)];assumption) (Own.mono (by assumption) (by omega) (by omega))
   | exact hQ _ _ (by omega) (by rw [if_pos (by assumption)];exact yM) yL
 ·have ih1:=ih0 es a c ctx
  rw [show zr 11 n=n - 1 by simp [zr]] at ih1
  have q:stZ 11 (.mk k0 l0)=p7 (.mk k0 l0):=rfl
  rw [q] at hQ
  repeat' first|with_reducible intro _|simp only[oN,oP,Y1,Y2,Y3,Y4]|with_reducible refine X ?_ ?_|refine⟨_,_,_,rfl,?_⟩|refine⟨_,rfl,?_⟩|refine And.intro (by first|omega|trivial|(show _=_;rfl)|(with_reducible constructor)<;>first|omega|trivial|rfl) ?_|refine ih1 _ _ ?_|refine (zHy (.mk k0 l0) _ (by assumption) hzv) _ _ ?_|fail
  all_goals first | (exfalso;omega) | skip
  exact hQ _ _ (by omega) (by assumption) (Own.mono (by assumption) (by omega) (by omega))
 ·rw [if_pos rfl,show zr 12 n=n by simp [zr]] at ih0
  have q:stZ 12 (.mk k0 l0)=p7 (.mk k0 l0):=rfl
  rw [q] at hQ
  repeat' first|with_reducible intro _|simp only[oN,oP,Y1,Y2,Y3,Y4]|with_reducible refine X ?_ ?_|refine⟨_,_,_,rfl,?_⟩|refine⟨_,rfl,?_⟩|refine And.intro (by first|omega|trivial|(show _=_;rfl)|(with_reducible constructor)<;>first|omega|trivial|rfl) ?_|refine (zB2 ctx (by omega) hc2 _ _ n) _ _ ?_|refine (ih0 _ _ _ (by assumption)) _ _ ?_|refine (zHy (.mk k0 l0) _ (by assumption) hzv) _ _ ?_|fail
  all_goals first | (exfalso;omega) | skip
  exact hQ _ _ (by omega) (by assumption) (Own.mono (by assumption) (by omega) (by omega))
 ·have ih1:=ih0 es a c ctx
  rw [show zr 13 n=n by simp [zr]] at ih1
  have q:stZ 13 (.mk k0 l0)=if (Ty.mk k0 l0).base then wg (.mk k0 l0) else tZero:=rfl
  rw [q] at hQ
  repeat' first|with_reducible intro _|simp only[oN,oP,Y1,Y2,Y3,Y4]|with_reducible refine X ?_ ?_|refine⟨_,_,_,rfl,?_⟩|refine⟨_,rfl,?_⟩|refine And.intro (by first|omega|trivial|(show _=_;rfl)|(with_reducible constructor)<;>first|omega|trivial|rfl) ?_|refine ih1 _ _ ?_|refine (qh (.mk k0 l0) _ (by assumption)) _ _ ?_|refine (zIf (.mk k0 l0) _ (by assumption) (by omega)) _ _ ?_|fail
  all_goals first | (exfalso;omega) | skip
  all_goals first
   | exact hQ _ _ (by omega) (by rw [if_pos (by assumption)];assumption) (Own.mono (by assumption) (by omega) (by omega))
   | exact hQ _ _ (by omega) (by rw [if_neg (by simp [*])];exact yM) yL
theorem f4 {nm ot:ByteArray} {m n:Int} {ty re:Ty} {l:List Tm} {t0 t1 r0 r1:D} {es1:List D} {a1 a:Option Addr} {c1 c:Nat} {g:List Tg} {es:List D} (ih:IHi l) (hh:Tm.Hd nm ot ty re t0 t1 r0 r1) (h0:All2 Tm.Is l es1) (hl1:es1.length<=4611686018427387904)
  (pre:Pre g (.mk 4 nm ot m ty re l) n) (ctx:Ctx g es) :
  zAQ 165 [.sv a 4 es c,.dg 9 (zC8 4 nm ot m t0 t1 r0 r1 a1 es1 c1),.int .i64 n] ((Tm.raw (.mk 4 nm ot m ty re l) g n).getD tZero):=fun N Q hQ=>by
 have hlen:=pre.len
 have hcl:=wS l
 have hln:=h0.len
 simp only [Tm.cnt] at hlen
 have hop:0<zEb nm:=by
  have:=(yU pre.ok).f
  simp only [yG,tL,oL] at this
  have:=this.2.2.2.2.2
  simp at this
  exact this.1
 have hraw:(Tm.raw (.mk 4 nm ot m ty re l) g n).getD tZero=if qv (rG nm) (l.map fun e=>tyZ e g n) then pi nm else tZero:=by
  rw [<-zPo hop]
  simp only [Tm.raw]
  rfl
 rw [hraw] at hQ
 have hn:zr 4 n=n:=by simp [zr]
 have key:yH Q N 0 0 es1.length (0:Nat) (zC8 4 nm ot m t0 t1 r0 r1 a1 es1 c1) 0 none [] 0 a es c n [] 0 N:=by
  refine up h0 hl1 (fun i xs=>∀ (r:List D) (q p:Nat) (N':Nat) (ts:List Ty),N<=N'->p=r.length->All2 Ty.Is ts r->ts.length=i->(∀ b∈zE r,N<=b)->ts++(xs.map fun e=>tyZ e g n)=(l.map fun e=>tyZ e g n) ->
   yH Q N p q es1.length i (zC8 4 nm ot m t0 t1 r0 r1 a1 es1 c1) 0 none [] 0 a es c n r q N') ?_ ?_ [] 0 0 N [] (oF _) rfl rfl rfl (by simp [zE]) rfl
  ·intro i hlt hi r q p N' ts hN' hp hr hti hlo hts
   have hrl:=hr.len
   simp only [mW,nF] at hts
   rw [<-hts] at hQ
   refine va _ _ _ _ _ _ _ _ _ _ _ _ _ _ _ _ _ _ ?_
   repeat' first|with_reducible intro _|simp only[hlt,Y1,Y2,Y3,Y4]|with_reducible refine X ?_ ?_|refine⟨_,_,_,rfl,?_⟩|refine⟨_,rfl,?_⟩|refine And.intro (by first|omega|trivial|(show _=_;rfl)|(with_reducible constructor)<;>first|omega|trivial|rfl) ?_|refine (zLd hr (by omega) _ _ nm) _ _ ?_|(((with_reducible refine And.intro ?_ ?_);· exact xV (by assumption) (by assumption)))|fail
   exact hQ _ _ (by omega) (by assumption) (Own.mono (by assumption) (by omega) (by omega))
  ·intro i x xs hat _ ih2 r q p N' ts hN' hp hr hti hlo hts
   have hb:=hat.b
   have hrl:=hr.len
   refine va _ _ _ _ _ _ _ _ _ _ _ _ _ _ _ _ _ _ ?_
   repeat' first|with_reducible intro _|simp only[hat.lt,hat.w,oM,Y1,Y2,Y3,Y4]|with_reducible refine X ?_ ?_|refine⟨_,_,_,rfl,?_⟩|refine⟨_,rfl,?_⟩|refine And.intro (by first|omega|trivial|(show _=_;rfl)|(with_reducible constructor)<;>first|omega|trivial|rfl) ?_|refine (zAw hn ih h0 hl1 pre ctx i hat.g _ _ _) _ _ ?_|(((with_reducible refine And.intro ?_ ?_);· exact xV (by assumption) (by assumption)))|fail
   all_goals first | (exfalso;omega) | skip
   rename_i hd ho _ _
   refine ⟨by unfold zA;simp only [oH,nK];omega,fun c2=>ih2 _ _ _ _ (ts++[tyZ x g n]) (by omega) rfl (hr.snoc hd) (by simp [hti]) (fun b hb=>?_) (by simpa using hts)⟩
   rw [zG] at hb
   rcases oK.1 hb with hb | hb
   ·exact hlo b hb
   ·simp only [zE,nF] at hb
    have:=ho.lo b hb
    omega
 refine zR N a es c _ n Q fun _ _=>⟨_,rfl,?_⟩
 repeat' first|with_reducible intro _|simp only[Y1,Y2,Y3,Y4]|with_reducible refine X ?_ ?_|refine⟨_,_,_,rfl,?_⟩|refine⟨_,rfl,?_⟩|refine And.intro (by first|omega|trivial|(show _=_;rfl)|(with_reducible constructor)<;>first|omega|trivial|rfl) ?_|fail
 all_goals first | (exfalso;omega) | exact key
theorem f1 {nm ot:ByteArray} {m n:Int} {ty re:Ty} {l:List Tm} {t0 t1 r0 r1:D} {es1:List D} {a1 a:Option Addr} {c1 c:Nat} {g:List Tg} {es:List D}
  (pre:Pre g (.mk 1 nm ot m ty re l) n) (ctx:Ctx g es) :
  zAQ 165 [.sv a 4 es c,.dg 9 (zC8 1 nm ot m t0 t1 r0 r1 a1 es1 c1),.int .i64 n] ((Tm.raw (.mk 1 nm ot m ty re l) g n).getD tZero):=fun N Q hQ=>by
 have hl2:=ctx.all.len
 have hraw:Tm.raw (.mk 1 nm ot m ty re l) g n=xB g nm n:=by simp [Tm.raw]
 rw [hraw] at hQ
 refine zR N a es c _ n Q fun _ _=>⟨_,rfl,?_⟩
 rcases uF g nm g.length with hlx | hlx
 ·have hlx:zC g nm = -1:=hlx
  have:xB g nm n=none:=by simp [xB,hlx]
  rw [this] at hQ
  repeat' first|with_reducible intro _|simp only[hlx,Y1,Y2,Y3,Y4]|with_reducible refine X ?_ ?_|refine⟨_,_,_,rfl,?_⟩|refine⟨_,rfl,?_⟩|refine And.intro (by first|omega|trivial|(show _=_;rfl)|(with_reducible constructor)<;>first|omega|trivial|rfl) ?_|refine (pF ctx a c nm) _ _ ?_|fail
  all_goals first | (exfalso;omega) | skip
  exact hQ _ _ (by omega) yM yL
 ·have hlx:0<=zC g nm/\zC g nm<g.length:=hlx
  have hg:g[(zC g nm).toNat]?=some g[(zC g nm).toNat]:=oD (by omega)
  have hx:=ctx.all.get hg
  have hgd:g.getD (zC g nm).toNat tg0=g[(zC g nm).toNat]:=zCD hg
  obtain ⟨u0,u1,hd,hs,ht⟩:=hx
  have hm:g[(zC g nm).toNat]∈g:=nk _
  have hcn:=pre.ty _ hm
  have:xB g nm n=if g[(zC g nm).toNat].lv=n then some g[(zC g nm).toNat].ty else none:=by
   rw [xB,if_neg (by omega),hgd]
  rw [this] at hQ
  generalize g[(zC g nm).toNat]=x at *
  repeat' first|with_reducible intro _|simp only[hd,Y1,Y2,Y3,Y4]|with_reducible refine X ?_ ?_|refine⟨_,_,_,rfl,?_⟩|refine⟨_,rfl,?_⟩|refine And.intro (by first|omega|trivial|(show _=_;rfl)|(with_reducible constructor)<;>first|omega|trivial|rfl) ?_|refine (pF ctx a c nm) _ _ ?_|refine (zHr _ _ ht (by omega)) _ _ ?_|fail
  all_goals first | (exfalso;omega) | skip
  ·rw [if_pos (by assumption)] at hQ;exact hQ _ _ (by omega) (by assumption) (Own.mono (by assumption) (by omega) (by omega))
  ·rw [if_neg (by assumption)] at hQ;exact hQ _ _ (by omega) yM yL
theorem zIo {e:Tm} {d:D} (he:e.Is d) (ih:match e with | .mk _ _ _ _ _ _ l=>IHi l) {g:List Tg} {es:List D} (a:Option Addr) (c:Nat) {n:Int} (pre:Pre g e n) (ctx:Ctx g es) :
  zAQ 165 [.sv a 4 es c,.dg 9 d,.int .i64 n] ((e.raw g n).getD tZero):=by
 cases e with
 | mk k nm ot m ty re l=>
 dsimp only at ih
 obtain ⟨t0,t1,r0,r1,a1,es1,c1,rfl,hh,hlen1,hes1⟩:=Tm.is_mk.1 he
 have nd:=yU pre.ok
 have har:=nd.ar
 have hkk:=zA6 (k:=k) (nm:=nm) (by omega)
 rcases hkk with rfl | rfl | rfl | rfl | rfl | rfl | rfl | rfl | rfl | h | h | h | h
 ·exact f1 pre ctx
 ·intro N Q hQ
  have hraw:Tm.raw (.mk 2 nm ot m ty re l) g n=some tInt:=by simp [Tm.raw]
  rw [hraw] at hQ
  refine zR N a es c _ n Q fun _ _=>⟨_,rfl,?_⟩
  repeat' first|with_reducible intro _|simp only[Y1,Y2,Y3,Y4]|with_reducible refine X ?_ ?_|refine⟨_,_,_,rfl,?_⟩|refine⟨_,rfl,?_⟩|refine And.intro (by first|omega|trivial|(show _=_;rfl)|(with_reducible constructor)<;>first|omega|trivial|rfl) ?_|refine zJi _ _ ?_|fail
  all_goals first | (exfalso;omega) | skip
  exact hQ _ _ (by omega) (by assumption) (Own.mono (by assumption) (by omega) (by omega))
 ·intro N Q hQ
  have hraw:Tm.raw (.mk 3 nm ot m ty re l) g n=some tBool:=by simp [Tm.raw]
  rw [hraw] at hQ
  refine zR N a es c _ n Q fun _ _=>⟨_,rfl,?_⟩
  repeat' first|with_reducible intro _|simp only[Y1,Y2,Y3,Y4]|with_reducible refine X ?_ ?_|refine⟨_,_,_,rfl,?_⟩|refine⟨_,rfl,?_⟩|refine And.intro (by first|omega|trivial|(show _=_;rfl)|(with_reducible constructor)<;>first|omega|trivial|rfl) ?_|refine zEU _ _ ?_|fail
  all_goals first | (exfalso;omega) | skip
  exact hQ _ _ (by omega) (by assumption) (Own.mono (by assumption) (by omega) (by omega))
 ·exact f4 ih hh hes1 hlen1 pre ctx
 ·exact f5 ih hh hes1 hlen1 pre ctx
 ·exact f6 ih hh hes1 hlen1 pre ctx
 ·exact f7 ih hh hes1 hlen1 pre ctx
 ·exact f8 ih hh hes1 hlen1 pre ctx
 ·exact f9 ih hh hes1 hlen1 pre ctx
 all_goals
  intro N Q hQ
  have hk:k=10\/k=11\/k=12\/k=13:=by omega
  refine zR N a es c _ n Q fun _ _=>⟨_,rfl,?_⟩
  repeat' first|with_reducible intro _|simp only[Y1,Y2,Y3,Y4]|with_reducible refine X ?_ ?_|refine⟨_,_,_,rfl,?_⟩|refine⟨_,rfl,?_⟩|refine And.intro (by first|omega|trivial|(show _=_;rfl)|(with_reducible constructor)<;>first|omega|trivial|rfl) ?_|refine (fS hk ih hh hes1 hlen1 pre ctx) _ _ ?_|fail
  all_goals first | (exfalso;omega) | skip
  exact hQ _ _ (by omega) (by assumption) (Own.mono (by assumption) (by omega) (by omega))
theorem zND (e:Tm) (g:List Tg) (n:Int):tyZ e g n=if ((e.raw g n).getD tZero).valid then (e.raw g n).getD tZero else tZero:=by
 rw [tyZ,Tm.type_eq]
 cases e.raw g n with
 | none=>rfl
 | some t=>
   simp only [vld,ow]
   split<;>rfl
theorem zNg:∀ (e:Tm),∀ d,e.Is d->∀ g es a c n,Pre g e n->Ctx g es->zAQ 95 [.sv a 4 es c,.dg 9 d,.int .i64 n] (tyZ e g n):=by
 refine Tm.ind fun k nm ot m ty re l ih d hd g es a c n pre ctx N Q hQ=>?_
 have hs:=zIo hd ih a c pre ctx
 rw [zND] at hQ
 have hc:((Tm.raw (.mk k nm ot m ty re l) g n).getD tZero).cnt<=64:=by
  cases h:Tm.raw (.mk k nm ot m ty re l) g n with
  | none=>simp [tZero,Ty.cnt,zI]
  | some t=>simpa using zK0 pre h
 generalize (Tm.raw (.mk k nm ot m ty re l) g n).getD tZero=z at *
 refine zF2 N a es c _ n Q fun _ _=>?_
 repeat' first|with_reducible intro _|simp only[Y1,Y2,Y3,Y4]|with_reducible refine X ?_ ?_|refine⟨_,_,_,rfl,?_⟩|refine⟨_,rfl,?_⟩|refine And.intro (by first|omega|trivial|(show _=_;rfl)|(with_reducible constructor)<;>first|omega|trivial|rfl) ?_|refine hs _ _ ?_|refine (yo z _ (by assumption) (by omega)) _ _ ?_|fail
 all_goals first
  | exact hQ _ _ (by omega) (by rw [if_pos (by assumption)];assumption) (Own.mono (by assumption) (by omega) (by omega))
  | exact hQ _ _ (by omega) (by rw [if_neg (by simp [*])];exact yM) yL
/-- returns this type and true, or the zero type and false, in memory of its own -/
def zPk (f:FuncId) (args:List PV) (o:Option Ty):Prop:=∀ (N:Nat) (Q:QT [.ag 2,.bool]),(∀ d N',N<=N'->(o.getD tZero).Is d->Own N N' d->Q d o.isSome N')->ACalls prog f [.ag 2,.bool] args N Q
theorem ue {g:List Tg} {es:List D} (ctx:Ctx g es) (hg:∀ x∈g,x.ty.cnt<=1073741824) {e:Tm} {d:D} (he:e.Is d) (hc:e.cnt<=1048576000 / 2) (a:Option Addr) (c:Nat) (n:Int) :
  zPk 31 [.sv a 4 es c,.dg 9 d,.int .i64 n] (wt g e n):=fun N Q hQ=>by
 refine zEW N a es c d n Q fun _ _=>?_
 cases h1:zBy g with
 | false=>
   rw [wt,if_neg (by simp [h1])] at hQ
   repeat' first|with_reducible intro _|simp only[h1,Y1,Y2,Y3,Y4]|with_reducible refine X ?_ ?_|refine⟨_,_,_,rfl,?_⟩|refine⟨_,rfl,?_⟩|refine And.intro (by first|omega|trivial|(show _=_;rfl)|(with_reducible constructor)<;>first|omega|trivial|rfl) ?_|refine (vk ctx hg a c) _ _ ?_|fail
   exact hQ _ _ (by omega) yM yL
 | true=>
   cases h2:zEC e n with
   | false=>
     rw [wt,if_neg (by simp [h2])] at hQ
     repeat' first|with_reducible intro _|simp only[h1,h2,Y1,Y2,Y3,Y4]|with_reducible refine X ?_ ?_|refine⟨_,_,_,rfl,?_⟩|refine⟨_,rfl,?_⟩|refine And.intro (by first|omega|trivial|(show _=_;rfl)|(with_reducible constructor)<;>first|omega|trivial|rfl) ?_|refine (vk ctx hg a c) _ _ ?_|refine (tq e d he (by omega) n) _ _ ?_|fail
     exact hQ _ _ (by omega) yM yL
   | true=>
     rw [wt,if_pos ⟨h1,h2⟩] at hQ
     have hz:=uB e g n
     repeat' first|with_reducible intro _|simp only[h1,h2,Y1,Y2,Y3,Y4]|with_reducible refine X ?_ ?_|refine⟨_,_,_,rfl,?_⟩|refine⟨_,rfl,?_⟩|refine And.intro (by first|omega|trivial|(show _=_;rfl)|(with_reducible constructor)<;>first|omega|trivial|rfl) ?_|refine (vk ctx hg a c) _ _ ?_|refine (tq e d he (by omega) n) _ _ ?_|refine (zNg e d he g es a c n (zMf h1 h2 hc) ctx) _ _ ?_|fail
     rename_i hd ho _ _
     rcases hz with ⟨h3,h4⟩ | ⟨h3,h4⟩
     ·rw [h3] at hQ
      rw [h4] at hd
      obtain ⟨a2,es2,c2,rfl,hl2,he2⟩:=Ty.is_mk.1 hd
      repeat' first|with_reducible intro _|simp only[Y1,Y2,Y3,Y4]|with_reducible refine X ?_ ?_|refine⟨_,_,_,rfl,?_⟩|refine⟨_,rfl,?_⟩|refine And.intro (by first|omega|trivial|(show _=_;rfl)|(with_reducible constructor)<;>first|omega|trivial|rfl) ?_|fail
      exact hQ _ _ (by omega) hd (Own.mono (by assumption) (by omega) (by omega))
     ·rw [h3] at hQ
      have hnz:=Ty.valid_nz h4
      generalize tyZ e g n=z at *
      cases z with
      | mk k0 l0=>
      have hd1:=hd
      obtain ⟨a2,es2,c2,rfl,hl2,he2⟩:=Ty.is_mk.1 hd
      repeat' first|with_reducible intro _|simp only[Y1,Y2,Y3,Y4]|with_reducible refine X ?_ ?_|refine⟨_,_,_,rfl,?_⟩|refine⟨_,rfl,?_⟩|refine And.intro (by first|omega|trivial|(show _=_;rfl)|(with_reducible constructor)<;>first|omega|trivial|rfl) ?_|fail
      have hnz:(bne k0 0)=true:=by simpa [Ty.k] using hnz
      rw [hnz]
      exact hQ _ _ (by omega) hd1 (Own.mono (by assumption) (by omega) (by omega))
end Go.Proofs.YtkdjhkfiolhkiaaGreat
