/- Parameters: what they are; the laws' sizes, copies, equality and marks on them. -/
import Derived.Test.YtmfjakahanbnlaaGreatDoorA4
import Derived.Test.YtmfjakahanbnlaaGreatDoorA3
import Derived.Test.YtmfjakahanbnlaaGreatDoorKi
set_option linter.unusedVariables false
set_option linter.unusedSimpArgs false
namespace Go.Proofs.YtmfjakahanbnlaaGreatDoor
open Go Go.Proofs Go.Proofs.Tryz Go.IntWalk
structure Pm where
 nm:ByteArray
 ty:Ty
 dy:Bool
def Pm.Is (g:Pm) (d:D):Prop:=∃ t0 t1,d=.ag [.lit (.string g.nm),t0,t1,.lit (.bool g.dy)]/\g.nm.size<=4611686018427387904/\g.ty.Is (.ag [t0,t1])
theorem xA (n a b:Int):tW 65 [.int .i64 n,.int .i64 a,.int .i64 b] (inB n a b):=fun N Q hQ=>by
 refine zBv N n a b Q ?_
 repeat' first|with_reducible intro _|simp only[Y1,Y2,Y3,Y4]|with_reducible refine X ?_ ?_|refine⟨_,_,_,rfl,?_⟩|refine⟨_,rfl,?_⟩|refine And.intro (by first|omega|trivial|(show _=_;rfl)|(with_reducible constructor)<;>first|omega|trivial|rfl) ?_|fail
 all_goals simpa [inB, *] using hQ _ (by omega)
def r8 {α:Type} (p:α->Bool):List α->Int->Int
 | [],_ => -1
 | x::xs,i=>if p x then i else r8 p xs (i+1)
theorem sC {α:Type} (p:α->Bool):∀ (l:List α) (i:Int),0<=i->decide (r8 p l i≥0)=l.any p
 | [],i,h=>by simp [r8]
 | x::xs,i,h=>by
   have ih:=sC p xs (i+1) (by omega)
   rw [mG,mN] at ih ⊢
   simp only [r8,List.any_cons,mF]
   by_cases hp:p x=true
   ·simp only [hp,mg,true_or,iff_true];exact h
   ·simpa [hp] using ih
/-- a row of words -/
def zA (l:List ByteArray):List D:=l.map fun s=>.lit (.string s)
theorem yF:∀ l:List ByteArray,All2 (fun s d=>d=.lit (.string s)) l (zA l)
 | []=>rfl
 | s::l=>⟨_,_,rfl,rfl,yF l⟩
theorem zD2 (l:List ByteArray) (hl:l.length<=4611686018427387904) (a:Option Addr) (c:Nat) (s:ByteArray):zCJ 241 [.sv a 0 (zA l) c,.str s] (r8 (fun x=>decide (s=x)) l 0):=fun N Q hQ=>by
 have hes:=yF l
 have hlen:(zA l).length<=4611686018427387904:=by rw [hes.len];exact hl
 refine tR N a _ c s Q fun _=>?_
 refine up hes hlen (fun i xs=>∀ (N':Nat),N<=N'->(∀ N'',N'<=N''->Q (r8 (fun x=>decide (s=x)) xs i) N'')->zl Q N a (zA l) c s ((zA l).length:Int) i N') ?_ ?_ N (oF _) hQ
 ·intro i hlt _ N' hN' hQ'
  refine xj _ _ _ _ _ _ _ _ _ ?_
  repeat' first|with_reducible intro _|simp only[hlt,Y1,Y2,Y3,Y4]|with_reducible refine X ?_ ?_|refine⟨_,_,_,rfl,?_⟩|refine⟨_,rfl,?_⟩|refine And.intro (by first|omega|trivial|(show _=_;rfl)|(with_reducible constructor)<;>first|omega|trivial|rfl) ?_|fail
  exact hQ' _ (by omega)
 ·intro i x xs hat _ ih2 N' hN' hQ'
  have hb:=hat.b
  have hr:=hat.r
  simp only [r8] at hQ'
  refine xj _ _ _ _ _ _ _ _ _ ?_
  repeat' first|with_reducible intro _|simp only[hat.lt,hat.w,oJ,hr,Y1,Y2,Y3,Y4]|with_reducible refine X ?_ ?_|refine⟨_,_,_,rfl,?_⟩|refine⟨_,rfl,?_⟩|refine And.intro (by first|omega|trivial|(show _=_;rfl)|(with_reducible constructor)<;>first|omega|trivial|rfl) ?_|fail
  ·rename_i h _ _;subst h;exact Qi (hQ' _ (by omega)) (by simp)
  ·rename_i h;exact ih2 _ hN' fun N'' h2=>Qi (hQ' _ h2) (by rw [if_neg (by simpa using h)];simp)
theorem xc (l:List ByteArray) (hl:l.length<=4611686018427387904) (a:Option Addr) (c:Nat) (s:ByteArray):tW 184 [.sv a 0 (zA l) c,.str s] (l.any fun x=>decide (s=x)):=fun N Q hQ=>by
 refine vl N a _ c s Q fun _=>?_
 repeat' first|with_reducible intro _|simp only[Y1,Y2,Y3,Y4]|with_reducible refine X ?_ ?_|refine⟨_,_,_,rfl,?_⟩|refine⟨_,rfl,?_⟩|refine And.intro (by first|omega|trivial|(show _=_;rfl)|(with_reducible constructor)<;>first|omega|trivial|rfl) ?_|refine (zD2 l hl a c s) _ _ ?_|fail
 exact Qb (hQ _ (by omega)) (sC _ l 0 (by omega)).symm
theorem th (s:ByteArray) (hs:s.size<=4611686018427387904):tW 237 [.str s] (vf s):=fun N Q hQ=>by
 refine zBi N s Q ?_
 have key:=upN hs (fun i=>∀ N',N<=N'->(∀ N'',N'<=N''->Q (wg s i&&qW s) N'')->z6 Q N s (s.size:Int) i N') ?_ ?_
 ·exact key N (oF _) hQ
 ·intro hlt N' hN' hQ'
  have hc:=xc [bytes [105,102],bytes [108,101,116],bytes [108,105,102,116],bytes [114,101,99],bytes [114,117,110]] (by simp)
  simp only [zA,List.map] at hc
  refine uD _ _ _ _ _ _ ?_
  repeat' first|with_reducible intro _|simp only[hlt,Y1,Y2,Y3,Y4]|with_reducible refine X ?_ ?_|refine⟨_,_,_,rfl,?_⟩|refine⟨_,rfl,?_⟩|refine And.intro (by first|omega|trivial|(show _=_;rfl)|(with_reducible constructor)<;>first|omega|trivial|rfl) ?_|refine (xA _ _ _) _ _ ?_|refine (hc _ _ _) _ _ ?_|fail
  all_goals (refine Qb (hQ' _ (by omega)) ?_;rw [rV])
  ·simp only [qW,List.any_cons,List.any_nil,Bool.or_false, *]
   cases decide (s=bytes [105,102])<;>cases decide (s=bytes [108,101,116])<;>cases decide (s=bytes [108,105,102,116])<;>cases decide (s=bytes [114,101,99])<;>cases decide (s=bytes [114,117,110])<;>rfl
  ·simp [qW, *]
 ·intro i hi hlt hw ih2 N' hN' hQ'
  refine uD _ _ _ _ _ _ ?_
  rw [ta hi] at hQ'
  repeat' first|with_reducible intro _|simp only[hlt,hw,oJ,Y1,Y2,Y3,Y4]|with_reducible refine X ?_ ?_|refine⟨_,_,_,rfl,?_⟩|refine⟨_,rfl,?_⟩|refine And.intro (by first|omega|trivial|(show _=_;rfl)|(with_reducible constructor)<;>first|omega|trivial|rfl) ?_|fail
  all_goals first
   | (refine Qb (hQ' _ (by omega)) ?_;unfold zAY rS;simp only [*];simp;done)
   | (refine ih2 _ (by omega) fun N'' h=>Qb (hQ' N'' (by omega)) ?_;unfold zAY rS;simp only [*];simp;done)
theorem sg:∀ (t:Ty) (d:D),t.Is d->t.cnt<=1073741824->zCJ 275 [.dg 2 d] t.cnt:=by
 refine Ty.ind fun k l ih d hd hc N Q hQ=>?_
 obtain ⟨a,es,c,rfl,hlen,hes⟩:=Ty.is_mk.1 hd
 simp only [Ty.cnt] at hc
 refine sx N _ Q fun _=>⟨_,_,_,rfl,?_⟩
 refine up hes hlen (fun i xs=>∀ (m:Nat) (N':Nat),N<=N'->m+yb xs=1+yb l->yB Q N m a es c es.length i N') ?_ ?_ 1 N (oF _) rfl
 ·intro i hlt _ m N' hN' hm
  refine wE _ _ _ _ _ _ _ _ _ ?_
  simp only [yb] at hm
  repeat' first|with_reducible intro _|simp only[hlt,Y1,Y2,Y3,Y4]|with_reducible refine X ?_ ?_|refine⟨_,_,_,rfl,?_⟩|refine⟨_,rfl,?_⟩|refine And.intro (by first|omega|trivial|(show _=_;rfl)|(with_reducible constructor)<;>first|omega|trivial|rfl) ?_|fail
  exact Qi (hQ _ (by omega)) (by simp only [Ty.cnt];omega)
 ·intro i x xs hat _ ih2 m N' hN' hm
  have hb:=hat.b
  have hxc:=xY hat.m
  simp only [yb] at hm
  refine wE _ _ _ _ _ _ _ _ _ ?_
  repeat' first|with_reducible intro _|simp only[hat.lt,hat.w,oJ,Y1,Y2,Y3,Y4]|with_reducible refine X ?_ ?_|refine⟨_,_,_,rfl,?_⟩|refine⟨_,rfl,?_⟩|refine And.intro (by first|omega|trivial|(show _=_;rfl)|(with_reducible constructor)<;>first|omega|trivial|rfl) ?_|refine (ih x hat.m _ hat.r (by omega)) _ _ ?_|fail
  rw [i64_in _ (by omega)]
  exact ih2 (m+x.cnt) _ (by omega) (by omega)
theorem sA:∀ (t:Ty) (d:D),t.Is d->t.cnt<=1073741824->zCJ 276 [.dg 2 d] t.dep:=by
 refine Ty.ind fun k l ih d hd hc N Q hQ=>?_
 obtain ⟨a,es,c,rfl,hlen,hes⟩:=Ty.is_mk.1 hd
 simp only [Ty.cnt] at hc
 have hdl:=uW l
 refine sE N _ Q fun _=>⟨_,_,_,rfl,?_⟩
 refine up hes hlen (fun i xs=>∀ (m:Nat) (N':Nat),N<=N'->max m (vQ xs)=vQ l->zt Q N m a es c es.length i N') ?_ ?_ 0 N (oF _) (by omega)
 ·intro i hlt _ m N' hN' hm
  refine xr _ _ _ _ _ _ _ _ _ ?_
  simp only [vQ] at hm
  repeat' first|with_reducible intro _|simp only[hlt,Y1,Y2,Y3,Y4]|with_reducible refine X ?_ ?_|refine⟨_,_,_,rfl,?_⟩|refine⟨_,rfl,?_⟩|refine And.intro (by first|omega|trivial|(show _=_;rfl)|(with_reducible constructor)<;>first|omega|trivial|rfl) ?_|fail
  rw [i64_in _ (by omega)]
  exact Qi (hQ _ (by omega)) (by simp only [Ty.dep];omega)
 ·intro i x xs hat _ ih2 m N' hN' hm
  have hb:=hat.b
  have hxc:=xY hat.m
  simp only [vQ] at hm
  refine xr _ _ _ _ _ _ _ _ _ ?_
  repeat' first|with_reducible intro _|simp only[hat.lt,hat.w,oJ,Y1,Y2,Y3,Y4]|with_reducible refine X ?_ ?_|refine⟨_,_,_,rfl,?_⟩|refine⟨_,rfl,?_⟩|refine And.intro (by first|omega|trivial|(show _=_;rfl)|(with_reducible constructor)<;>first|omega|trivial|rfl) ?_|refine (ih x hat.m _ hat.r (by omega)) _ _ ?_|fail
  have e:(if (x.dep:Int)>(m:Int) then (x.dep:Int) else (m:Int))=((max m x.dep:Nat):Int):=by split<;>omega
  rw [e]
  exact ih2 _ _ (by omega) (by omega)
theorem qR (t:Ty) (d:D) (hd:t.Is d):tW 277 [.dg 2 d] (p7 t.k t.as.length):=fun N Q hQ=>by
 cases t with
 | mk k l=>
 obtain ⟨a,es,c,rfl,hlen,hes⟩:=Ty.is_mk.1 hd
 have hl:=hes.len
 simp only [Ty.k,Ty.as] at hQ
 refine uu N _ Q fun _=>?_
 cases hin:inB k 1 4 with
 | false=>
   repeat' first|with_reducible intro _|simp only[hin,Y1,Y2,Y3,Y4]|with_reducible refine X ?_ ?_|refine⟨_,_,_,rfl,?_⟩|refine⟨_,rfl,?_⟩|refine And.intro (by first|omega|trivial|(show _=_;rfl)|(with_reducible constructor)<;>first|omega|trivial|rfl) ?_|refine (xA _ _ _) _ _ ?_|fail
   refine Qb (hQ _ (by omega)) ?_
   have:¬(1<=k/\k<=4):=fun h=>by rw [tJ.2 h] at hin;cases hin
   unfold p7
   rw [if_neg (by omega),if_neg (by omega),if_neg (by omega)]
 | true=>
   have hb:=tJ.1 hin
   have w0:IntKind.i64.wrap 0=0:=rfl
   have w1:IntKind.i64.wrap 1=1:=rfl
   have w2:IntKind.i64.wrap 2=2:=rfl
   have w3:IntKind.i64.wrap 3=3:=rfl
   have hk:k=1\/k=2\/k=3\/k=4:=by omega
   rcases hk with rfl | rfl | rfl | rfl
   all_goals
    repeat' first|with_reducible intro _|simp only[hin,w0,w1,w2,w3,Y1,Y2,Y3,Y4]|with_reducible refine X ?_ ?_|refine⟨_,_,_,rfl,?_⟩|refine⟨_,rfl,?_⟩|refine And.intro (by first|omega|trivial|(show _=_;rfl)|(with_reducible constructor)<;>first|omega|trivial|rfl) ?_|refine (xA _ _ _) _ _ ?_|fail
    refine Qb (hQ _ (by omega)) ?_
    simp [p7,hl]
theorem pT:∀ l:List Ty,wq l=!(l.any fun x=>!x.form)
 | []=>rfl
 | t::ts=>by simp only [wq,List.any_cons,pT ts];cases t.form<;>simp
theorem pA {p:Ty->Bool} {l:List Ty} {es:List D} (h:All2 Ty.Is l es) (hlen:es.length<=4611686018427387904) (ad:Addr) (hp:∀ x∈l,∀ d,x.Is d->tW 281 [.dg 2 d,.pd ad 0 (.fn 277 [])] (p x)) (a:Option Addr) (c:Nat) :
  tW 280 [.sv a 2 es c,.fn 281 [.pd ad 0 (.fn 277 [])]] (l.any p):=fun N Q hQ=>by
 have hi:zCJ 296 [.sv a 2 es c,.fn 281 [.pd ad 0 (.fn 277 [])]] (r8 p l 0):=fun N Q hQ=>by
  refine wV N a es c ad Q fun _=>?_
  refine up h hlen (fun i xs=>∀ (N':Nat),N<=N'->(∀ N'',N'<=N''->Q (r8 p xs i) N'')->zZ Q N a es c ad es.length i N') ?_ ?_ N (oF _) hQ
  ·intro i hlt _ N' hN' hQ'
   refine ya _ _ _ _ _ _ _ _ _ ?_
   repeat' first|with_reducible intro _|simp only[hlt,Y1,Y2,Y3,Y4]|with_reducible refine X ?_ ?_|refine⟨_,_,_,rfl,?_⟩|refine⟨_,rfl,?_⟩|refine And.intro (by first|omega|trivial|(show _=_;rfl)|(with_reducible constructor)<;>first|omega|trivial|rfl) ?_|fail
   exact hQ' _ (by omega)
  ·intro i x xs hat _ ih2 N' hN' hQ'
   have hb:=hat.b
   simp only [r8] at hQ'
   refine ya _ _ _ _ _ _ _ _ _ ?_
   repeat' first|with_reducible intro _|simp only[hat.lt,hat.w,oJ,Y1,Y2,Y3,Y4]|with_reducible refine X ?_ ?_|refine⟨_,_,_,rfl,?_⟩|refine⟨_,rfl,?_⟩|refine And.intro (by first|omega|trivial|(show _=_;rfl)|(with_reducible constructor)<;>first|omega|trivial|rfl) ?_|refine (hp x hat.m _ hat.r) _ _ ?_|fail
   ·exact Qi (hQ' _ (by omega)) (by rw [if_pos (by assumption)])
   ·rename_i h;exact ih2 _ (by omega) fun N'' h2=>Qi (hQ' _ (by omega)) (by rw [h];simp)
 refine xm N a es c ad Q fun _=>?_
 repeat' first|with_reducible intro _|simp only[Y1,Y2,Y3,Y4]|with_reducible refine X ?_ ?_|refine⟨_,_,_,rfl,?_⟩|refine⟨_,rfl,?_⟩|refine And.intro (by first|omega|trivial|(show _=_;rfl)|(with_reducible constructor)<;>first|omega|trivial|rfl) ?_|refine hi _ _ ?_|fail
 exact Qb (hQ _ (by omega)) (sC _ l 0 (by omega)).symm
theorem zFH:∀ (t:Ty) (d:D),t.Is d->tW 251 [.dg 2 d,.fn 277 []] t.form:=by
 refine Ty.ind fun k l ih d hd N Q hQ=>?_
 have hd':=hd
 obtain ⟨a,es,c,rfl,hlen,hes⟩:=Ty.is_mk.1 hd
 refine tf N _ Q fun _=>?_
 simp only [Ty.form,pT] at hQ
 repeat' first|with_reducible intro _|simp only[Y1,Y2,Y3,Y4]|with_reducible refine X ?_ ?_|refine⟨_,_,_,rfl,?_⟩|refine⟨_,rfl,?_⟩|refine And.intro (by first|omega|trivial|(show _=_;rfl)|(with_reducible constructor)<;>first|omega|trivial|rfl) ?_|refine (qR _ _ hd') _ _ ?_|refine (pA hes hlen _ (fun x hx d hd=>fun N Q hQ=>uo N d _ Q fun _ N1 hN1=>ih x hx d hd N1 _ fun N2 hN2 hle N3 hN3=>hQ N3 (by omega)) _ _) _ _ ?_|fail
 ·have h:p7 (Ty.mk k l).k (Ty.mk k l).as.length=true:=by assumption
  exact Qb (hQ _ (by omega)) (by simp only [Ty.k,Ty.as] at h;rw [h,Bool.and_true])
 ·rename_i h _ _
  exact Qb (hQ _ (by omega)) (by simp only [Ty.k,Ty.as] at h;rw [h,Bool.and_false])
theorem xG (t:Ty) (d:D) (hd:t.Is d) (hc:t.cnt<=1073741824):tW 239 [.dg 2 d] t.valid:=fun N Q hQ=>by
 refine sN N _ Q fun _=>?_
 repeat' first|with_reducible intro _|simp only[Y1,Y2,Y3,Y4]|with_reducible refine X ?_ ?_|refine⟨_,_,_,rfl,?_⟩|refine⟨_,rfl,?_⟩|refine And.intro (by first|omega|trivial|(show _=_;rfl)|(with_reducible constructor)<;>first|omega|trivial|rfl) ?_|refine (sg t d hd hc) _ _ ?_|refine (sA t d hd hc) _ _ ?_|refine (zFH t d hd) _ _ ?_|fail
 ·refine Qb (hQ _ (by omega)) ?_
  have h1:t.cnt<=30:=by omega
  have h2:t.dep<=8:=by omega
  simp [Ty.valid, *]
 ·refine Qb (hQ _ (by omega)) ?_
  have h2:¬t.dep<=8:=by omega
  simp [Ty.valid, *]
 ·refine Qb (hQ _ (by omega)) ?_
  have h1:¬t.cnt<=30:=by omega
  simp [Ty.valid, *]
theorem yn:∀ (t u:Ty) (d e:D),t.Is d->u.Is e->tW 113 [.dg 2 d,.dg 2 e] (zE2 t u):=by
 refine Ty.ind fun k l ih u d e hd he N Q hQ=>?_
 cases u with
 | mk k' l'=>
 obtain ⟨a,es,c,rfl,hlen,hes⟩:=Ty.is_mk.1 hd
 obtain ⟨a',es',c',rfl,hlen',hes'⟩:=Ty.is_mk.1 he
 have hl:=hes.len
 have hl':=hes'.len
 simp only [zE2] at hQ
 have hf:tW 180 [.sv a 2 es c,.sv a' 2 es' c',.fn 113 []] (wo l l'):=fun N Q hQ=>by
  have key:l.length=l'.length->∀ (N':Nat),N<=N'->(∀ N'',N'<=N''->Q (wo l (l'.drop 0)) N'')->zL Q N a' es' c' a es c es.length (0:Nat) N':=by
   intro hll
   refine up hes hlen (fun i xs=>∀ (N':Nat),N<=N'->(∀ N'',N'<=N''->Q (wo xs (l'.drop i)) N'')->zL Q N a' es' c' a es c es.length i N') ?_ ?_
   ·intro i hlt hi N' hN' hQ'
    refine yf _ _ _ _ _ _ _ _ _ _ _ ?_
    repeat' first|with_reducible intro _|simp only[hlt,Y1,Y2,Y3,Y4]|with_reducible refine X ?_ ?_|refine⟨_,_,_,rfl,?_⟩|refine⟨_,rfl,?_⟩|refine And.intro (by first|omega|trivial|(show _=_;rfl)|(with_reducible constructor)<;>first|omega|trivial|rfl) ?_|fail
    refine Qb (hQ' _ (by assumption)) ?_
    rw [nh (by omega)]
    rfl
   ·intro i x xs hat _ ih2 N' hN' hQ'
    have hb:=hat.b
    have hi':i<l'.length:=by omega
    have hg:l'[i]?=some l'[i]:=oG hi'
    have hd':l'.drop i=l'[i]::l'.drop (i+1):=mU hi'
    refine yf _ _ _ _ _ _ _ _ _ _ _ ?_
    rw [hd'] at hQ'
    repeat' first|with_reducible intro _|simp only[hat.lt,hat.w,oJ,Y1,Y2,Y3,Y4]|with_reducible refine X ?_ ?_|refine⟨_,_,_,rfl,?_⟩|refine⟨_,rfl,?_⟩|refine And.intro (by first|omega|trivial|(show _=_;rfl)|(with_reducible constructor)<;>first|omega|trivial|rfl) ?_|refine (ih x hat.m _ _ _ hat.r (hes'.get hg)) _ _ ?_|fail
    ·exact Qb (hQ' _ (by omega)) (by simp [wo, *])
    ·exact ih2 _ (by omega) fun N'' h=>Qb (hQ' N'' (by omega)) (by simp [wo, *])
  refine wS N _ _ _ _ _ _ Q fun _ _=>?_
  repeat' first|with_reducible intro _|simp only[Y1,Y2,Y3,Y4]|with_reducible refine X ?_ ?_|refine⟨_,_,_,rfl,?_⟩|refine⟨_,rfl,?_⟩|refine And.intro (by first|omega|trivial|(show _=_;rfl)|(with_reducible constructor)<;>first|omega|trivial|rfl) ?_|fail
  ·exact Qb (hQ _ (by assumption)) (pn (by omega))
  ·exact key (by omega) N (oF _) hQ
 refine rX N _ _ Q fun _ _=>?_
 repeat' first|with_reducible intro _|simp only[Y1,Y2,Y3,Y4]|with_reducible refine X ?_ ?_|refine⟨_,_,_,rfl,?_⟩|refine⟨_,rfl,?_⟩|refine And.intro (by first|omega|trivial|(show _=_;rfl)|(with_reducible constructor)<;>first|omega|trivial|rfl) ?_|refine hf _ _ ?_|fail
 ·exact Qb (hQ _ (by omega)) (by simp [*])
 ·exact Qb (hQ _ (by omega)) (by simp [*])
theorem u7 (s:ByteArray):zCJ 236 [.str s] (zEl s):=fun N Q hQ=>by
 refine zAB N s Q ?_
 repeat' first|with_reducible intro _|simp only[Y1,Y2,Y3,Y4]|with_reducible refine X ?_ ?_|refine⟨_,_,_,rfl,?_⟩|refine⟨_,rfl,?_⟩|refine And.intro (by first|omega|trivial|(show _=_;rfl)|(with_reducible constructor)<;>first|omega|trivial|rfl) ?_|fail
 all_goals (refine Qi (hQ _ (by assumption)) ?_;unfold zEl;(repeat' split)<;>first | rfl | contradiction)
def arI (k:Int) (nm:ByteArray):Int:=
 if k=4 then zEl nm else if k=5 then 3 else if k=7\/k=8 then 2 else if k=6\/k=9\/k=10\/k=11\/k=12\/k=13 then 1 else 0
theorem zCd {k n:Int} {nm ot:ByteArray} {t0 t1 r0 r1 x:D}:zCJ 178 [.dg 9 (.ag [.lit (.int .i64 k),.lit (.string nm),.lit (.string ot),.lit (.int .i64 n),t0,t1,r0,r1,x])] (arI k nm):=fun N Q hQ=>by
 refine zCv N _ Q fun _=>?_
 repeat' first|with_reducible intro _|simp only[Y1,Y2,Y3,Y4]|with_reducible refine X ?_ ?_|refine⟨_,_,_,rfl,?_⟩|refine⟨_,rfl,?_⟩|refine And.intro (by first|omega|trivial|(show _=_;rfl)|(with_reducible constructor)<;>first|omega|trivial|rfl) ?_|refine (u7 _) _ _ ?_|fail
 all_goals (refine Qi (hQ _ (by omega)) ?_;simp [arI, *])
theorem qf (n:Int):tW 238 [.int .i64 n] (inB n 0 10006):=fun N Q hQ=>by
 refine qN N n Q ?_
 repeat' first|with_reducible intro _|simp only[Y1,Y2,Y3,Y4]|with_reducible refine X ?_ ?_|refine⟨_,_,_,rfl,?_⟩|refine⟨_,rfl,?_⟩|refine And.intro (by first|omega|trivial|(show _=_;rfl)|(with_reducible constructor)<;>first|omega|trivial|rfl) ?_|refine (xA _ _ _) _ _ ?_|fail
 exact hQ _ (by omega)
def zA1 (k:Int) (nm ot:ByteArray) (n:Int) (ty re:Ty):Bool:=
 if k=1\/k=8 then vf nm else if k=2 then inB n 0 10006 else if k=3 then inB n 0 1 else if k=4 then decide (zEl nm>0)
 else if k=6 then vf nm&&ty.valid else if k=9 then vf nm&&(vf ot&&(!decide (nm=ot)&&(ty.valid&&re.valid))) else inB k 1 13
theorem zAN {k n:Int} {nm ot:ByteArray} {ty re:Ty} {t0 t1 r0 r1 x:D} (h:Tm.Hd nm ot ty re t0 t1 r0 r1) (hc:ty.cnt<=1073741824) (hc2:re.cnt<=1073741824) :
  tW 179 [.dg 9 (.ag [.lit (.int .i64 k),.lit (.string nm),.lit (.string ot),.lit (.int .i64 n),t0,t1,r0,r1,x])] (zA1 k nm ot n ty re):=fun N Q hQ=>by
 refine zAF N _ Q fun _=>?_
 repeat' first|with_reducible intro _|simp only[Y1,Y2,Y3,Y4]|with_reducible refine X ?_ ?_|refine⟨_,_,_,rfl,?_⟩|refine⟨_,rfl,?_⟩|refine And.intro (by first|omega|trivial|(show _=_;rfl)|(with_reducible constructor)<;>first|omega|trivial|rfl) ?_|refine (u7 _) _ _ ?_|refine (th _ h.nm) _ _ ?_|refine (th _ h.ot) _ _ ?_|refine (qf _) _ _ ?_|refine (xA _ _ _) _ _ ?_|refine (xG _ _ h.ty hc) _ _ ?_|refine (xG _ _ h.re hc2) _ _ ?_|fail
 all_goals (refine Qb (hQ _ (by omega)) ?_;simp [zA1, *])
theorem zCX (t:Ty):zE2 t t=true:=(zB7 t t).2 rfl
def zFS (k:Int) (nm ot:ByteArray) (n:Int) (ty re:Ty) (m:Int):Bool:=
 decide (m=arI k nm)&&(zA1 k nm ot n ty re&&((decide (k=1\/k=8\/k=4\/k=6\/k=9)||decide (nm=bytes []))&&((decide (k=9)||decide (ot=bytes []))&&((decide (k=2\/k=3)||decide (n=0)) &&
  ((decide (k=6\/k=9)||zE2 ty tZero)&&(decide (k=9)||zE2 re tZero))))))
theorem zAM {k n:Int} {nm ot:ByteArray} {ty re:Ty} {t0 t1 r0 r1:D} {a:Option Addr} {es:List D} {c:Nat} (h:Tm.Hd nm ot ty re t0 t1 r0 r1) (hc:ty.cnt<=1073741824) (hc2:re.cnt<=1073741824) :
  tW 112 [.dg 9 (.ag [.lit (.int .i64 k),.lit (.string nm),.lit (.string ot),.lit (.int .i64 n),t0,t1,r0,r1,.sl a 9 es c])] (zFS k nm ot n ty re es.length):=fun N Q hQ=>by
 refine zCD N _ Q fun _=>?_
 repeat' first|with_reducible intro _|simp only[Y1,Y2,Y3,Y4]|with_reducible refine X ?_ ?_|refine⟨_,_,_,rfl,?_⟩|refine⟨_,rfl,?_⟩|refine And.intro (by first|omega|trivial|(show _=_;rfl)|(with_reducible constructor)<;>first|omega|trivial|rfl) ?_|refine zCd _ _ ?_|refine (zAN h hc hc2) _ _ ?_|refine (yn ty tZero _ _ h.ty zF9) _ _ ?_|refine (yn re tZero _ _ h.re zF9) _ _ ?_|refine (yn ty ty _ _ h.ty h.ty) _ _ ?_|refine (yn re re _ _ h.re h.re) _ _ ?_|fail
 all_goals first | (exfalso;omega) | (refine Qb (hQ _ (by omega)) ?_;simp [zFS,zCX, *];done) | (refine Qb (hQ _ (by omega)) ?_;simp_all [zFS,zCX];done)
theorem zJ0 (t:Ty):zE2 t tZero=t.zero:=by
 cases t with
 | mk k l => cases l<;>simp [zE2,tZero,wo,Ty.zero,Ty.k,Ty.as]
             try omega
theorem zFT {t:Ty} (h:t.zero=true):t.valid=false:=by
 cases t with
 | mk k l=>
   simp only [Ty.zero,Ty.k,Ty.as,oL,mJ] at h
   simp [Ty.valid,Ty.form,p7,h.1]
theorem zLx (n:Int):inB n 0 0=decide (n=0):=by
 rw [mG,tJ,mN];omega
theorem zp (t:Ty) (b:Bool):(!t.valid&&(t.zero&&b))=(t.zero&&b):=by
 cases h:t.zero with
 | false=>simp
 | true=>rw [zFT h];simp
theorem zIk (k:Int) (nm ot:ByteArray) (n:Int) (ty re:Ty) (m:Int) (hm:0<=m):zFS k nm ot n ty re m=(yC k nm ot n ty re&&m==zCH k nm):=by
 by_cases hk:k=1\/k=2\/k=3\/k=4\/k=5\/k=6\/k=7\/k=8\/k=9\/k=10\/k=11\/k=12\/k=13
 ·rw [zLB m]
  have b5:inB 5 1 13=true:=rfl
  have b7:inB 7 1 13=true:=rfl
  have b10:inB 10 1 13=true:=rfl
  have b11:inB 11 1 13=true:=rfl
  have b12:inB 12 1 13=true:=rfl
  have b13:inB 13 1 13=true:=rfl
  rcases hk with rfl | rfl | rfl | rfl | rfl | rfl | rfl | rfl | rfl | rfl | rfl | rfl | rfl
  all_goals
   simp [zFS,arI,zA1,yC,qI,tT,zCH,zJ0,zLx,zp,b5,b7,b10,b11,b12,b13]
   try (rw [mG];simp [and_comm,and_left_comm,and_assoc])
 ·have h1:zCH k nm = -1:=by
   unfold zCH;rw [if_neg (by omega),if_neg (by omega),if_neg (by omega),if_neg (by omega),if_neg (by omega)]
  have h2:inB k 1 13=false:=by
   cases h:inB k 1 13 with
   | false=>rfl
   | true=>have:=tJ.1 h;omega
  have h3:zA1 k nm ot n ty re=false:=by
   unfold zA1;rw [if_neg (by omega),if_neg (by omega),if_neg (by omega),if_neg (by omega),if_neg (by omega),if_neg (by omega),h2]
  have h4:(m==zCH k nm)=false:=by rw [h1,zLB];exact decide_eq_false (by omega)
  rw [h4,zFS,h3]
  simp
theorem zIZ {k n:Int} {nm ot:ByteArray} {ty re:Ty} {t0 t1 r0 r1:D} {a:Option Addr} {es:List D} {c:Nat} (h:Tm.Hd nm ot ty re t0 t1 r0 r1) (hc:ty.cnt<=1073741824) (hc2:re.cnt<=1073741824) :
  tW 112 [.dg 9 (.ag [.lit (.int .i64 k),.lit (.string nm),.lit (.string ot),.lit (.int .i64 n),t0,t1,r0,r1,.sl a 9 es c])] (yC k nm ot n ty re&&(es.length:Int)==zCH k nm):=by
 rw [<-zIk _ _ _ _ _ _ _ (by omega)]
 exact zAM h hc hc2
theorem zCi:∀ l:List Tm,sn l=!(l.any fun x=>!x.ok)
 | []=>rfl
 | t::ts=>by simp only [sn,List.any_cons,zCi ts];cases t.ok<;>simp
theorem ql {p:Tm->Bool} {l:List Tm} {es:List D} (h:All2 Tm.Is l es) (hlen:es.length<=4611686018427387904) (ad:Addr) (hp:∀ x∈l,∀ d,x.Is d->tW 177 [.dg 9 d,.pd ad 0 (.fn 112 [])] (p x)) (a:Option Addr) (c:Nat) :
  tW 176 [.sv a 9 es c,.fn 177 [.pd ad 0 (.fn 112 [])]] (l.any p):=fun N Q hQ=>by
 have hi:zCJ 235 [.sv a 9 es c,.fn 177 [.pd ad 0 (.fn 112 [])]] (r8 p l 0):=fun N Q hQ=>by
  refine wU N a es c ad Q fun _=>?_
  refine up h hlen (fun i xs=>∀ (N':Nat),N<=N'->(∀ N'',N'<=N''->Q (r8 p xs i) N'')->zX Q N a es c ad es.length i N') ?_ ?_ N (oF _) hQ
  ·intro i hlt _ N' hN' hQ'
   refine yd _ _ _ _ _ _ _ _ _ ?_
   repeat' first|with_reducible intro _|simp only[hlt,Y1,Y2,Y3,Y4]|with_reducible refine X ?_ ?_|refine⟨_,_,_,rfl,?_⟩|refine⟨_,rfl,?_⟩|refine And.intro (by first|omega|trivial|(show _=_;rfl)|(with_reducible constructor)<;>first|omega|trivial|rfl) ?_|fail
   exact hQ' _ (by omega)
  ·intro i x xs hat _ ih2 N' hN' hQ'
   have hb:=hat.b
   simp only [r8] at hQ'
   refine yd _ _ _ _ _ _ _ _ _ ?_
   repeat' first|with_reducible intro _|simp only[hat.lt,hat.w,oJ,Y1,Y2,Y3,Y4]|with_reducible refine X ?_ ?_|refine⟨_,_,_,rfl,?_⟩|refine⟨_,rfl,?_⟩|refine And.intro (by first|omega|trivial|(show _=_;rfl)|(with_reducible constructor)<;>first|omega|trivial|rfl) ?_|refine (hp x hat.m _ hat.r) _ _ ?_|fail
   ·exact Qi (hQ' _ (by omega)) (by rw [if_pos (by assumption)])
   ·rename_i h;exact ih2 _ (by omega) fun N'' h2=>Qi (hQ' _ (by omega)) (by rw [h];simp)
 refine xn N a es c ad Q fun _=>?_
 repeat' first|with_reducible intro _|simp only[Y1,Y2,Y3,Y4]|with_reducible refine X ?_ ?_|refine⟨_,_,_,rfl,?_⟩|refine⟨_,rfl,?_⟩|refine And.intro (by first|omega|trivial|(show _=_;rfl)|(with_reducible constructor)<;>first|omega|trivial|rfl) ?_|refine hi _ _ ?_|fail
 exact Qb (hQ _ (by omega)) (sC _ l 0 (by omega)).symm
theorem zFR:∀ (t:Tm) (d:D),t.Is d->t.cnt<=1073741824->tW 111 [.dg 9 d,.fn 112 []] t.ok:=by
 refine Tm.ind fun k nm ot n ty re l ih d hd hc N Q hQ=>?_
 obtain ⟨t0,t1,r0,r1,a,es,c,rfl,hh,hlen,hes⟩:=Tm.is_mk.1 hd
 have hl:=hes.len
 simp only [Tm.cnt] at hc
 refine sJ N _ Q fun _=>?_
 simp only [Tm.ok,zCi,<-hl] at hQ
 repeat' first|with_reducible intro _|simp only[Y1,Y2,Y3,Y4]|with_reducible refine X ?_ ?_|refine⟨_,_,_,rfl,?_⟩|refine⟨_,rfl,?_⟩|refine And.intro (by first|omega|trivial|(show _=_;rfl)|(with_reducible constructor)<;>first|omega|trivial|rfl) ?_|refine (zIZ hh (by omega) (by omega)) _ _ ?_|refine (ql hes hlen _ (fun x hx d hd=>fun N Q hQ=>ux N d _ Q fun _ N1 hN1=>ih x hx d hd (by have:=vH hx;omega) N1 _ fun N2 hN2 hle N3 hN3=>hQ N3 (by omega)) _ _) _ _ ?_|fail
 ·have h:(yC k nm ot n ty re&&(es.length:Int)==zCH k nm)=true:=by assumption
  exact Qb (hQ _ (by omega)) (by rw [h,Bool.and_true])
 ·have h:(yC k nm ot n ty re&&(es.length:Int)==zCH k nm)=false:=by assumption
  exact Qb (hQ _ (by omega)) (by rw [h,Bool.and_false])
theorem zBW (t:Tm) (d:D) (hd:t.Is d) (hc:t.cnt<=1073741824):tW 50 [.dg 9 d] t.ok:=fun N Q hQ=>by
 refine zBP N _ Q fun _=>?_
 repeat' first|with_reducible intro _|simp only[Y1,Y2,Y3,Y4]|with_reducible refine X ?_ ?_|refine⟨_,_,_,rfl,?_⟩|refine⟨_,rfl,?_⟩|refine And.intro (by first|omega|trivial|(show _=_;rfl)|(with_reducible constructor)<;>first|omega|trivial|rfl) ?_|refine (zFR t d hd hc) _ _ ?_|fail
 exact hQ _ (by omega)
theorem zKE:∀ (t:Ty) (d:D),t.Is d->t.cnt<=1073741824->zLg 226 [.dg 2 d] t:=by
 refine Ty.ind fun k l ih d hd hc N Q hQ=>?_
 obtain ⟨a,es,c,rfl,hlen,hes⟩:=Ty.is_mk.1 hd
 have hl:=hes.len
 simp only [Ty.cnt] at hc
 have hlc:=vG l
 refine pM N _ Q fun _=>⟨_,rfl,_,_,_,rfl,?_⟩
 have key:=up hes hlen (fun i xs=>∀ (N':Nat),N<=N'->(i=0->xX Q N a es c es.length i 0 none [] 0 k none [] 0 N')/\∀ (m q:Nat) (r:List D),m=r.length->All2 Ty.Is (l.take i) r->OwnL N N' r ->
  zr Q N a es c es.length i 0 none [] 0 k m q r q N') ?_ ?_
 ·exact (key N (oF _)).1 rfl
 ·intro i hlt hi N' hN'
  refine ⟨fun h0=>vD _ _ _ _ _ _ _ _ _ _ _ _ _ _ _ _ ?_,fun m q r hm hr ho=>xt _ _ _ _ _ _ _ _ _ _ _ _ _ _ _ _ _ ?_⟩
  ·repeat' first|with_reducible intro _|simp only[hlt,Y1,Y2,Y3,Y4]|with_reducible refine X ?_ ?_|refine⟨_,_,_,rfl,?_⟩|refine⟨_,rfl,?_⟩|refine And.intro (by first|omega|trivial|(show _=_;rfl)|(with_reducible constructor)<;>first|omega|trivial|rfl) ?_|fail
   have:l=[]:=oX (by omega)
   subst this
   exact hQ _ _ (by omega) (zGi _) zHC
  ·repeat' first|with_reducible intro _|simp only[hlt,Y1,Y2,Y3,Y4]|with_reducible refine X ?_ ?_|refine⟨_,_,_,rfl,?_⟩|refine⟨_,rfl,?_⟩|refine And.intro (by first|omega|trivial|(show _=_;rfl)|(with_reducible constructor)<;>first|omega|trivial|rfl) ?_|fail
   rename_i a' N3 hN3 hf N4 hN4
   rw [nH (by omega)] at hr
   exact hQ _ _ (by omega) (Ty.is_mk.2 ⟨_,_,_,rfl,by have:=hr.len;omega,hr⟩) (zE3 (vL (xe ((zDC ho hf (by omega)).mono (oF _) hN4))))
 ·intro i x xs hat _ ih2 N' hN'
  have hb:=hat.b
  have hxc:=xY hat.m
  refine ⟨fun h0=>vD _ _ _ _ _ _ _ _ _ _ _ _ _ _ _ _ ?_,fun m q r hm hr ho=>xt _ _ _ _ _ _ _ _ _ _ _ _ _ _ _ _ _ ?_⟩
  ·repeat' first|with_reducible intro _|simp only[hat.lt,hat.w,oJ,Y1,Y2,Y3,Y4]|with_reducible refine X ?_ ?_|refine⟨_,_,_,rfl,?_⟩|refine⟨_,rfl,?_⟩|refine And.intro (by first|omega|trivial|(show _=_;rfl)|(with_reducible constructor)<;>first|omega|trivial|rfl) ?_|refine (ih x hat.m _ hat.r (by omega)) _ _ ?_|fail
   rename_i N2 hN2 d' N3 hN3 hx hox hle hbel
   subst h0
   exact ⟨by unfold zC;simp,fun c2=>(ih2 _ (by omega)).2 _ _ _ rfl (by rw [vq hat.g];exact ⟨_,_,rfl,hx,rfl⟩) (xe (hox.mono (by omega) (oF _)))⟩
  ·repeat' first|with_reducible intro _|simp only[hat.lt,hat.w,oJ,Y1,Y2,Y3,Y4]|with_reducible refine X ?_ ?_|refine⟨_,_,_,rfl,?_⟩|refine⟨_,rfl,?_⟩|refine And.intro (by first|omega|trivial|(show _=_;rfl)|(with_reducible constructor)<;>first|omega|trivial|rfl) ?_|refine (ih x hat.m _ hat.r (by omega)) _ _ ?_|fail
   rename_i N2 hN2 d' N3 hN3 hx hox hle hbel
   have hrl:=hr.len
   have hli:(l.take i).length=i:=by rw [nB];omega
   refine ⟨by unfold zC;simp only [oH,me];omega,fun c2=>?_⟩
   exact (ih2 _ (by omega)).2 _ _ _ rfl (by rw [vq hat.g];exact hr.snoc hx) (y3 (ho.mono (oF _) hN2) (xe hox) (by omega) hN3)
theorem zKX {f:FuncId} {rs:List Sh} {args:List PV} {N z c:Nat} {Q:QT rs} {es:List D} (hc:yo prog f=true) (hm:PV.sv none z es c∈args) (hne:es≠[]):ACalls prog f rs args N Q:=
 ⟨hc,fun av w0 _ _ hok=>by
  have h:=(hok _ hm).1.1
  cases h
  exact absurd rfl hne⟩
theorem qF {a:Option Addr} {z c:Nat} {es:List D}:∀ x∈(D.sl a z es c).foot,x∈zM es\/∃ ad,a=some ad/\x=ad.block:=by
 intro x hx
 cases a with
 | none=>simp only [D.foot] at hx;exact .inl hx
 | some ad=>
   simp only [D.foot] at hx
   split at hx
   ·simp at hx
   ·rcases oI.1 hx with rfl | hx
    ·exact .inr ⟨ad,rfl,rfl⟩
    ·exact .inl hx
theorem zJa {bs:List (Option Addr)} {N N':Nat} {d:D} (hb:rx N bs) (ho:Own N N' d):Off bs d:=fun a ha ad had hm=>by
 have:=hb a ha ad had
 have:=ho.lo _ hm
 omega
mutual
def Tm.sz:Tm->Nat
 | .mk _ _ _ _ _ _ l=>1+ut l
def ut:List Tm->Nat
 | []=>0
 | t::ts=>t.sz+ut ts
end
mutual
def Tm.dp:Tm->Nat
 | .mk _ _ _ _ _ _ l=>zKC l+1
def zKC:List Tm->Nat
 | []=>0
 | t::ts=>max t.dp (zKC ts)
end
mutual
theorem Tm.sz_cnt:∀ t:Tm,t.sz<=t.cnt
 | .mk _ _ _ _ ty re l=>by simp only [Tm.sz,Tm.cnt];have:=zCT l;omega
theorem zCT:∀ l:List Tm,ut l<=z8 l
 | []=>oF _
 | t::ts=>by simp only [ut,z8];have:=t.sz_cnt;have:=zCT ts;omega
end
/-- one form of a body's nodes -/
def zK5 (k:Int):Bool:=inB k 1 5||k==8
mutual
def Tm.isB:Tm->Bool
 | .mk k _ _ _ _ _ l=>zLp l&&zK5 k
def zLp:List Tm->Bool
 | []=>true
 | t::ts=>t.isB&&zLp ts
end
def Tm.vd (t:Tm):Bool:=decide (t.sz<=80)&&decide (t.dp<=20)&&t.ok
theorem wn (l:List ByteArray) (hl:l.length<=4611686018427387904) (a:Option Addr) (c:Nat) (s:ByteArray):zCJ 234 [.sv a 0 (zA l) c,.str s] (r8 (fun x=>decide (x=s)) l 0):=fun N Q hQ=>by
 have hes:=yF l
 have hlen:(zA l).length<=4611686018427387904:=by rw [hes.len];exact hl
 refine zAQ N a _ c s Q fun _=>?_
 refine up hes hlen (fun i xs=>∀ (N':Nat),N<=N'->(∀ N'',N'<=N''->Q (r8 (fun x=>decide (x=s)) xs i) N'')->yr Q N a (zA l) c s i N') ?_ ?_ N (oF _) hQ
 ·intro i hlt _ N' hN' hQ'
  refine vR _ _ _ _ _ _ _ _ ?_
  repeat' first|with_reducible intro _|simp only[hlt,Y1,Y2,Y3,Y4]|with_reducible refine X ?_ ?_|refine⟨_,_,_,rfl,?_⟩|refine⟨_,rfl,?_⟩|refine And.intro (by first|omega|trivial|(show _=_;rfl)|(with_reducible constructor)<;>first|omega|trivial|rfl) ?_|fail
  exact hQ' _ (by omega)
 ·intro i x xs hat _ ih2 N' hN' hQ'
  have hb:=hat.b
  have hr:=hat.r
  simp only [r8] at hQ'
  refine vR _ _ _ _ _ _ _ _ ?_
  repeat' first|with_reducible intro _|simp only[hat.lt,hat.w,oJ,hr,Y1,Y2,Y3,Y4]|with_reducible refine X ?_ ?_|refine⟨_,_,_,rfl,?_⟩|refine⟨_,rfl,?_⟩|refine And.intro (by first|omega|trivial|(show _=_;rfl)|(with_reducible constructor)<;>first|omega|trivial|rfl) ?_|fail
  ·rename_i h _ _;subst h;exact Qi (hQ' _ (by omega)) (by simp)
  ·rename_i h;exact ih2 _ hN' fun N'' h2=>Qi (hQ' _ h2) (by rw [if_neg (by simpa using h)];simp)
theorem yN (l:List ByteArray) (s:ByteArray):zA l++[.lit (.string s)]=zA (l++[s]):=by simp [zA]
theorem zB (l:List ByteArray):(zA l).length=l.length:=by simp [zA]
end Go.Proofs.YtmfjakahanbnlaaGreatDoor
