/- The program's functions on names and types. -/
import Derived.Test.YtkdjhkfiolhkiaaGreatVi
import Derived.Test.YtkdjhkfiolhkiaaGreatKi
set_option linter.unusedVariables false
set_option linter.unusedSimpArgs false
namespace Go.Proofs.YtkdjhkfiolhkiaaGreat
open Go Go.Proofs Go.Proofs.Tryz Go.IntWalk
theorem zq (n a b:Int):wm 115 [.int .i64 n,.int .i64 a,.int .i64 b] (inB n a b):=fun N Q hQ=>by
 refine zGX N n a b Q ?_
 repeat' first|with_reducible intro _|simp only[Y1,Y2,Y3,Y4]|with_reducible refine X ?_ ?_|refine⟨_,_,_,rfl,?_⟩|refine⟨_,rfl,?_⟩|refine And.intro (by first|omega|trivial|(show _=_;rfl)|(with_reducible constructor)<;>first|omega|trivial|rfl) ?_|fail
 all_goals simpa [inB, *] using hQ _ (by omega)
def zAM {α:Type} (p:α->Bool):List α->Int->Int
 | [],_ => -1
 | x::xs,i=>if p x then i else zAM p xs (i+1)
theorem vz {α:Type} (p:α->Bool):∀ (l:List α) (i:Int),0<=i->decide (zAM p l i≥0)=l.any p
 | [],i,h=>by simp [zAM]
 | x::xs,i,h=>by
   have ih:=vz p xs (i+1) (by omega)
   rw [mB,nq] at ih ⊢
   simp only [zAM,mN,nU]
   by_cases hp:p x=true
   ·simp only [hp,nn,true_or,iff_true];exact h
   ·simpa [hp] using ih
/-- a row of words -/
def yg (l:List ByteArray):List D:=l.map fun s=>.lit (.string s)
theorem zC1:∀ l:List ByteArray,All2 (fun s d=>d=.lit (.string s)) l (yg l)
 | []=>rfl
 | s::l=>⟨_,_,rfl,rfl,zC1 l⟩
theorem zCl (l:List ByteArray) (hl:l.length<=4611686018427387904) (a:Option Addr) (c:Nat) (s:ByteArray):tz 219 [.sv a 0 (yg l) c,.str s] (zAM (fun x=>decide (s=x)) l 0):=fun N Q hQ=>by
 have hes:=zC1 l
 have hlen:(yg l).length<=4611686018427387904:=by rw [hes.len];exact hl
 refine qP N a _ c s Q fun _=>?_
 refine up hes hlen (fun i xs=>∀ (N':Nat),N<=N'->(∀ N'',N'<=N''->Q (zAM (fun x=>decide (s=x)) xs i) N'')->yO Q N a (yg l) c s ((yg l).length:Int) i N') ?_ ?_ N (oF _) hQ
 ·intro i hlt _ N' hN' hQ'
  refine wj _ _ _ _ _ _ _ _ _ ?_
  repeat' first|with_reducible intro _|simp only[hlt,Y1,Y2,Y3,Y4]|with_reducible refine X ?_ ?_|refine⟨_,_,_,rfl,?_⟩|refine⟨_,rfl,?_⟩|refine And.intro (by first|omega|trivial|(show _=_;rfl)|(with_reducible constructor)<;>first|omega|trivial|rfl) ?_|fail
  exact hQ' _ (by omega)
 ·intro i x xs hat _ ih2 N' hN' hQ'
  have hb:=hat.b
  have hr:=hat.r
  simp only [zAM] at hQ'
  refine wj _ _ _ _ _ _ _ _ _ ?_
  repeat' first|with_reducible intro _|simp only[hat.lt,hat.w,oG,hr,Y1,Y2,Y3,Y4]|with_reducible refine X ?_ ?_|refine⟨_,_,_,rfl,?_⟩|refine⟨_,rfl,?_⟩|refine And.intro (by first|omega|trivial|(show _=_;rfl)|(with_reducible constructor)<;>first|omega|trivial|rfl) ?_|fail
  ·rename_i h _ _;subst h;exact Qi (hQ' _ (by omega)) (by simp)
  ·rename_i h;exact ih2 _ hN' fun N'' h2=>Qi (hQ' _ h2) (by rw [if_neg (by simpa using h)];simp)
theorem zDr (l:List ByteArray) (hl:l.length<=4611686018427387904) (a:Option Addr) (c:Nat) (s:ByteArray):wm 173 [.sv a 0 (yg l) c,.str s] (l.any fun x=>decide (s=x)):=fun N Q hQ=>by
 refine tw N a _ c s Q fun _=>?_
 repeat' first|with_reducible intro _|simp only[Y1,Y2,Y3,Y4]|with_reducible refine X ?_ ?_|refine⟨_,_,_,rfl,?_⟩|refine⟨_,rfl,?_⟩|refine And.intro (by first|omega|trivial|(show _=_;rfl)|(with_reducible constructor)<;>first|omega|trivial|rfl) ?_|refine (zCl l hl a c s) _ _ ?_|fail
 exact Qb (hQ _ (by omega)) (vz _ l 0 (by omega)).symm
theorem w9 (s:ByteArray) (hs:s.size<=4611686018427387904):wm 113 [.str s] (uh s):=fun N Q hQ=>by
 refine zFC N s Q ?_
 have key:=upN hs (fun i=>∀ N',N<=N'->(∀ N'',N'<=N''->Q (v9 s i&&zEd s) N'')->yc Q N s (s.size:Int) i N') ?_ ?_
 ·exact key N (oF _) hQ
 ·intro hlt N' hN' hQ'
  have hc:=zDr [bytes [105,102],bytes [108,101,116],bytes [108,105,102,116],bytes [114,101,99],bytes [114,117,110]] (by simp)
  simp only [yg,List.map] at hc
  refine t7 _ _ _ _ _ _ ?_
  repeat' first|with_reducible intro _|simp only[hlt,Y1,Y2,Y3,Y4]|with_reducible refine X ?_ ?_|refine⟨_,_,_,rfl,?_⟩|refine⟨_,rfl,?_⟩|refine And.intro (by first|omega|trivial|(show _=_;rfl)|(with_reducible constructor)<;>first|omega|trivial|rfl) ?_|refine (zq _ _ _) _ _ ?_|refine (hc _ _ _) _ _ ?_|fail
  all_goals (refine Qb (hQ' _ (by omega)) ?_;rw [zA7])
  ·simp only [zEd,mN,List.any_nil,Bool.or_false, *]
   cases decide (s=bytes [105,102])<;>cases decide (s=bytes [108,101,116])<;>cases decide (s=bytes [108,105,102,116])<;>cases decide (s=bytes [114,101,99])<;>cases decide (s=bytes [114,117,110])<;>rfl
  ·simp [zEd, *]
 ·intro i hi hlt hw ih2 N' hN' hQ'
  refine t7 _ _ _ _ _ _ ?_
  rw [qj hi] at hQ'
  repeat' first|with_reducible intro _|simp only[hlt,hw,oG,Y1,Y2,Y3,Y4]|with_reducible refine X ?_ ?_|refine⟨_,_,_,rfl,?_⟩|refine⟨_,rfl,?_⟩|refine And.intro (by first|omega|trivial|(show _=_;rfl)|(with_reducible constructor)<;>first|omega|trivial|rfl) ?_|fail
  all_goals first
   | (refine Qb (hQ' _ (by omega)) ?_;unfold zEY zA1;simp only [*];simp;done)
   | (refine ih2 _ (by omega) fun N'' h=>Qb (hQ' N'' (by omega)) ?_;unfold zEY zA1;simp only [*];simp;done)
theorem zAz:∀ (t:Ty) (d:D),t.Is d->t.cnt<=1073741824->tz 174 [.dg 2 d] t.cnt:=by
 refine Ty.ind fun k l ih d hd hc N Q hQ=>?_
 obtain ⟨a,es,c,rfl,hlen,hes⟩:=Ty.is_mk.1 hd
 simp only [Ty.cnt] at hc
 refine zAQ N _ Q fun _=>⟨_,_,_,rfl,?_⟩
 refine up hes hlen (fun i xs=>∀ (m:Nat) (N':Nat),N<=N'->m+zO xs=1+zO l->yq Q N m a es c es.length i N') ?_ ?_ 1 N (oF _) rfl
 ·intro i hlt _ m N' hN' hm
  refine vW _ _ _ _ _ _ _ _ _ ?_
  simp only [zO] at hm
  repeat' first|with_reducible intro _|simp only[hlt,Y1,Y2,Y3,Y4]|with_reducible refine X ?_ ?_|refine⟨_,_,_,rfl,?_⟩|refine⟨_,rfl,?_⟩|refine And.intro (by first|omega|trivial|(show _=_;rfl)|(with_reducible constructor)<;>first|omega|trivial|rfl) ?_|fail
  exact Qi (hQ _ (by omega)) (by simp only [Ty.cnt];omega)
 ·intro i x xs hat _ ih2 m N' hN' hm
  have hb:=hat.b
  have hxc:=xk hat.m
  simp only [zO] at hm
  refine vW _ _ _ _ _ _ _ _ _ ?_
  repeat' first|with_reducible intro _|simp only[hat.lt,hat.w,oG,Y1,Y2,Y3,Y4]|with_reducible refine X ?_ ?_|refine⟨_,_,_,rfl,?_⟩|refine⟨_,rfl,?_⟩|refine And.intro (by first|omega|trivial|(show _=_;rfl)|(with_reducible constructor)<;>first|omega|trivial|rfl) ?_|refine (ih x hat.m _ hat.r (by omega)) _ _ ?_|fail
  rw [i64_in _ (by omega)]
  exact ih2 (m+x.cnt) _ (by omega) (by omega)
theorem qx:∀ (t:Ty) (d:D),t.Is d->t.cnt<=1073741824->tz 175 [.dg 2 d] t.dep:=by
 refine Ty.ind fun k l ih d hd hc N Q hQ=>?_
 obtain ⟨a,es,c,rfl,hlen,hes⟩:=Ty.is_mk.1 hd
 simp only [Ty.cnt] at hc
 have hdl:=rF l
 refine pV N _ Q fun _=>⟨_,_,_,rfl,?_⟩
 refine up hes hlen (fun i xs=>∀ (m:Nat) (N':Nat),N<=N'->max m (uo xs)=uo l->yX Q N m a es c es.length i N') ?_ ?_ 0 N (oF _) (by omega)
 ·intro i hlt _ m N' hN' hm
  refine wx _ _ _ _ _ _ _ _ _ ?_
  simp only [uo] at hm
  repeat' first|with_reducible intro _|simp only[hlt,Y1,Y2,Y3,Y4]|with_reducible refine X ?_ ?_|refine⟨_,_,_,rfl,?_⟩|refine⟨_,rfl,?_⟩|refine And.intro (by first|omega|trivial|(show _=_;rfl)|(with_reducible constructor)<;>first|omega|trivial|rfl) ?_|fail
  rw [i64_in _ (by omega)]
  exact Qi (hQ _ (by omega)) (by simp only [Ty.dep];omega)
 ·intro i x xs hat _ ih2 m N' hN' hm
  have hb:=hat.b
  have hxc:=xk hat.m
  simp only [uo] at hm
  refine wx _ _ _ _ _ _ _ _ _ ?_
  repeat' first|with_reducible intro _|simp only[hat.lt,hat.w,oG,Y1,Y2,Y3,Y4]|with_reducible refine X ?_ ?_|refine⟨_,_,_,rfl,?_⟩|refine⟨_,rfl,?_⟩|refine And.intro (by first|omega|trivial|(show _=_;rfl)|(with_reducible constructor)<;>first|omega|trivial|rfl) ?_|refine (ih x hat.m _ hat.r (by omega)) _ _ ?_|fail
  have e:(if (x.dep:Int)>(m:Int) then (x.dep:Int) else (m:Int))=((max m x.dep:Nat):Int):=by split<;>omega
  rw [e]
  exact ih2 _ _ (by omega) (by omega)
theorem zB4 (t:Ty) (d:D) (hd:t.Is d):wm 177 [.dg 2 d] (rV t.k t.as.length):=fun N Q hQ=>by
 cases t with
 | mk k l=>
 obtain ⟨a,es,c,rfl,hlen,hes⟩:=Ty.is_mk.1 hd
 have hl:=hes.len
 simp only [Ty.k,Ty.as] at hQ
 refine rO N _ Q fun _=>?_
 cases hin:inB k 1 4 with
 | false=>
   repeat' first|with_reducible intro _|simp only[hin,Y1,Y2,Y3,Y4]|with_reducible refine X ?_ ?_|refine⟨_,_,_,rfl,?_⟩|refine⟨_,rfl,?_⟩|refine And.intro (by first|omega|trivial|(show _=_;rfl)|(with_reducible constructor)<;>first|omega|trivial|rfl) ?_|refine (zq _ _ _) _ _ ?_|fail
   refine Qb (hQ _ (by omega)) ?_
   have:¬(1<=k/\k<=4):=fun h=>by rw [yG.2 h] at hin;cases hin
   unfold rV
   rw [if_neg (by omega),if_neg (by omega),if_neg (by omega)]
 | true=>
   have hb:=yG.1 hin
   have w0:IntKind.i64.wrap 0=0:=rfl
   have w1:IntKind.i64.wrap 1=1:=rfl
   have w2:IntKind.i64.wrap 2=2:=rfl
   have w3:IntKind.i64.wrap 3=3:=rfl
   have hk:k=1\/k=2\/k=3\/k=4:=by omega
   rcases hk with rfl | rfl | rfl | rfl
   all_goals
    repeat' first|with_reducible intro _|simp only[hin,w0,w1,w2,w3,Y1,Y2,Y3,Y4]|with_reducible refine X ?_ ?_|refine⟨_,_,_,rfl,?_⟩|refine⟨_,rfl,?_⟩|refine And.intro (by first|omega|trivial|(show _=_;rfl)|(with_reducible constructor)<;>first|omega|trivial|rfl) ?_|refine (zq _ _ _) _ _ ?_|fail
    refine Qb (hQ _ (by omega)) ?_
    simp [rV,hl]
theorem zCI:∀ l:List Ty,uJ l=!(l.any fun x=>!x.form)
 | []=>rfl
 | t::ts=>by simp only [uJ,mN,zCI ts];cases t.form<;>simp
theorem zCG {p:Ty->Bool} {l:List Ty} {es:List D} (h:All2 Ty.Is l es) (hlen:es.length<=4611686018427387904) (ad:Addr) (hp:∀ x∈l,∀ d,x.Is d->wm 221 [.dg 2 d,.pd ad 0 (.fn 177 [])] (p x)) (a:Option Addr) (c:Nat) :
  wm 220 [.sv a 2 es c,.fn 221 [.pd ad 0 (.fn 177 [])]] (l.any p):=fun N Q hQ=>by
 have hi:tz 247 [.sv a 2 es c,.fn 221 [.pd ad 0 (.fn 177 [])]] (zAM p l 0):=fun N Q hQ=>by
  refine vk N a es c ad Q fun _=>?_
  refine up h hlen (fun i xs=>∀ (N':Nat),N<=N'->(∀ N'',N'<=N''->Q (zAM p xs i) N'')->zt Q N a es c ad es.length i N') ?_ ?_ N (oF _) hQ
  ·intro i hlt _ N' hN' hQ'
   refine xX _ _ _ _ _ _ _ _ _ ?_
   repeat' first|with_reducible intro _|simp only[hlt,Y1,Y2,Y3,Y4]|with_reducible refine X ?_ ?_|refine⟨_,_,_,rfl,?_⟩|refine⟨_,rfl,?_⟩|refine And.intro (by first|omega|trivial|(show _=_;rfl)|(with_reducible constructor)<;>first|omega|trivial|rfl) ?_|fail
   exact hQ' _ (by omega)
  ·intro i x xs hat _ ih2 N' hN' hQ'
   have hb:=hat.b
   simp only [zAM] at hQ'
   refine xX _ _ _ _ _ _ _ _ _ ?_
   repeat' first|with_reducible intro _|simp only[hat.lt,hat.w,oG,Y1,Y2,Y3,Y4]|with_reducible refine X ?_ ?_|refine⟨_,_,_,rfl,?_⟩|refine⟨_,rfl,?_⟩|refine And.intro (by first|omega|trivial|(show _=_;rfl)|(with_reducible constructor)<;>first|omega|trivial|rfl) ?_|refine (hp x hat.m _ hat.r) _ _ ?_|fail
   ·exact Qi (hQ' _ (by omega)) (by rw [if_pos (by assumption)])
   ·rename_i h;exact ih2 _ (by omega) fun N'' h2=>Qi (hQ' _ (by omega)) (by rw [h];simp)
 refine wq N a es c ad Q fun _=>?_
 repeat' first|with_reducible intro _|simp only[Y1,Y2,Y3,Y4]|with_reducible refine X ?_ ?_|refine⟨_,_,_,rfl,?_⟩|refine⟨_,rfl,?_⟩|refine And.intro (by first|omega|trivial|(show _=_;rfl)|(with_reducible constructor)<;>first|omega|trivial|rfl) ?_|refine hi _ _ ?_|fail
 exact Qb (hQ _ (by omega)) (vz _ l 0 (by omega)).symm
theorem zJ5:∀ (t:Ty) (d:D),t.Is d->wm 176 [.dg 2 d,.fn 177 []] t.form:=by
 refine Ty.ind fun k l ih d hd N Q hQ=>?_
 have hd':=hd
 obtain ⟨a,es,c,rfl,hlen,hes⟩:=Ty.is_mk.1 hd
 refine qf N _ Q fun _=>?_
 simp only [Ty.form,zCI] at hQ
 repeat' first|with_reducible intro _|simp only[Y1,Y2,Y3,Y4]|with_reducible refine X ?_ ?_|refine⟨_,_,_,rfl,?_⟩|refine⟨_,rfl,?_⟩|refine And.intro (by first|omega|trivial|(show _=_;rfl)|(with_reducible constructor)<;>first|omega|trivial|rfl) ?_|refine (zB4 _ _ hd') _ _ ?_|refine (zCG hes hlen _ (fun x hx d hd=>fun N Q hQ=>rR N d _ Q fun _ N1 hN1=>ih x hx d hd N1 _ fun N2 hN2 hle N3 hN3=>hQ N3 (by omega)) _ _) _ _ ?_|fail
 ·have h:rV (Ty.mk k l).k (Ty.mk k l).as.length=true:=by assumption
  exact Qb (hQ _ (by omega)) (by simp only [Ty.k,Ty.as] at h;rw [h,Bool.and_true])
 ·rename_i h _ _
  exact Qb (hQ _ (by omega)) (by simp only [Ty.k,Ty.as] at h;rw [h,mo])
theorem y5 (t:Ty) (d:D) (hd:t.Is d) (hc:t.cnt<=1073741824):wm 114 [.dg 2 d] t.valid:=fun N Q hQ=>by
 refine zAB N _ Q fun _=>?_
 repeat' first|with_reducible intro _|simp only[Y1,Y2,Y3,Y4]|with_reducible refine X ?_ ?_|refine⟨_,_,_,rfl,?_⟩|refine⟨_,rfl,?_⟩|refine And.intro (by first|omega|trivial|(show _=_;rfl)|(with_reducible constructor)<;>first|omega|trivial|rfl) ?_|refine (zAz t d hd hc) _ _ ?_|refine (qx t d hd hc) _ _ ?_|refine (zJ5 t d hd) _ _ ?_|fail
 ·refine Qb (hQ _ (by omega)) ?_
  have h1:t.cnt<=30:=by omega
  have h2:t.dep<=8:=by omega
  simp [Ty.valid, *]
 ·refine Qb (hQ _ (by omega)) ?_
  have h2:¬t.dep<=8:=by omega
  simp [Ty.valid, *]
 ·refine Qb (hQ _ (by omega)) ?_
  have h1:¬t.cnt<=30:=by omega
  simp [Ty.valid, *]
theorem zU:∀ (t u:Ty) (d e:D),t.Is d->u.Is e->wm 33 [.dg 2 d,.dg 2 e] (ut t u):=by
 refine Ty.ind fun k l ih u d e hd he N Q hQ=>?_
 cases u with
 | mk k' l'=>
 obtain ⟨a,es,c,rfl,hlen,hes⟩:=Ty.is_mk.1 hd
 obtain ⟨a',es',c',rfl,hlen',hes'⟩:=Ty.is_mk.1 he
 have hl:=hes.len
 have hl':=hes'.len
 simp only [ut] at hQ
 have hf:wm 98 [.sv a 2 es c,.sv a' 2 es' c',.fn 33 []] (tJ l l'):=fun N Q hQ=>by
  have key:l.length=l'.length->∀ (N':Nat),N<=N'->(∀ N'',N'<=N''->Q (tJ l (l'.drop 0)) N'')->zT Q N a' es' c' a es c es.length (0:Nat) N':=by
   intro hll
   refine up hes hlen (fun i xs=>∀ (N':Nat),N<=N'->(∀ N'',N'<=N''->Q (tJ xs (l'.drop i)) N'')->zT Q N a' es' c' a es c es.length i N') ?_ ?_
   ·intro i hlt hi N' hN' hQ'
    refine xS _ _ _ _ _ _ _ _ _ _ _ ?_
    repeat' first|with_reducible intro _|simp only[hlt,Y1,Y2,Y3,Y4]|with_reducible refine X ?_ ?_|refine⟨_,_,_,rfl,?_⟩|refine⟨_,rfl,?_⟩|refine And.intro (by first|omega|trivial|(show _=_;rfl)|(with_reducible constructor)<;>first|omega|trivial|rfl) ?_|fail
    refine Qb (hQ' _ (by assumption)) ?_
    rw [mT (by omega)]
    rfl
   ·intro i x xs hat _ ih2 N' hN' hQ'
    have hb:=hat.b
    have hi':i<l'.length:=by omega
    have hg:l'[i]?=some l'[i]:=oD hi'
    have hd':l'.drop i=l'[i]::l'.drop (i+1):=List.drop_eq_getElem_cons hi'
    refine xS _ _ _ _ _ _ _ _ _ _ _ ?_
    rw [hd'] at hQ'
    repeat' first|with_reducible intro _|simp only[hat.lt,hat.w,oG,Y1,Y2,Y3,Y4]|with_reducible refine X ?_ ?_|refine⟨_,_,_,rfl,?_⟩|refine⟨_,rfl,?_⟩|refine And.intro (by first|omega|trivial|(show _=_;rfl)|(with_reducible constructor)<;>first|omega|trivial|rfl) ?_|refine (ih x hat.m _ _ _ hat.r (hes'.get hg)) _ _ ?_|fail
    ·exact Qb (hQ' _ (by omega)) (by simp [tJ, *])
    ·exact ih2 _ (by omega) fun N'' h=>Qb (hQ' N'' (by omega)) (by simp [tJ, *])
  refine vi N _ _ _ _ _ _ Q fun _ _=>?_
  repeat' first|with_reducible intro _|simp only[Y1,Y2,Y3,Y4]|with_reducible refine X ?_ ?_|refine⟨_,_,_,rfl,?_⟩|refine⟨_,rfl,?_⟩|refine And.intro (by first|omega|trivial|(show _=_;rfl)|(with_reducible constructor)<;>first|omega|trivial|rfl) ?_|fail
  ·exact Qb (hQ _ (by assumption)) (zCh (by omega))
  ·exact key (by omega) N (oF _) hQ
 refine zBU N _ _ Q fun _ _=>?_
 repeat' first|with_reducible intro _|simp only[Y1,Y2,Y3,Y4]|with_reducible refine X ?_ ?_|refine⟨_,_,_,rfl,?_⟩|refine⟨_,rfl,?_⟩|refine And.intro (by first|omega|trivial|(show _=_;rfl)|(with_reducible constructor)<;>first|omega|trivial|rfl) ?_|refine hf _ _ ?_|fail
 ·exact Qb (hQ _ (by omega)) (by simp [*])
 ·exact Qb (hQ _ (by omega)) (by simp [*])
theorem tG (t:Ty) (d:D) (hd:t.Is d):wm 102 [.dg 2 d] t.base:=fun N Q hQ=>by
 cases t with
 | mk k l=>
 obtain ⟨a,es,c,rfl,hlen,hes⟩:=Ty.is_mk.1 hd
 have hl:=hes.len
 have hin:inB k 1 2=(k==1||k==2):=by
  rw [mB,yG]
  simp
  omega
 refine zE4 N _ Q fun _=>?_
 repeat' first|with_reducible intro _|simp only[Y1,Y2,Y3,Y4]|with_reducible refine X ?_ ?_|refine⟨_,_,_,rfl,?_⟩|refine⟨_,rfl,?_⟩|refine And.intro (by first|omega|trivial|(show _=_;rfl)|(with_reducible constructor)<;>first|omega|trivial|rfl) ?_|refine (zq _ _ _) _ _ ?_|fail
 all_goals (rename_i h _ _;rw [hin] at h;exact Qb (hQ _ (by omega)) (by simp only [Ty.base,Ty.k,Ty.as,h,hl];simp))
theorem qA (s:ByteArray):tz 250 [.str s] (zIH s):=fun N Q hQ=>by
 refine zDl N s Q ?_
 repeat' first|with_reducible intro _|simp only[Y1,Y2,Y3,Y4]|with_reducible refine X ?_ ?_|refine⟨_,_,_,rfl,?_⟩|refine⟨_,rfl,?_⟩|refine And.intro (by first|omega|trivial|(show _=_;rfl)|(with_reducible constructor)<;>first|omega|trivial|rfl) ?_|fail
 all_goals (refine Qi (hQ _ (by assumption)) ?_;unfold zIH;(repeat' split)<;>first | rfl | contradiction)
def arI (k:Int) (nm:ByteArray):Int:=
 if k=4 then zIH nm else if k=5 then 3 else if k=7\/k=8 then 2 else if k=6\/k=9\/k=10\/k=11\/k=12\/k=13 then 1 else 0
theorem zHA {k n:Int} {nm ot:ByteArray} {t0 t1 r0 r1 x:D}:tz 227 [.dg 9 (.ag [.lit (.int .i64 k),.lit (.string nm),.lit (.string ot),.lit (.int .i64 n),t0,t1,r0,r1,x])] (arI k nm):=fun N Q hQ=>by
 refine zGo N _ Q fun _=>?_
 repeat' first|with_reducible intro _|simp only[Y1,Y2,Y3,Y4]|with_reducible refine X ?_ ?_|refine⟨_,_,_,rfl,?_⟩|refine⟨_,rfl,?_⟩|refine And.intro (by first|omega|trivial|(show _=_;rfl)|(with_reducible constructor)<;>first|omega|trivial|rfl) ?_|refine (qA _) _ _ ?_|fail
 all_goals (refine Qi (hQ _ (by omega)) ?_;simp [arI, *])
theorem wC (n:Int):wm 238 [.int .i64 n] (inB n 0 10006):=fun N Q hQ=>by
 refine zBx N n Q ?_
 repeat' first|with_reducible intro _|simp only[Y1,Y2,Y3,Y4]|with_reducible refine X ?_ ?_|refine⟨_,_,_,rfl,?_⟩|refine⟨_,rfl,?_⟩|refine And.intro (by first|omega|trivial|(show _=_;rfl)|(with_reducible constructor)<;>first|omega|trivial|rfl) ?_|refine (zq _ _ _) _ _ ?_|fail
 exact hQ _ (by omega)
def zEE (k:Int) (nm ot:ByteArray) (n:Int) (ty re:Ty):Bool:=
 if k=1\/k=8 then uh nm else if k=2 then inB n 0 10006 else if k=3 then inB n 0 1 else if k=4 then decide (zIH nm>0)
 else if k=6 then uh nm&&ty.valid else if k=9 then uh nm&&(uh ot&&(!decide (nm=ot)&&(ty.valid&&re.valid))) else inB k 1 13
theorem zDL {k n:Int} {nm ot:ByteArray} {ty re:Ty} {t0 t1 r0 r1 x:D} (h:Tm.Hd nm ot ty re t0 t1 r0 r1) (hc:ty.cnt<=1073741824) (hc2:re.cnt<=1073741824) :
  wm 228 [.dg 9 (.ag [.lit (.int .i64 k),.lit (.string nm),.lit (.string ot),.lit (.int .i64 n),t0,t1,r0,r1,x])] (zEE k nm ot n ty re):=fun N Q hQ=>by
 refine zDP N _ Q fun _=>?_
 repeat' first|with_reducible intro _|simp only[Y1,Y2,Y3,Y4]|with_reducible refine X ?_ ?_|refine⟨_,_,_,rfl,?_⟩|refine⟨_,rfl,?_⟩|refine And.intro (by first|omega|trivial|(show _=_;rfl)|(with_reducible constructor)<;>first|omega|trivial|rfl) ?_|refine (qA _) _ _ ?_|refine (w9 _ h.nm) _ _ ?_|refine (w9 _ h.ot) _ _ ?_|refine (wC _) _ _ ?_|refine (zq _ _ _) _ _ ?_|refine (y5 _ _ h.ty hc) _ _ ?_|refine (y5 _ _ h.re hc2) _ _ ?_|fail
 all_goals (refine Qb (hQ _ (by omega)) ?_;simp [zEE, *])
theorem zGu (t:Ty):ut t t=true:=(sx t t).2 rfl
def zKJ (k:Int) (nm ot:ByteArray) (n:Int) (ty re:Ty) (m:Int):Bool:=
 decide (m=arI k nm)&&(zEE k nm ot n ty re&&((decide (k=1\/k=8\/k=4\/k=6\/k=9)||decide (nm=bytes []))&&((decide (k=9)||decide (ot=bytes []))&&((decide (k=2\/k=3)||decide (n=0)) &&
  ((decide (k=6\/k=9)||ut ty tZero)&&(decide (k=9)||ut re tZero))))))
theorem zDU {k n:Int} {nm ot:ByteArray} {ty re:Ty} {t0 t1 r0 r1:D} {a:Option Addr} {es:List D} {c:Nat} (h:Tm.Hd nm ot ty re t0 t1 r0 r1) (hc:ty.cnt<=1073741824) (hc2:re.cnt<=1073741824) :
  wm 179 [.dg 9 (.ag [.lit (.int .i64 k),.lit (.string nm),.lit (.string ot),.lit (.int .i64 n),t0,t1,r0,r1,.sl a 9 es c])] (zKJ k nm ot n ty re es.length):=fun N Q hQ=>by
 refine zE3 N _ Q fun _=>?_
 repeat' first|with_reducible intro _|simp only[Y1,Y2,Y3,Y4]|with_reducible refine X ?_ ?_|refine⟨_,_,_,rfl,?_⟩|refine⟨_,rfl,?_⟩|refine And.intro (by first|omega|trivial|(show _=_;rfl)|(with_reducible constructor)<;>first|omega|trivial|rfl) ?_|refine zHA _ _ ?_|refine (zDL h hc hc2) _ _ ?_|refine (zU ty tZero _ _ h.ty yp) _ _ ?_|refine (zU re tZero _ _ h.re yp) _ _ ?_|refine (zU ty ty _ _ h.ty h.ty) _ _ ?_|refine (zU re re _ _ h.re h.re) _ _ ?_|fail
 all_goals first | (exfalso;omega) | (refine Qb (hQ _ (by omega)) ?_;simp [zKJ,zGu, *];done) | (refine Qb (hQ _ (by omega)) ?_;simp_all [zKJ,zGu];done)
theorem zOZ (t:Ty):ut t tZero=t.zero:=by
 cases t with
 | mk k l => cases l<;>simp [ut,tZero,tJ,Ty.zero,Ty.k,Ty.as]
             try omega
theorem zKo {t:Ty} (h:t.zero=true):t.valid=false:=by
 cases t with
 | mk k l=>
   simp only [Ty.zero,Ty.k,Ty.as,oI,np] at h
   simp [Ty.valid,Ty.form,rV,h.1]
theorem zQs (n:Int):inB n 0 0=decide (n=0):=by
 rw [mB,yG,nq];omega
theorem zp (t:Ty) (b:Bool):(!t.valid&&(t.zero&&b))=(t.zero&&b):=by
 cases h:t.zero with
 | false=>simp
 | true=>rw [zKo h];simp
theorem zNT (k:Int) (nm ot:ByteArray) (n:Int) (ty re:Ty) (m:Int) (hm:0<=m):zKJ k nm ot n ty re m=(yH k nm ot n ty re&&m==tq k nm):=by
 by_cases hk:k=1\/k=2\/k=3\/k=4\/k=5\/k=6\/k=7\/k=8\/k=9\/k=10\/k=11\/k=12\/k=13
 ·rw [zPx m]
  have b5:inB 5 1 13=true:=rfl
  have b7:inB 7 1 13=true:=rfl
  have b10:inB 10 1 13=true:=rfl
  have b11:inB 11 1 13=true:=rfl
  have b12:inB 12 1 13=true:=rfl
  have b13:inB 13 1 13=true:=rfl
  rcases hk with rfl | rfl | rfl | rfl | rfl | rfl | rfl | rfl | rfl | rfl | rfl | rfl | rfl
  all_goals
   simp [zKJ,arI,zEE,yH,zA2,sF,tq,zOZ,zQs,zp,b5,b7,b10,b11,b12,b13]
   try (rw [mB];simp [and_comm,and_left_comm,and_assoc])
 ·have h1:tq k nm = -1:=by
   unfold tq;rw [if_neg (by omega),if_neg (by omega),if_neg (by omega),if_neg (by omega),if_neg (by omega)]
  have h2:inB k 1 13=false:=by
   cases h:inB k 1 13 with
   | false=>rfl
   | true=>have:=yG.1 h;omega
  have h3:zEE k nm ot n ty re=false:=by
   unfold zEE;rw [if_neg (by omega),if_neg (by omega),if_neg (by omega),if_neg (by omega),if_neg (by omega),if_neg (by omega),h2]
  have h4:(m==tq k nm)=false:=by rw [h1,zPx];exact mi (by omega)
  rw [h4,zKJ,h3]
  simp
theorem zMu {k n:Int} {nm ot:ByteArray} {ty re:Ty} {t0 t1 r0 r1:D} {a:Option Addr} {es:List D} {c:Nat} (h:Tm.Hd nm ot ty re t0 t1 r0 r1) (hc:ty.cnt<=1073741824) (hc2:re.cnt<=1073741824) :
  wm 179 [.dg 9 (.ag [.lit (.int .i64 k),.lit (.string nm),.lit (.string ot),.lit (.int .i64 n),t0,t1,r0,r1,.sl a 9 es c])] (yH k nm ot n ty re&&(es.length:Int)==tq k nm):=by
 rw [<-zNT _ _ _ _ _ _ _ (by omega)]
 exact zDU h hc hc2
theorem zH1:∀ l:List Tm,zDt l=!(l.any fun x=>!x.ok)
 | []=>rfl
 | t::ts=>by simp only [zDt,mN,zH1 ts];cases t.ok<;>simp
theorem zC8 {p:Tm->Bool} {l:List Tm} {es:List D} (h:All2 Tm.Is l es) (hlen:es.length<=4611686018427387904) (ad:Addr) (hp:∀ x∈l,∀ d,x.Is d->wm 189 [.dg 9 d,.pd ad 0 (.fn 179 [])] (p x)) (a:Option Addr) (c:Nat) :
  wm 188 [.sv a 9 es c,.fn 189 [.pd ad 0 (.fn 179 [])]] (l.any p):=fun N Q hQ=>by
 have hi:tz 236 [.sv a 9 es c,.fn 189 [.pd ad 0 (.fn 179 [])]] (zAM p l 0):=fun N Q hQ=>by
  refine vn N a es c ad Q fun _=>?_
  refine up h hlen (fun i xs=>∀ (N':Nat),N<=N'->(∀ N'',N'<=N''->Q (zAM p xs i) N'')->zo Q N a es c ad es.length i N') ?_ ?_ N (oF _) hQ
  ·intro i hlt _ N' hN' hQ'
   refine xY _ _ _ _ _ _ _ _ _ ?_
   repeat' first|with_reducible intro _|simp only[hlt,Y1,Y2,Y3,Y4]|with_reducible refine X ?_ ?_|refine⟨_,_,_,rfl,?_⟩|refine⟨_,rfl,?_⟩|refine And.intro (by first|omega|trivial|(show _=_;rfl)|(with_reducible constructor)<;>first|omega|trivial|rfl) ?_|fail
   exact hQ' _ (by omega)
  ·intro i x xs hat _ ih2 N' hN' hQ'
   have hb:=hat.b
   simp only [zAM] at hQ'
   refine xY _ _ _ _ _ _ _ _ _ ?_
   repeat' first|with_reducible intro _|simp only[hat.lt,hat.w,oG,Y1,Y2,Y3,Y4]|with_reducible refine X ?_ ?_|refine⟨_,_,_,rfl,?_⟩|refine⟨_,rfl,?_⟩|refine And.intro (by first|omega|trivial|(show _=_;rfl)|(with_reducible constructor)<;>first|omega|trivial|rfl) ?_|refine (hp x hat.m _ hat.r) _ _ ?_|fail
   ·exact Qi (hQ' _ (by omega)) (by rw [if_pos (by assumption)])
   ·rename_i h;exact ih2 _ (by omega) fun N'' h2=>Qi (hQ' _ (by omega)) (by rw [h];simp)
 refine ws N a es c ad Q fun _=>?_
 repeat' first|with_reducible intro _|simp only[Y1,Y2,Y3,Y4]|with_reducible refine X ?_ ?_|refine⟨_,_,_,rfl,?_⟩|refine⟨_,rfl,?_⟩|refine And.intro (by first|omega|trivial|(show _=_;rfl)|(with_reducible constructor)<;>first|omega|trivial|rfl) ?_|refine hi _ _ ?_|fail
 exact Qb (hQ _ (by omega)) (vz _ l 0 (by omega)).symm
theorem zJ4:∀ (t:Tm) (d:D),t.Is d->t.cnt<=1073741824->wm 133 [.dg 9 d,.fn 179 []] t.ok:=by
 refine Tm.ind fun k nm ot n ty re l ih d hd hc N Q hQ=>?_
 obtain ⟨t0,t1,r0,r1,a,es,c,rfl,hh,hlen,hes⟩:=Tm.is_mk.1 hd
 have hl:=hes.len
 simp only [Tm.cnt] at hc
 refine ql N _ Q fun _=>?_
 simp only [Tm.ok,zH1,<-hl] at hQ
 repeat' first|with_reducible intro _|simp only[Y1,Y2,Y3,Y4]|with_reducible refine X ?_ ?_|refine⟨_,_,_,rfl,?_⟩|refine⟨_,rfl,?_⟩|refine And.intro (by first|omega|trivial|(show _=_;rfl)|(with_reducible constructor)<;>first|omega|trivial|rfl) ?_|refine (zMu hh (by omega) (by omega)) _ _ ?_|refine (zC8 hes hlen _ (fun x hx d hd=>fun N Q hQ=>rU N d _ Q fun _ N1 hN1=>ih x hx d hd (by have:=zP hx;omega) N1 _ fun N2 hN2 hle N3 hN3=>hQ N3 (by omega)) _ _) _ _ ?_|fail
 ·have h:(yH k nm ot n ty re&&(es.length:Int)==tq k nm)=true:=by assumption
  exact Qb (hQ _ (by omega)) (by rw [h,Bool.and_true])
 ·have h:(yH k nm ot n ty re&&(es.length:Int)==tq k nm)=false:=by assumption
  exact Qb (hQ _ (by omega)) (by rw [h,mo])
theorem p3 (t:Tm) (d:D) (hd:t.Is d) (hc:t.cnt<=1073741824):wm 119 [.dg 9 d] t.ok:=fun N Q hQ=>by
 refine zGH N _ Q fun _=>?_
 repeat' first|with_reducible intro _|simp only[Y1,Y2,Y3,Y4]|with_reducible refine X ?_ ?_|refine⟨_,_,_,rfl,?_⟩|refine⟨_,rfl,?_⟩|refine And.intro (by first|omega|trivial|(show _=_;rfl)|(with_reducible constructor)<;>first|omega|trivial|rfl) ?_|refine (zJ4 t d hd hc) _ _ ?_|fail
 exact hQ _ (by omega)
theorem zIm {k n m:Int} {c1 c2 c4 c5 c6 c7 c8:D} (h:0<=m/\m<=2):tz 207 [.dg 9 (.ag [.lit (.int .i64 k),c1,c2,.lit (.int .i64 n),c4,c5,c6,c7,c8]),.int .i64 m] (zw k m):=fun N Q hQ=>by
 refine zBd N _ m Q fun _=>?_
 rw [i64_in (m+1) (by omega),i64_in (m - 1) (by omega)]
 repeat' first|with_reducible intro _|simp only[Y1,Y2,Y3,Y4]|with_reducible refine X ?_ ?_|refine⟨_,_,_,rfl,?_⟩|refine⟨_,rfl,?_⟩|refine And.intro (by first|omega|trivial|(show _=_;rfl)|(with_reducible constructor)<;>first|omega|trivial|rfl) ?_|fail
 all_goals (refine Qi (hQ _ (by omega)) ?_;simp [zw, *])
theorem zBF (d:D) (m:Int):wm 164 [.dg 9 d,.int .i64 m] (inB m 0 2):=fun N Q hQ=>by
 refine zAl N _ m Q fun _=>?_
 repeat' first|with_reducible intro _|simp only[Y1,Y2,Y3,Y4]|with_reducible refine X ?_ ?_|refine⟨_,_,_,rfl,?_⟩|refine⟨_,rfl,?_⟩|refine And.intro (by first|omega|trivial|(show _=_;rfl)|(with_reducible constructor)<;>first|omega|trivial|rfl) ?_|refine (zq _ _ _) _ _ ?_|fail
 exact hQ _ (by omega)
theorem zNd:∀ (t:Tm) (d:D),t.Is d->∀ m:Int,wm 163 [.dg 9 d,.int .i64 m,.fn 164 []] (t.lev m):=by
 refine Tm.ind fun k nm ot n ty re l ih d hd m N Q hQ=>?_
 obtain ⟨t0,t1,r0,r1,a,es,c,rfl,hh,hlen,hes⟩:=Tm.is_mk.1 hd
 have hl:=hes.len
 refine zBb N _ m Q fun _=>?_
 cases hin:inB m 0 2 with
 | false=>
   repeat' first|with_reducible intro _|simp only[hin,Y1,Y2,Y3,Y4]|with_reducible refine X ?_ ?_|refine⟨_,_,_,rfl,?_⟩|refine⟨_,rfl,?_⟩|refine And.intro (by first|omega|trivial|(show _=_;rfl)|(with_reducible constructor)<;>first|omega|trivial|rfl) ?_|refine (zBF _ _) _ _ ?_|fail
   exact Qb (hQ _ (by omega)) (by simp [Tm.lev,hin])
 | true=>
   have hb:=yG.1 hin
   have key:=up hes hlen (fun i xs=>∀ (N':Nat),N<=N'->(∀ N'',N'<=N''->Q (rg xs (zw k m)) N'')->wM Q N m a es c es.length i (.ag [.lit (.int .i64 k),.lit (.string nm),.lit (.string ot),.lit (.int .i64 n),t0,t1,r0,r1,.sl a 9 es c]) N') ?_ ?_
   ·repeat' first|with_reducible intro _|simp only[hin,Y1,Y2,Y3,Y4]|with_reducible refine X ?_ ?_|refine⟨_,_,_,rfl,?_⟩|refine⟨_,rfl,?_⟩|refine And.intro (by first|omega|trivial|(show _=_;rfl)|(with_reducible constructor)<;>first|omega|trivial|rfl) ?_|refine (zBF _ _) _ _ ?_|fail
    exact key _ (by omega) fun N'' h=>Qb (hQ N'' (by omega)) (by simp [Tm.lev,hin])
   ·intro i hlt _ N' hN' hQ'
    refine sM _ _ _ _ _ _ _ _ _ _ ?_
    repeat' first|with_reducible intro _|simp only[hlt,Y1,Y2,Y3,Y4]|with_reducible refine X ?_ ?_|refine⟨_,_,_,rfl,?_⟩|refine⟨_,rfl,?_⟩|refine And.intro (by first|omega|trivial|(show _=_;rfl)|(with_reducible constructor)<;>first|omega|trivial|rfl) ?_|fail
    exact Qb (hQ' _ (by omega)) (by simp [rg])
   ·intro i x xs hat _ ih2 N' hN' hQ'
    have hb2:=hat.b
    refine sM _ _ _ _ _ _ _ _ _ _ ?_
    repeat' first|with_reducible intro _|simp only[hat.lt,hat.w,oG,Y1,Y2,Y3,Y4]|with_reducible refine X ?_ ?_|refine⟨_,_,_,rfl,?_⟩|refine⟨_,rfl,?_⟩|refine And.intro (by first|omega|trivial|(show _=_;rfl)|(with_reducible constructor)<;>first|omega|trivial|rfl) ?_|refine (zIm hb) _ _ ?_|refine (ih x hat.m _ hat.r _) _ _ ?_|fail
    ·refine Qb (hQ' _ (by omega)) ?_;simp [rg, *]
    ·exact ih2 _ (by omega) fun N'' h=>Qb (hQ' N'' (by omega)) (by simp [rg, *])
theorem sI (t:Tm) (d:D) (hd:t.Is d) (hc:t.cnt<=1073741824) (m:Int):wm 94 [.dg 9 d,.int .i64 m] (zIj t m):=fun N Q hQ=>by
 refine zCV N _ m Q fun _=>?_
 repeat' first|with_reducible intro _|simp only[Y1,Y2,Y3,Y4]|with_reducible refine X ?_ ?_|refine⟨_,_,_,rfl,?_⟩|refine⟨_,rfl,?_⟩|refine And.intro (by first|omega|trivial|(show _=_;rfl)|(with_reducible constructor)<;>first|omega|trivial|rfl) ?_|refine (p3 t d hd hc) _ _ ?_|refine (zNd t d hd m) _ _ ?_|fail
 all_goals (refine Qb (hQ _ (by omega)) ?_;simp [zIj, *])
theorem zLi (x:Tg) (d:D) (hd:x.Is d) (hc:x.ty.cnt<=1073741824):wm 112 [.dg 4 d] (!x.ok):=fun N Q hQ=>by
 obtain ⟨t0,t1,rfl,hs,ht⟩:=hd
 refine zD4 N _ Q fun _=>?_
 repeat' first|with_reducible intro _|simp only[Y1,Y2,Y3,Y4]|with_reducible refine X ?_ ?_|refine⟨_,_,_,rfl,?_⟩|refine⟨_,rfl,?_⟩|refine And.intro (by first|omega|trivial|(show _=_;rfl)|(with_reducible constructor)<;>first|omega|trivial|rfl) ?_|refine (w9 _ hs) _ _ ?_|refine (y5 _ _ ht hc) _ _ ?_|refine (zq _ _ _) _ _ ?_|fail
 all_goals (refine Qb (hQ _ (by omega)) ?_;simp [Tg.ok, *])
theorem zG2:∀ l:List Tg,zGs l=!(l.any fun x=>!x.ok)
 | []=>rfl
 | t::ts=>by simp only [zGs,mN,zG2 ts];cases t.ok<;>simp
theorem sj {g:List Tg} {es:List D} (h:Ctx g es) (hc:∀ x∈g,x.ty.cnt<=1073741824) (a:Option Addr) (c:Nat):wm 43 [.sv a 4 es c] (zGN g):=fun N Q hQ=>by
 have hl:=h.all.len
 have hi:tz 172 [.sv a 4 es c,.fn 112 []] (zAM (fun x=>!x.ok) g 0):=fun N Q hQ=>by
  refine w6 N a es c Q fun _=>?_
  refine up h.all h.len (fun i xs=>∀ (N':Nat),N<=N'->(∀ N'',N'<=N''->Q (zAM (fun x=>!x.ok) xs i) N'')->ze Q N a es c es.length i N') ?_ ?_ N (oF _) hQ
  ·intro i hlt _ N' hN' hQ'
   refine y7 _ _ _ _ _ _ _ _ ?_
   repeat' first|with_reducible intro _|simp only[hlt,Y1,Y2,Y3,Y4]|with_reducible refine X ?_ ?_|refine⟨_,_,_,rfl,?_⟩|refine⟨_,rfl,?_⟩|refine And.intro (by first|omega|trivial|(show _=_;rfl)|(with_reducible constructor)<;>first|omega|trivial|rfl) ?_|fail
   exact hQ' _ (by omega)
  ·intro i x xs hat _ ih2 N' hN' hQ'
   have hb:=hat.b
   simp only [zAM] at hQ'
   refine y7 _ _ _ _ _ _ _ _ ?_
   repeat' first|with_reducible intro _|simp only[hat.lt,hat.w,oG,Y1,Y2,Y3,Y4]|with_reducible refine X ?_ ?_|refine⟨_,_,_,rfl,?_⟩|refine⟨_,rfl,?_⟩|refine And.intro (by first|omega|trivial|(show _=_;rfl)|(with_reducible constructor)<;>first|omega|trivial|rfl) ?_|refine (zLi x _ hat.r (hc x hat.m)) _ _ ?_|fail
   all_goals first
    | exact Qi (hQ' _ (by omega)) (by rw [if_pos (by simp [*])])
    | exact ih2 _ (by omega) fun N'' h2=>Qi (hQ' _ (by omega)) (by rw [if_neg (by simp [*])];simp)
 have hcf:wm 111 [.sv a 4 es c,.fn 112 []] (g.any fun x=>!x.ok):=fun N Q hQ=>by
  refine wV N a es c Q fun _=>?_
  repeat' first|with_reducible intro _|simp only[Y1,Y2,Y3,Y4]|with_reducible refine X ?_ ?_|refine⟨_,_,_,rfl,?_⟩|refine⟨_,rfl,?_⟩|refine And.intro (by first|omega|trivial|(show _=_;rfl)|(with_reducible constructor)<;>first|omega|trivial|rfl) ?_|refine hi _ _ ?_|fail
  exact Qb (hQ _ (by omega)) (vz _ g 0 (by omega)).symm
 refine zHV N a es c Q fun _=>?_
 repeat' first|with_reducible intro _|simp only[Y1,Y2,Y3,Y4]|with_reducible refine X ?_ ?_|refine⟨_,_,_,rfl,?_⟩|refine⟨_,rfl,?_⟩|refine And.intro (by first|omega|trivial|(show _=_;rfl)|(with_reducible constructor)<;>first|omega|trivial|rfl) ?_|refine hcf _ _ ?_|fail
 ·exact Qb (hQ _ (by omega)) (by have:(g.length:Int)<=12:=by omega
                                 simp [zGN,zG2,this])
 ·exact Qb (hQ _ (by omega)) (by have:¬(g.length:Int)<=12:=by omega
                                 simp [zGN,this])
theorem zAr {g:List Tg} {es:List D} (h:Ctx g es) (a:Option Addr) (c:Nat) (s:ByteArray):tz 103 [.sv a 4 es c,.str s] (yC g s):=fun N Q hQ=>by
 have hl:=h.all.len
 have h1:=h.len
 refine zCA N a es c s Q fun _=>?_
 have key:=zQf h.all h.len (fun m=>∀ (N':Nat),N<=N'->(∀ N'',N'<=N''->Q (vT g s (m+1).toNat) N'')->xF Q N a es c s m N') ?_ ?_
 ·rw [i64_in _ (by omega)]
  exact key N (oF _) fun N' hN'=>Qi (hQ N' hN') (by rw [yC,<-hl];congr 1;omega)
 ·intro N' hN' hQ'
  refine ue _ _ _ _ _ _ _ _ ?_
  repeat' first|with_reducible intro _|simp only[Y1,Y2,Y3,Y4]|with_reducible refine X ?_ ?_|refine⟨_,_,_,rfl,?_⟩|refine⟨_,rfl,?_⟩|refine And.intro (by first|omega|trivial|(show _=_;rfl)|(with_reducible constructor)<;>first|omega|trivial|rfl) ?_|fail
  ·omega
  ·exact hQ' _ (by assumption)
 ·intro i x hat hge hw ih N' hN' hQ'
  have hb:=hat.b
  obtain ⟨t0,t1,hd,hs,ht⟩:=hat.r
  have e1:((i:Int)+1).toNat=i+1:=by omega
  have e2:((i:Int) - 1+1).toNat=i:=by omega
  rw [e1] at hQ'
  simp only [vT,zFx hat.g] at hQ'
  rw [e2] at ih
  refine ue _ _ _ _ _ _ _ _ ?_
  repeat' first|with_reducible intro _|simp only[hge,hw,oG,hd,Y1,Y2,Y3,Y4]|with_reducible refine X ?_ ?_|refine⟨_,_,_,rfl,?_⟩|refine⟨_,rfl,?_⟩|refine And.intro (by first|omega|trivial|(show _=_;rfl)|(with_reducible constructor)<;>first|omega|trivial|rfl) ?_|fail
  ·rename_i hx _ _;exact Qi (hQ' _ (by omega)) (by rw [if_pos hx])
  ·rename_i hx;exact ih _ (by omega) fun N'' h=>Qi (hQ' N'' (by omega)) (by rw [if_neg hx])
theorem zD7:∀ (t:Ty) (d:D),t.Is d->t.cnt<=1073741824->zBT 104 [.dg 2 d] t:=by
 refine Ty.ind fun k l ih d hd hc N Q hQ=>?_
 obtain ⟨a,es,c,rfl,hlen,hes⟩:=Ty.is_mk.1 hd
 have hl:=hes.len
 simp only [Ty.cnt] at hc
 have hlc:=qG l
 refine zB7 N _ Q fun _=>⟨_,rfl,_,_,_,rfl,?_⟩
 have key:=up hes hlen (fun i xs=>∀ (N':Nat),N<=N'->(i=0->wU Q N a es c es.length i 0 none [] 0 k none [] 0 N')/\∀ (m q:Nat) (r:List D),m=r.length->All2 Ty.Is (l.take i) r->OwnL N N' r ->
  yY Q N a es c es.length i 0 none [] 0 k m q r q N') ?_ ?_
 ·exact (key N (oF _)).1 rfl
 ·intro i hlt hi N' hN'
  refine ⟨fun h0=>uS _ _ _ _ _ _ _ _ _ _ _ _ _ _ _ _ ?_,fun m q r hm hr ho=>wv _ _ _ _ _ _ _ _ _ _ _ _ _ _ _ _ _ ?_⟩
  ·repeat' first|with_reducible intro _|simp only[hlt,Y1,Y2,Y3,Y4]|with_reducible refine X ?_ ?_|refine⟨_,_,_,rfl,?_⟩|refine⟨_,rfl,?_⟩|refine And.intro (by first|omega|trivial|(show _=_;rfl)|(with_reducible constructor)<;>first|omega|trivial|rfl) ?_|fail
   have:l=[]:=oR (by omega)
   subst this
   exact hQ _ _ (by omega) (xV _) yB
  ·repeat' first|with_reducible intro _|simp only[hlt,Y1,Y2,Y3,Y4]|with_reducible refine X ?_ ?_|refine⟨_,_,_,rfl,?_⟩|refine⟨_,rfl,?_⟩|refine And.intro (by first|omega|trivial|(show _=_;rfl)|(with_reducible constructor)<;>first|omega|trivial|rfl) ?_|fail
   rename_i a' N3 hN3 hf N4 hN4
   rw [oY (by omega)] at hr
   exact hQ _ _ (by omega) (Ty.is_mk.2 ⟨_,_,_,rfl,by have:=hr.len;omega,hr⟩) (sR (zG (za ((rr ho hf (by omega)).mono (oF _) hN4))))
 ·intro i x xs hat _ ih2 N' hN'
  have hb:=hat.b
  have hxc:=xk hat.m
  refine ⟨fun h0=>uS _ _ _ _ _ _ _ _ _ _ _ _ _ _ _ _ ?_,fun m q r hm hr ho=>wv _ _ _ _ _ _ _ _ _ _ _ _ _ _ _ _ _ ?_⟩
  ·repeat' first|with_reducible intro _|simp only[hat.lt,hat.w,oG,Y1,Y2,Y3,Y4]|with_reducible refine X ?_ ?_|refine⟨_,_,_,rfl,?_⟩|refine⟨_,rfl,?_⟩|refine And.intro (by first|omega|trivial|(show _=_;rfl)|(with_reducible constructor)<;>first|omega|trivial|rfl) ?_|refine (ih x hat.m _ hat.r (by omega)) _ _ ?_|fail
   rename_i N2 hN2 d' N3 hN3 hx hox hle hbel
   subst h0
   exact ⟨by unfold zA;simp,fun c2=>(ih2 _ (by omega)).2 _ _ _ rfl (by rw [zY hat.g];exact ⟨_,_,rfl,hx,rfl⟩) (za (hox.mono (by omega) (oF _)))⟩
  ·repeat' first|with_reducible intro _|simp only[hat.lt,hat.w,oG,Y1,Y2,Y3,Y4]|with_reducible refine X ?_ ?_|refine⟨_,_,_,rfl,?_⟩|refine⟨_,rfl,?_⟩|refine And.intro (by first|omega|trivial|(show _=_;rfl)|(with_reducible constructor)<;>first|omega|trivial|rfl) ?_|refine (ih x hat.m _ hat.r (by omega)) _ _ ?_|fail
   rename_i N2 hN2 d' N3 hN3 hx hox hle hbel
   have hrl:=hr.len
   have hli:(l.take i).length=i:=by rw [o0];omega
   refine ⟨by unfold zA;simp only [oK,na];omega,fun c2=>?_⟩
   exact (ih2 _ (by omega)).2 _ _ _ rfl (by rw [zY hat.g];exact hr.snoc hx) (yk (ho.mono (oF _) hN2) (za hox) (by omega) hN3)
theorem zK2:zBT 209 [] tInt:=fun N Q hQ=>zHk N Q fun N' hN'=>hQ _ _ hN' (xV _) yB
theorem zFJ:zBT 210 [] tBool:=fun N Q hQ=>zGS N Q fun N' hN'=>hQ _ _ hN' (xV _) yB
theorem zLV (t u:Ty) (d e:D) (hd:t.Is d) (he:u.Is e) (hct:t.cnt<=1073741824) (hcu:u.cnt<=1073741824):zBT 213 [.dg 2 d,.dg 2 e] (vJ t u):=fun N Q hQ=>by
 refine zHX N _ _ Q fun _ _=>?_
 repeat' first|with_reducible intro _|simp only[Y1,Y2,Y3,Y4]|with_reducible refine X ?_ ?_|refine⟨_,_,_,rfl,?_⟩|refine⟨_,rfl,?_⟩|refine And.intro (by first|omega|trivial|(show _=_;rfl)|(with_reducible constructor)<;>first|omega|trivial|rfl) ?_|refine (zD7 t d hd hct) _ _ ?_|refine (zD7 u e he hcu) _ _ ?_|fail
 rename_i N1 hN1 d1 N2 hN2 h1 o1 hl1 b1 N3 hN3 d2 N4 hN4 h2 o2 hl2 b2 a' N5 hN5 hf N6 hN6
 exact hQ _ _ (by omega) (Ty.is_mk.2 ⟨_,_,_,rfl,by simp,_,_,rfl,h1,_,_,rfl,h2,rfl⟩)
  (sR (zG (za ((rr (yk ((za o1).mono hN1 hN3) (za o2) (by omega) hN4) hf (by omega)).mono (oF _) hN6))))
theorem zJN (t:Ty) (d:D) (hd:t.Is d) (hct:t.cnt<=1073741824):zBT 244 [.dg 2 d] (pJ t):=fun N Q hQ=>by
 refine zGQ N _ Q fun _=>?_
 repeat' first|with_reducible intro _|simp only[Y1,Y2,Y3,Y4]|with_reducible refine X ?_ ?_|refine⟨_,_,_,rfl,?_⟩|refine⟨_,rfl,?_⟩|refine And.intro (by first|omega|trivial|(show _=_;rfl)|(with_reducible constructor)<;>first|omega|trivial|rfl) ?_|refine (zD7 t d hd hct) _ _ ?_|fail
 rename_i N1 hN1 d1 N2 hN2 h1 o1 hl1 b1 a' N5 hN5 hf N6 hN6
 exact hQ _ _ (by omega) (Ty.is_mk.2 ⟨_,_,_,rfl,by simp,_,_,rfl,h1,rfl⟩)
  (sR (zG (za ((rr ((za o1).mono hN1 (oF _)) hf (by omega)).mono (oF _) hN6))))
/-- the part of a code type -/
def zBC (t:Ty):Ty:=if t.k=4 then t.as.getD 0 tZero else tZero
theorem zJT (t:Ty) (d:D) (hd:t.Is d) (hv:t.valid=true\/t=tZero):zBT 245 [.dg 2 d] (zBC t):=fun N Q hQ=>by
 cases t with
 | mk k l=>
 obtain ⟨a,es,c,rfl,hlen,hes⟩:=Ty.is_mk.1 hd
 refine zGR N _ Q fun _=>?_
 by_cases hk:k=4
 ·subst hk
  rcases hv with hv | hv
  ·have hf:=Ty.form_len hv
   have hcn:=Ty.valid_cnt hv
   have hl1:(l.length:Int)=1:=by simpa [rV] using hf
   obtain ⟨u,rfl⟩:=zBG (l:=l) (by omega)
   obtain ⟨x0,_,rfl,hx0,rfl⟩:=hes
   simp only [Ty.cnt,zO] at hcn
   have e:zBC (.mk 4 [u])=u:=rfl
   rw [e] at hQ
   repeat' first|with_reducible intro _|simp only[oH,oN,Y1,Y2,Y3,Y4]|with_reducible refine X ?_ ?_|refine⟨_,_,_,rfl,?_⟩|refine⟨_,rfl,?_⟩|refine And.intro (by first|omega|trivial|(show _=_;rfl)|(with_reducible constructor)<;>first|omega|trivial|rfl) ?_|refine (zD7 u _ hx0 (by omega)) _ _ ?_|fail
   all_goals first | (exfalso;omega) | skip
   rename_i N1 hN1 d1 N2 hN2 h1 o1 hl1 b1 N3 hN3
   exact hQ _ _ (by omega) h1 (o1.mono (by omega) (by omega))
  ·cases hv
 ·have e:zBC (.mk k l)=tZero:=by unfold zBC;exact if_neg hk
  rw [e] at hQ
  repeat' first|with_reducible intro _|simp only[Y1,Y2,Y3,Y4]|with_reducible refine X ?_ ?_|refine⟨_,_,_,rfl,?_⟩|refine⟨_,rfl,?_⟩|refine And.intro (by first|omega|trivial|(show _=_;rfl)|(with_reducible constructor)<;>first|omega|trivial|rfl) ?_|fail
  all_goals first | (exfalso;omega) | skip
  exact hQ _ _ (by omega) yp yB
def zAZ (u:Ty):List Ty->Bool
 | []=>true
 | t::ts=>ut t u&&zAZ u ts
def qX (s:ByteArray):Ty:=if s=bytes [61] then tInt else if s=bytes [60] then tInt else if s=bytes [38] then tBool else if s=bytes [124] then tBool else if s=bytes [33] then tBool else tInt
def zBE (s:ByteArray):Ty:=if s=bytes [61] then tBool else if s=bytes [60] then tBool else if s=bytes [38] then tBool else if s=bytes [124] then tBool else if s=bytes [33] then tBool else tInt
theorem zM0 {ts:List Ty} {es:List D} (h:All2 Ty.Is ts es) (hlen:es.length<=4611686018427387904) (a:Option Addr) (c:Nat) (s:ByteArray) :
  zBT 211 [.str s,.sv a 2 es c] (if zAZ (qX s) ts then zBE s else tZero):=fun N Q hQ=>by
 have key:∀ (u v:Ty) (d e:D) (N0 N1:Nat),u.Is d->v.Is e->Own N N1 e->N<=N1->qX s=u->zBE s=v->zN Q N a es c es.length (0:Nat) 0 none [] 0 d e N1:=by
  intro u v d e N0 N1 hd he ho hN1 hu hv
  subst hu hv
  refine up h hlen (fun i xs=>∀ (N':Nat),N1<=N'->zAZ (qX s) xs=zAZ (qX s) ts->zN Q N a es c es.length i 0 none [] 0 d e N') ?_ ?_ N1 (oF _) rfl
  ·intro i hlt _ N' hN' hk
   refine tS _ _ _ _ _ _ _ _ _ _ _ _ _ _ ?_
   rw [<-hk] at hQ
   repeat' first|with_reducible intro _|simp only[hlt,Y1,Y2,Y3,Y4]|with_reducible refine X ?_ ?_|refine⟨_,_,_,rfl,?_⟩|refine⟨_,rfl,?_⟩|refine And.intro (by first|omega|trivial|(show _=_;rfl)|(with_reducible constructor)<;>first|omega|trivial|rfl) ?_|fail
   exact hQ _ _ (by omega) he (ho.mono (oF _) (by omega))
  ·intro i x xs hat _ ih2 N' hN' hk
   have hb:=hat.b
   refine tS _ _ _ _ _ _ _ _ _ _ _ _ _ _ ?_
   repeat' first|with_reducible intro _|simp only[hat.lt,hat.w,oG,Y1,Y2,Y3,Y4]|with_reducible refine X ?_ ?_|refine⟨_,_,_,rfl,?_⟩|refine⟨_,rfl,?_⟩|refine And.intro (by first|omega|trivial|(show _=_;rfl)|(with_reducible constructor)<;>first|omega|trivial|rfl) ?_|refine (zU x _ _ _ hat.r hd) _ _ ?_|fail
   ·rename_i hne _ _
    rw [<-hk,zAZ,hne] at hQ
    exact hQ _ _ (by omega) yp yB
   ·rename_i hne
    exact ih2 _ (by omega) (by rw [<-hk,zAZ,hne,mV])
 refine zFR N s a es c Q fun _=>?_
 repeat' first|with_reducible intro _|simp only[Y1,Y2,Y3,Y4]|with_reducible refine X ?_ ?_|refine⟨_,_,_,rfl,?_⟩|refine⟨_,rfl,?_⟩|refine And.intro (by first|omega|trivial|(show _=_;rfl)|(with_reducible constructor)<;>first|omega|trivial|rfl) ?_|refine zK2 _ _ ?_|refine zFJ _ _ ?_|fail
 all_goals first
  | exact key tInt tBool _ _ 0 _ (by assumption) (by assumption) (Own.mono (by assumption) (by omega) (by omega)) (by omega) (by unfold qX;(repeat' split)<;>first | rfl | contradiction) (by unfold zBE;(repeat' split)<;>first | rfl | contradiction)
  | exact key tBool tBool _ _ 0 _ (by assumption) (by assumption) (Own.mono (by assumption) (by omega) (by omega)) (by omega) (by unfold qX;(repeat' split)<;>first | rfl | contradiction) (by unfold zBE;(repeat' split)<;>first | rfl | contradiction)
  | exact key tInt tInt _ _ 0 _ (by assumption) (by assumption) (Own.mono (by assumption) (by omega) (by omega)) (by omega) (by unfold qX;(repeat' split)<;>first | rfl | contradiction) (by unfold zBE;(repeat' split)<;>first | rfl | contradiction)
theorem zNw {f:FuncId} {rs:List Sh} {args:List PV} {N z c:Nat} {Q:QT rs} {es:List D} (hc:xG prog f=true) (hm:PV.sv none z es c∈args) (hne:es≠[]):ACalls prog f rs args N Q:=
 ⟨hc,fun av w0 _ _ hok=>by
  have h:=(hok _ hm).1.1
  cases h
  exact absurd rfl hne⟩
theorem zOE {g:List Tg} {es:List D} (h:Ctx g es) (hg:g.length<=1073741824) (a:Option Addr) (c:Nat) (N:Nat) (Q:QT [.row 65 4]) (hQ:∀ c' N',N<=N'->Q es c' N'):ACalls prog 243 [.row 65 4] [.sv a 4 es c] N Q:=by
 have hl:=h.all.len
 have hb0:zA [] es 56:=by unfold zA;simp only [oa];omega
 have main:(a=none->es=[])->ACalls prog 243 [.row 65 4] [.sv a 4 es c] N Q:=fun hn=>by
  refine sn N a es c Q fun _=>?_
  repeat' first|with_reducible intro _|simp only[Y1,Y2,Y3,Y4]|with_reducible refine X ?_ ?_|refine⟨_,_,_,rfl,?_⟩|refine⟨_,rfl,?_⟩|refine And.intro (by first|omega|trivial|(show _=_;rfl)|(with_reducible constructor)<;>first|omega|trivial|rfl) ?_|fail
  ·rename_i hi N1 hN1
   have:es=[]:=hn (by simpa using hi)
   subst this
   exact hQ _ _ hN1
  ·simp only [oa]
   exact hQ _ _ (by omega)
 cases a with
 | some ad=>exact main (by simp)
 | none=>
   by_cases hne:es=[]
   ·exact main fun _=>hne
   ·exact zNw (z:=4) (c:=c) (es:=es) (by kernel_rfl) (by simp) hne
theorem wX {a:Option Addr} {z c:Nat} {es:List D}:∀ x∈(D.sl a z es c).foot,x∈zD es\/∃ ad,a=some ad/\x=ad.block:=by
 intro x hx
 cases a with
 | none=>simp only [D.foot] at hx;exact .inl hx
 | some ad=>
   simp only [D.foot] at hx
   split at hx
   ·simp at hx
   ·rcases oJ.1 hx with rfl | hx
    ·exact .inr ⟨ad,rfl,rfl⟩
    ·exact .inl hx
theorem zMz {a:Option Addr} {z c:Nat} {es:List D}:∀ x∈zD es,x∈(D.sl a z es c).foot:=by
 intro x hx
 cases a with
 | none=>simpa only [D.foot] using hx
 | some ad=>
   simp only [D.foot]
   split
   ·rename_i h
    cases es with
    | nil=>simp [zD] at hx
    | cons=>simp at h
   ·exact nW _ hx
theorem zJh {g h:List Tg} {es fs:List D} (hg:Ctx g es) (hh:Ctx h fs) (hgl:g.length+h.length<=1073741824) (a b:Option Addr) (c e:Nat) (N:Nat) (Q:QT [.sl 4])
  (hQ:∀ a' es' c' N',N<=N'->Ctx (g++h) es'->(∀ x∈(D.sl a' 4 es' c').foot,x∈zD es\/x∈zD fs\/N<=x)->Q a' es' c' N'):ACalls prog 212 [.sl 4] [.sv a 4 es c,.sv b 4 fs e] N Q:=by
 have hl:=hg.all.len
 have hl2:=hh.all.len
 have hb:zA es fs 56:=by unfold zA;simp only [oK];omega
 refine zIW N a es c b fs e Q fun _ _=>?_
 repeat' first|with_reducible intro _|simp only[Y1,Y2,Y3,Y4]|with_reducible refine X ?_ ?_|refine⟨_,_,_,rfl,?_⟩|refine⟨_,rfl,?_⟩|refine And.intro (by first|omega|trivial|(show _=_;rfl)|(with_reducible constructor)<;>first|omega|trivial|rfl) ?_|refine (zOE hg (by omega) _ _) _ _ ?_|fail
 rename_i a' N3 hN3 hf N4 hN4
 refine hQ _ _ _ _ (by omega) ⟨by simp;omega,hg.all.app hh.all⟩ fun x hx=>?_
 rcases wX x hx with h1 | ⟨ad,rfl,rfl⟩
 ·rw [zC] at h1
  rcases oL.1 h1 with h1 | h1
  ·exact .inl h1
  ·exact .inr (.inl h1)
 ·have:=hf.lo ad rfl
  exact .inr (.inr (by omega))
theorem zL1 {g:List Tg} {es:List D} (h:Ctx g es) (hg:g.length<=1073741824) (hc:∀ x∈g,x.ty.cnt<=1073741824) (a:Option Addr) (c:Nat) (n:Int) :
  ∀ (N:Nat) (Q:QT [.sl 4]),(∀ a' es' c' N',N<=N'->Ctx (uL g n) es'->Q a' es' c' N')->ACalls prog 37 [.sl 4] [.sv a 4 es c,.int .i64 n] N Q:=fun N Q hQ=>by
 have hl:=h.all.len
 refine zD0 N a es c n Q fun _=>?_
 have key:=up h.all h.len (fun i xs=>∀ (r:List D) (m q:Nat) (N':Nat) (done:List Tg),N<=N'->m=r.length->All2 Tg.Is done r->done.length<=i->done++uN g n xs i=uL g n->z5 Q N a es c n m q a es c es.length i r q N') ?_ ?_
 ·exact key [] 0 0 N [] (oF _) rfl rfl (oF _) rfl
 ·intro i hlt hi r m q N' done hN' hm hr hdl hd
  refine th _ _ _ _ _ _ _ _ _ _ _ _ _ _ _ _ ?_
  repeat' first|with_reducible intro _|simp only[hlt,Y1,Y2,Y3,Y4]|with_reducible refine X ?_ ?_|refine⟨_,_,_,rfl,?_⟩|refine⟨_,rfl,?_⟩|refine And.intro (by first|omega|trivial|(show _=_;rfl)|(with_reducible constructor)<;>first|omega|trivial|rfl) ?_|fail
  refine hQ _ _ _ _ (by omega) ⟨by have:=hr.len;omega,?_⟩
  simp only [uN,nD] at hd
  rwa [<-hd]
 ·intro i x xs hat _ ih2 r m q N' done hN' hm hr hdl hd
  have hb:=hat.b
  have hrl:=hr.len
  obtain ⟨t0,t1,he,hs,ht⟩:=hat.r
  simp only [uN] at hd
  refine th _ _ _ _ _ _ _ _ _ _ _ _ _ _ _ _ ?_
  repeat' first|with_reducible intro _|simp only[hat.lt,hat.w,oG,he,Y1,Y2,Y3,Y4]|with_reducible refine X ?_ ?_|refine⟨_,_,_,rfl,?_⟩|refine⟨_,rfl,?_⟩|refine And.intro (by first|omega|trivial|(show _=_;rfl)|(with_reducible constructor)<;>first|omega|trivial|rfl) ?_|refine (tG _ _ ht) _ _ ?_|refine (zAr h a c _) _ _ ?_|refine (zD7 _ _ ht (hc x hat.m)) _ _ ?_|fail
  ·rename_i N2 hN2 x' N3 hN3 hx ho _ _
   have hin:zB9 g n x i=true:=by simp [zB9, *]
   rw [if_pos hin] at hd
   refine ⟨by unfold zA;simp only [oK,na];omega,fun c2=>ih2 _ _ _ _ (done++[x]) (by omega) rfl (hr.snoc ⟨_,_,rfl,hs,Ty.is_cells hx⟩) (by simp;omega) (by simpa using hd)⟩
  all_goals (refine ih2 _ _ _ _ done (by omega) hm hr (by omega) ?_;rw [<-hd,if_neg (by simp [zB9, *])])
theorem wS {bs:List (Option Addr)} {N N':Nat} {d:D} (hb:uR N bs) (ho:Own N N' d):Off bs d:=fun a ha ad had hm=>by
 have:=hb a ha ad had
 have:=ho.lo _ hm
 omega
theorem zGY {a x b:Option Addr} {es fs gs:List D} {c c' N:Nat} (h1:ApA a fs) (h2:Off [a] (.sl x 4 es c)) (h3:uR N [a]) (h4:∀ y∈(D.sl b 4 gs c').foot,y∈zD es\/y∈zD fs\/N<=y):Off [a] (.sl b 4 gs c'):=fun a' ha ad had hm=>by
 have e:=o4.1 ha
 subst e
 rcases h4 _ hm with h | h | h
 ·exact h2 a' ha ad had (zMz _ h)
 ·obtain ⟨d,hd,hx⟩:=zF.1 h
  exact h1 ad had d hd hx
 ·have:=h3 a' ha ad had
  omega
theorem Ty.valid_k {t:Ty} (h:t.valid=true):t.k=1/\t.as=[]\/t.k=2/\t.as=[]\/(t.k=3/\∃ a b,t.as=[a,b])\/(t.k=4/\∃ a,t.as=[a]):=by
 cases t with
 | mk k l=>
   have hf:=Ty.form_len h
   simp only [Ty.k,Ty.as]
   unfold rV at hf
   split at hf
   ·rename_i hk
    have hl:l=[]:=by simpa using hf
    rcases hk with hk | hk
    ·exact .inl ⟨hk,hl⟩
    ·exact .inr (.inl ⟨hk,hl⟩)
   ·split at hf
    ·rename_i hk;exact .inr (.inr (.inl ⟨hk,zJE (by simp at hf;omega)⟩))
    ·split at hf
     ·rename_i hk;exact .inr (.inr (.inr ⟨hk,zBG (by simp at hf;omega)⟩))
     ·cases hf
theorem Ty.valid_nz {t:Ty} (h:t.valid=true):t.k≠0:=by
 rcases Ty.valid_k h with h | h | h | h<;>omega
theorem zL2 {t:Ty} (h:t.valid=true):ut t tZero=false/\ut tZero t=false:=by
 have hk:=Ty.valid_nz h
 cases t with
 | mk k l=>
   have hk:k≠0:=hk
   have hk2:0≠k:=fun h=>hk h.symm
   constructor<;>simp [ut,tZero,hk,hk2]
theorem zLM {t:Ty} (h:t.valid=true):ut t tBool=decide (t.k=2):=by
 have hk:=Ty.valid_k h
 cases t with
 | mk k l=>
   simp only [Ty.k,Ty.as] at hk
   rw [mB,sx,nq]
   simp only [tBool,Ty.k,Ty.mk.injEq]
   rcases hk with ⟨hk,hl⟩ | ⟨hk,hl⟩ | ⟨hk,_⟩ | ⟨hk,_⟩<;>simp [hk]
   exact hl
theorem zPT {t:Ty} (h:t.valid=true):ut t tInt=decide (t.k=1):=by
 have hk:=Ty.valid_k h
 cases t with
 | mk k l=>
   simp only [Ty.k,Ty.as] at hk
   rw [mB,sx,nq]
   simp only [tInt,Ty.k,Ty.mk.injEq]
   rcases hk with ⟨hk,hl⟩ | ⟨hk,hl⟩ | ⟨hk,_⟩ | ⟨hk,_⟩<;>simp [hk]
   exact hl
/-- the type of a term, the zero type for none -/
def tyZ (e:Tm) (g:List Tg) (n:Int):Ty:=(e.type g n).getD tZero
theorem zF5 (e:Tm) (g:List Tg) (n:Int):(tyZ e g n).cnt<=30:=zFw e g n
theorem ub (e:Tm) (g:List Tg) (n:Int):(e.type g n=none/\tyZ e g n=tZero)\/(e.type g n=some (tyZ e g n)/\(tyZ e g n).valid=true):=by
 cases h:e.type g n with
 | none=>exact .inl ⟨rfl,by simp [tyZ,h]⟩
 | some t=>exact .inr ⟨by simp [tyZ,h],by simpa [tyZ,h] using Tm.type_valid h⟩
def IHi (l:List Tm):Prop:=∀ x∈l,∀ d,x.Is d->∀ g es a c n,Pre g x n->Ctx g es->zBT 95 [.sv a 4 es c,.dg 9 d,.int .i64 n] (tyZ x g n)
theorem zC0 {k:Int} {nm ot:ByteArray} {m n:Int} {ty re:Ty} {l:List Tm} {t0 t1 r0 r1:D} {es1:List D} {a1 a:Option Addr} {c1 c:Nat} {g:List Tg} {es:List D} (hk:zw k n=n) (ih:IHi l) (h0:All2 Tm.Is l es1) (hl1:es1.length<=4611686018427387904)
  (pre:Pre g (.mk k nm ot m ty re l) n) (ctx:Ctx g es) (i:Nat) {x:Tm} (hx:l[i]?=some x) (b1 b2 b3:Addr) :
  zBT 208 [.int .i64 i,.pd b1 0 (.sl a 4 es c),.pd b2 9 (.ag [.lit (.int .i64 k),.lit (.string nm),.lit (.string ot),.lit (.int .i64 m),t0,t1,r0,r1,.sl a1 9 es1 c1]),.pd b3 0 (.lit (.int .i64 n))] (tyZ x g n):=fun N Q hQ=>by
 have hil:=(oB.1 hx).1
 have hln:=h0.len
 have hm:=oC hx
 have hp:=pre.sub hm (g':=g) (by omega) pre.ty
 rw [hk] at hp
 refine rX N i b1 _ b2 _ b3 _ Q ?_
 refine ⟨_,_,_,rfl,_,_,_,rfl,⟨by omega,by omega⟩,_,rfl,?_⟩
 repeat' first|with_reducible intro _|simp only[oG,Y1,Y2,Y3,Y4]|with_reducible refine X ?_ ?_|refine⟨_,_,_,rfl,?_⟩|refine⟨_,rfl,?_⟩|refine And.intro (by first|omega|trivial|(show _=_;rfl)|(with_reducible constructor)<;>first|omega|trivial|rfl) ?_|refine (ih x hm _ (h0.get hx) g _ _ _ n hp ctx) _ _ ?_|fail
 exact hQ _ _ (by omega) (by assumption) (Own.mono (by assumption) (by omega) (by omega))
theorem zQl {e0 e1 e2:Tm} {g:List Tg} {n:Int} {s:ByteArray}:((match zf [e0,e1,e2] g n with | some ts=>yW 5 s ts | none=>none):Option Ty).getD tZero =
  if ut (tyZ e0 g n) tBool&&ut (tyZ e1 g n) (tyZ e2 g n) then tyZ e1 g n else tZero:=by
 rcases ub e0 g n with ⟨h0,z0⟩ | ⟨h0,v0⟩
 ·simp only [zf,h0,z0];rfl
 ·rcases ub e1 g n with ⟨h1,z1⟩ | ⟨h1,v1⟩
  ·simp only [zf,h0,h1,z1];split<;>rfl
  ·rcases ub e2 g n with ⟨h2,z2⟩ | ⟨h2,v2⟩
   ·simp only [zf,h0,h1,h2,z2,(zL2 v1).1,mo];rfl
   ·simp only [zf,h0,h1,h2]
    rw [zLM v0]
    show (yW 5 s [tyZ e0 g n,tyZ e1 g n,tyZ e2 g n]).getD tZero=_
    unfold yW
    rw [if_neg (by omega),if_pos rfl]
    simp only [mH,me]
    by_cases hc:(tyZ e0 g n).k=2/\ut (tyZ e1 g n) (tyZ e2 g n)=true
    ·rw [if_pos hc,if_pos (by simp [hc.1,hc.2])];rfl
    ·rw [if_neg hc,if_neg (by simpa using hc)];rfl
theorem zP2 {e0 e1:Tm} {g:List Tg} {n:Int} {s:ByteArray}:((match zf [e0,e1] g n with | some ts=>yW 7 s ts | none=>none):Option Ty).getD tZero =
  if (tyZ e0 g n).k=3/\ut ((tyZ e0 g n).as.getD 0 tZero) (tyZ e1 g n) then (tyZ e0 g n).as.getD 1 tZero else tZero:=by
 rcases ub e0 g n with ⟨h0,z0⟩ | ⟨h0,v0⟩
 ·simp only [zf,h0,z0];rfl
 ·rcases ub e1 g n with ⟨h1,z1⟩ | ⟨h1,v1⟩
  ·simp only [zf,h0,h1,z1]
   rw [if_neg]
   ·rfl
   ·rintro ⟨hk,he⟩
    rcases Ty.valid_k v0 with h | h | ⟨_,a,b,hab⟩ | h
    ·omega
    ·omega
    ·rw [hab,sx] at he
     simp only [mH] at he
     subst he
     have:(tyZ e0 g n).form=true:=by simp only [Ty.valid,oI] at v0;exact v0.2
     cases hz:tyZ e0 g n with
     | mk k l=>
       rw [hz] at hab this
       simp only [Ty.as] at hab
       subst hab
       simp [Ty.form,uJ,rV,tZero] at this
    ·omega
  ·simp only [zf,h0,h1]
   show (yW 7 s [tyZ e0 g n,tyZ e1 g n]).getD tZero=_
   unfold yW
   rw [if_neg (by omega),if_neg (by omega)]
   simp only [mH,me]
   split<;>rfl
theorem zQu {l:List Tm} {g:List Tg} {n:Int} {s:ByteArray} (hs:0<zIH s):((match zf l g n with | some ts=>yW 4 s ts | none=>none):Option Ty).getD tZero =
  if zAZ (qX s) (l.map fun e=>tyZ e g n) then zBE s else tZero:=by
 have h2:zBE s=zBg s/\(qX s=tInt/\zGk s=1\/qX s=tBool/\zGk s=2):=by
  unfold zIH at hs
  (repeat' split at hs)<;>first | omega | (subst_vars;exact ⟨rfl,.inl ⟨rfl,rfl⟩⟩) | (subst_vars;exact ⟨rfl,.inr ⟨rfl,rfl⟩⟩) | skip
 obtain ⟨h3,h4⟩:=h2
 have key:∀ l:List Tm,(∀ ts,zf l g n=some ts->zAZ (qX s) (l.map fun e=>tyZ e g n)=zMk (zGk s) ts)/\(zf l g n=none->zAZ (qX s) (l.map fun e=>tyZ e g n)=false):=by
  intro l
  induction l with
  | nil=>exact ⟨fun ts h=>by simp [zf] at h;subst h;rfl,fun h=>by simp [zf] at h⟩
  | cons e l ih=>
    rcases ub e g n with ⟨h0,z0⟩ | ⟨h0,v0⟩
    ·have:ut tZero (qX s)=false:=by rcases h4 with ⟨h4,_⟩ | ⟨h4,_⟩<;>rw [h4]<;>rfl
     refine ⟨fun ts h=>by simp [zf,h0] at h,fun _=>by simp [zAZ,z0,this]⟩
    ·have hk:ut (tyZ e g n) (qX s)=decide ((tyZ e g n).k=zGk s):=by
      rcases h4 with ⟨h4,h5⟩ | ⟨h4,h5⟩<;>rw [h4,h5]
      ·exact zPT v0
      ·exact zLM v0
     cases hl:zf l g n with
     | none=>exact ⟨fun ts h=>by simp [zf,h0,hl] at h,fun _=>by simp [zAZ,ih.2 hl]⟩
     | some us=>
       refine ⟨fun ts h=>?_,fun h=>by simp [zf,h0,hl] at h⟩
       simp only [zf,h0,hl,ow] at h
       subst h
       simp only [oU,zAZ,zMk,hk,ih.1 us hl]
 cases hl:zf l g n with
 | none=>rw [(key l).2 hl];rfl
 | some ts=>
   rw [(key l).1 ts hl,h3]
   show (yW 4 s ts).getD tZero=_
   unfold yW zNq
   rw [if_pos rfl]
   split<;>rfl
/-- a node's cells -/
abbrev zDp (k:Int) (nm ot:ByteArray) (m:Int) (t0 t1 r0 r1:D) (a:Option Addr) (es:List D) (c:Nat):D:=.ag [.lit (.int .i64 k),.lit (.string nm),.lit (.string ot),.lit (.int .i64 m),t0,t1,r0,r1,.sl a 9 es c]
theorem f5 {nm ot:ByteArray} {m n:Int} {ty re:Ty} {l:List Tm} {t0 t1 r0 r1:D} {es1:List D} {a1 a:Option Addr} {c1 c:Nat} {g:List Tg} {es:List D} (ih:IHi l) (hh:Tm.Hd nm ot ty re t0 t1 r0 r1) (h0:All2 Tm.Is l es1) (hl1:es1.length<=4611686018427387904)
  (pre:Pre g (.mk 5 nm ot m ty re l) n) (ctx:Ctx g es) :
  zBT 165 [.sv a 4 es c,.dg 9 (zDp 5 nm ot m t0 t1 r0 r1 a1 es1 c1),.int .i64 n] ((Tm.raw (.mk 5 nm ot m ty re l) g n).getD tZero):=fun N Q hQ=>by
 have hl : l.length = 3 := by have:(l.length:Int)=3:=(zX pre.ok).ar
                              omega
 obtain ⟨e0,e1,e2,rfl⟩:∃ a b c,l=[a,b,c]:=by
  match l,hl with
  | [a,b,c],_=>exact ⟨a,b,c,rfl⟩
 have hraw:(Tm.raw (.mk 5 nm ot m ty re [e0,e1,e2]) g n).getD tZero=if ut (tyZ e0 g n) tBool&&ut (tyZ e1 g n) (tyZ e2 g n) then tyZ e1 g n else tZero:=by
  rw [<-zQl (s:=nm)]
  simp only [Tm.raw]
  rfl
 rw [hraw] at hQ
 have hn:zw 5 n=n:=by simp [zw]
 refine zS N a es c _ n Q fun _ _=>⟨_,rfl,?_⟩
 repeat' first|with_reducible intro _|simp only[Y1,Y2,Y3,Y4]|with_reducible refine X ?_ ?_|refine⟨_,_,_,rfl,?_⟩|refine⟨_,rfl,?_⟩|refine And.intro (by first|omega|trivial|(show _=_;rfl)|(with_reducible constructor)<;>first|omega|trivial|rfl) ?_|refine (zC0 hn ih h0 hl1 pre ctx 1 rfl _ _ _) _ _ ?_|refine (zC0 hn ih h0 hl1 pre ctx 2 rfl _ _ _) _ _ ?_|refine (zC0 hn ih h0 hl1 pre ctx 0 rfl _ _ _) _ _ ?_|refine zFJ _ _ ?_|refine (zU (tyZ e0 g n) tBool _ _ (by assumption) (by assumption)) _ _ ?_|refine (zU (tyZ e1 g n) (tyZ e2 g n) _ _ (by assumption) (by assumption)) _ _ ?_|(((with_reducible refine And.intro ?_ ?_);· exact wS (by assumption) (by assumption)))|fail
 all_goals first | (exfalso;omega) | skip
 all_goals first
  | exact hQ _ _ (by omega) (by rw [if_pos (by simp [*])];assumption) (Own.mono (by assumption) (by omega) (by omega))
  | exact hQ _ _ (by omega) (by rw [if_neg (by simp [*])];exact yp) yB
/-- the type of a call -/
def zLA (z0 z1:Ty):Ty:=if z0.k=3/\ut (z0.as.getD 0 tZero) z1 then z0.as.getD 1 tZero else tZero
theorem f7 {nm ot:ByteArray} {m n:Int} {ty re:Ty} {l:List Tm} {t0 t1 r0 r1:D} {es1:List D} {a1 a:Option Addr} {c1 c:Nat} {g:List Tg} {es:List D} (ih:IHi l) (hh:Tm.Hd nm ot ty re t0 t1 r0 r1) (h0:All2 Tm.Is l es1) (hl1:es1.length<=4611686018427387904)
  (pre:Pre g (.mk 7 nm ot m ty re l) n) (ctx:Ctx g es) :
  zBT 165 [.sv a 4 es c,.dg 9 (zDp 7 nm ot m t0 t1 r0 r1 a1 es1 c1),.int .i64 n] ((Tm.raw (.mk 7 nm ot m ty re l) g n).getD tZero):=fun N Q hQ=>by
 have hl : l.length = 2 := by have:(l.length:Int)=2:=(zX pre.ok).ar
                              omega
 obtain ⟨e0,e1,rfl⟩:=zJE hl
 have hraw:(Tm.raw (.mk 7 nm ot m ty re [e0,e1]) g n).getD tZero=zLA (tyZ e0 g n) (tyZ e1 g n):=by
  unfold zLA
  rw [<-zP2 (s:=nm)]
  simp only [Tm.raw]
  rfl
 rw [hraw] at hQ
 have hn:zw 7 n=n:=by simp [zw]
 refine zS N a es c _ n Q fun _ _=>⟨_,rfl,?_⟩
 repeat' first|with_reducible intro _|simp only[Y1,Y2,Y3,Y4]|with_reducible refine X ?_ ?_|refine⟨_,_,_,rfl,?_⟩|refine⟨_,rfl,?_⟩|refine And.intro (by first|omega|trivial|(show _=_;rfl)|(with_reducible constructor)<;>first|omega|trivial|rfl) ?_|refine (zC0 hn ih h0 hl1 pre ctx 0 rfl _ _ _) _ _ ?_|refine (zC0 hn ih h0 hl1 pre ctx 1 rfl _ _ _) _ _ ?_|(((with_reducible refine And.intro ?_ ?_);· exact wS (by assumption) (by assumption)))|fail
 all_goals first | (exfalso;omega) | skip
 rename_i hd0 ho0 _ _ _ _ _ _ _ _ _ _ _ _ _ _ hd1 ho1 _ _
 have hv:=ub e0 g n
 generalize tyZ e0 g n=z0 at *
 cases z0 with
 | mk k0 l0=>
 obtain ⟨a2,es2,c2,rfl,hl2,he2⟩:=Ty.is_mk.1 hd0
 by_cases hk:k0=3
 ·subst hk
  have hv:(Ty.mk 3 l0).valid=true:=by
   rcases hv with ⟨_,hv⟩ | ⟨_,hv⟩
   ·cases hv
   ·exact hv
  have hcn:=Ty.valid_cnt hv
  rcases Ty.valid_k hv with ⟨hk,_⟩ | ⟨hk,_⟩ | ⟨_,u,v,huv⟩ | ⟨hk,_⟩
  ·cases hk
  ·cases hk
  ·simp only [Ty.as] at huv
   subst huv
   obtain ⟨x0,_,rfl,hx0,x1,_,rfl,hx1,rfl⟩:=he2
   simp only [Ty.cnt,zO] at hcn
   have q1:ut u (tyZ e1 g n)=true->zLA (.mk 3 [u,v]) (tyZ e1 g n)=v:=fun h=>if_pos ⟨rfl,h⟩
   have q2:ut u (tyZ e1 g n)=false->zLA (.mk 3 [u,v]) (tyZ e1 g n)=tZero:=fun h=>if_neg fun hc=>by rw [show (Ty.mk 3 [u,v]).as.getD 0 tZero=u from rfl,h] at hc;cases hc.2
   repeat' first|with_reducible intro _|simp only[oH,oN,Y1,Y2,Y3,Y4]|with_reducible refine X ?_ ?_|refine⟨_,_,_,rfl,?_⟩|refine⟨_,rfl,?_⟩|refine And.intro (by first|omega|trivial|(show _=_;rfl)|(with_reducible constructor)<;>first|omega|trivial|rfl) ?_|refine (zU u (tyZ e1 g n) _ _ hx0 hd1) _ _ ?_|refine (zD7 v _ hx1 (by omega)) _ _ ?_|fail
   all_goals first | (exfalso;omega) | skip
   all_goals first
    | exact hQ _ _ (by omega) (by rw [q1 (by assumption)];assumption) (Own.mono (by assumption) (by omega) (by omega))
    | exact hQ _ _ (by omega) (by rw [q2 (by assumption)];exact yp) yB
  ·cases hk
 ·repeat' first|with_reducible intro _|simp only[Y1,Y2,Y3,Y4]|with_reducible refine X ?_ ?_|refine⟨_,_,_,rfl,?_⟩|refine⟨_,rfl,?_⟩|refine And.intro (by first|omega|trivial|(show _=_;rfl)|(with_reducible constructor)<;>first|omega|trivial|rfl) ?_|fail
  all_goals first | (exfalso;omega) | skip
  exact hQ _ _ (by omega) (by rw [show zLA (.mk k0 l0) (tyZ e1 g n)=tZero from if_neg fun h=>hk h.1];exact yp) yB
/-- the type of a function of this parameter -/
def zNF (t z:Ty):Ty:=if z.k=0 then tZero else vJ t z
theorem f6 {nm ot:ByteArray} {m n:Int} {ty re:Ty} {l:List Tm} {t0 t1 r0 r1:D} {es1:List D} {a1 a:Option Addr} {c1 c:Nat} {g:List Tg} {es:List D} (ih:IHi l) (hh:Tm.Hd nm ot ty re t0 t1 r0 r1) (h0:All2 Tm.Is l es1) (hl1:es1.length<=4611686018427387904)
  (pre:Pre g (.mk 6 nm ot m ty re l) n) (ctx:Ctx g es) :
  zBT 165 [.sv a 4 es c,.dg 9 (zDp 6 nm ot m t0 t1 r0 r1 a1 es1 c1),.int .i64 n] ((Tm.raw (.mk 6 nm ot m ty re l) g n).getD tZero):=fun N Q hQ=>by
 have hl : l.length = 1 := by have:(l.length:Int)=1:=(zX pre.ok).ar
                              omega
 obtain ⟨e0,rfl⟩:=zBG hl
 obtain ⟨d0,_,rfl,h0,rfl⟩:=h0
 have hlen:=pre.len
 have hpc:1<=(Tm.mk 6 nm ot m ty re [e0]).cnt:=by simp only [Tm.cnt];omega
 have hv:=Ty.valid_cnt ((zX pre.ok).vt (.inl rfl))
 have hp:=pre.sub (x:=e0) (by simp) (g':=g++[⟨nm,ty,n⟩]) (by simp) (tM pre.ty (show ty.cnt<=64 by omega))
 rw [show zw 6 n=n by simp [zw]] at hp
 have hc:=zF5 e0 (g++[⟨nm,ty,n⟩]) n
 have hz:=ub e0 (g++[⟨nm,ty,n⟩]) n
 have hraw:(Tm.raw (.mk 6 nm ot m ty re [e0]) g n).getD tZero=zNF ty (tyZ e0 (g++[⟨nm,ty,n⟩]) n):=by
  have:Tm.raw (.mk 6 nm ot m ty re [e0]) g n=(match e0.type (g++[⟨nm,ty,n⟩]) n with | some b=>some (vJ ty b) | none=>none):=by simp only [Tm.raw,wt];rfl
  rw [this]
  unfold zNF
  rcases hz with ⟨h1,h2⟩ | ⟨h1,h2⟩
  ·rw [h1,h2];rfl
  ·rw [h1,if_neg (Ty.valid_nz h2)];rfl
 rw [hraw] at hQ
 have hctx:Ctx [⟨nm,ty,n⟩] [.ag [.lit (.string nm),t0,t1,.lit (.int .i64 n)]]:=⟨by simp,_,_,rfl,⟨_,_,rfl,hh.nm,hh.ty⟩,rfl⟩
 refine zS N a es c _ n Q fun _ _=>⟨_,rfl,?_⟩
 repeat' first|with_reducible intro _|simp only[oH,oN,Y1,Y2,Y3,Y4]|with_reducible refine X ?_ ?_|refine⟨_,_,_,rfl,?_⟩|refine⟨_,rfl,?_⟩|refine And.intro (by first|omega|trivial|(show _=_;rfl)|(with_reducible constructor)<;>first|omega|trivial|rfl) ?_|refine (zJh ctx hctx (by simp;omega) _ _ _ _) _ _ ?_|refine (ih e0 nS d0 h0 (g++[⟨nm,ty,n⟩]) _ _ _ n hp (by assumption)) _ _ ?_|(((with_reducible refine And.intro ?_ ?_);· exact zGY (by assumption) (by assumption) (by assumption) (by assumption)))|fail
 all_goals first | (exfalso;omega) | skip
 rename_i hd0 ho0 _ _
 generalize tyZ e0 (g++[⟨nm,ty,n⟩]) n=z0 at *
 cases z0 with
 | mk k0 l0=>
 have hd1:=hd0
 obtain ⟨a2,es2,c2,rfl,hl2,he2⟩:=Ty.is_mk.1 hd0
 repeat' first|with_reducible intro _|simp only[Y1,Y2,Y3,Y4]|with_reducible refine X ?_ ?_|refine⟨_,_,_,rfl,?_⟩|refine⟨_,rfl,?_⟩|refine And.intro (by first|omega|trivial|(show _=_;rfl)|(with_reducible constructor)<;>first|omega|trivial|rfl) ?_|refine (zLV ty (.mk k0 l0) _ _ hh.ty hd1 (by omega) (by omega)) _ _ ?_|fail
 all_goals first
  | exact hQ _ _ (by omega) (by rw [show zNF ty (.mk k0 l0)=tZero from if_pos (by assumption)];exact yp) yB
  | exact hQ _ _ (by omega) (by rw [show zNF ty (.mk k0 l0)=vJ ty (.mk k0 l0) from if_neg (by assumption)];assumption) (Own.mono (by assumption) (by omega) (by omega))
/-- the type of a let whose first part has this type -/
def zNG (e1:Tm) (g:List Tg) (nm:ByteArray) (n:Int) (z:Ty):Ty:=if z.k=0 then tZero else tyZ e1 (g++[⟨nm,z,n⟩]) n
theorem f8 {nm ot:ByteArray} {m n:Int} {ty re:Ty} {l:List Tm} {t0 t1 r0 r1:D} {es1:List D} {a1 a:Option Addr} {c1 c:Nat} {g:List Tg} {es:List D} (ih:IHi l) (hh:Tm.Hd nm ot ty re t0 t1 r0 r1) (h0:All2 Tm.Is l es1) (hl1:es1.length<=4611686018427387904)
  (pre:Pre g (.mk 8 nm ot m ty re l) n) (ctx:Ctx g es) :
  zBT 165 [.sv a 4 es c,.dg 9 (zDp 8 nm ot m t0 t1 r0 r1 a1 es1 c1),.int .i64 n] ((Tm.raw (.mk 8 nm ot m ty re l) g n).getD tZero):=fun N Q hQ=>by
 have hl : l.length = 2 := by have:(l.length:Int)=2:=(zX pre.ok).ar
                              omega
 obtain ⟨e0,e1,rfl⟩:=zJE hl
 have hes1:=h0
 obtain ⟨d0,_,rfl,h0,d1,_,rfl,h1,rfl⟩:=h0
 have hlen:=pre.len
 have hpc:1<=(Tm.mk 8 nm ot m ty re [e0,e1]).cnt:=by simp only [Tm.cnt];omega
 have hz:=ub e0 g n
 have hc:=zF5 e0 g n
 have hraw:(Tm.raw (.mk 8 nm ot m ty re [e0,e1]) g n).getD tZero=zNG e1 g nm n (tyZ e0 g n):=by
  have:Tm.raw (.mk 8 nm ot m ty re [e0,e1]) g n=(match e0.type g n with | some b=>e1.type (g++[⟨nm,b,n⟩]) n | none=>none):=by simp only [Tm.raw,wt];rfl
  rw [this]
  unfold zNG
  rcases hz with ⟨h1,h2⟩ | ⟨h1,h2⟩
  ·rw [h1,h2];rfl
  ·rw [h1,if_neg (Ty.valid_nz h2)];rfl
 rw [hraw] at hQ
 have hn:zw 8 n=n:=by simp [zw]
 refine zS N a es c _ n Q fun _ _=>⟨_,rfl,?_⟩
 repeat' first|with_reducible intro _|simp only[oH,oN,Y1,Y2,Y3,Y4]|with_reducible refine X ?_ ?_|refine⟨_,_,_,rfl,?_⟩|refine⟨_,rfl,?_⟩|refine And.intro (by first|omega|trivial|(show _=_;rfl)|(with_reducible constructor)<;>first|omega|trivial|rfl) ?_|refine (zC0 hn ih hes1 hl1 pre ctx 0 rfl _ _ _) _ _ ?_|(((with_reducible refine And.intro ?_ ?_);· exact wS (by assumption) (by assumption)))|fail
 all_goals first | (exfalso;omega) | skip
 rename_i hd0 ho0 _ _
 generalize tyZ e0 g n=z0 at *
 cases z0 with
 | mk k0 l0=>
 have hd1:=hd0
 obtain ⟨a2,es2,c2,rfl,hl2,he2⟩:=Ty.is_mk.1 hd0
 by_cases hk:k0=0
 ·have q:zNG e1 g nm n (.mk k0 l0)=tZero:=if_pos hk
  rw [q] at hQ
  repeat' first|with_reducible intro _|simp only[Y1,Y2,Y3,Y4]|with_reducible refine X ?_ ?_|refine⟨_,_,_,rfl,?_⟩|refine⟨_,rfl,?_⟩|refine And.intro (by first|omega|trivial|(show _=_;rfl)|(with_reducible constructor)<;>first|omega|trivial|rfl) ?_|fail
  all_goals first | (exfalso;omega) | exact hQ _ _ (by omega) yp yB
 ·have q:zNG e1 g nm n (.mk k0 l0)=tyZ e1 (g++[⟨nm,.mk k0 l0,n⟩]) n:=if_neg hk
  rw [q] at hQ
  have hp:=pre.sub (x:=e1) (by simp) (g':=g++[⟨nm,.mk k0 l0,n⟩]) (by simp) (tM pre.ty (od hc (by omega)))
  rw [hn] at hp
  have hctx:Ctx [⟨nm,.mk k0 l0,n⟩] [.ag [.lit (.string nm),.lit (.int .i64 k0),.sl a2 2 es2 c2,.lit (.int .i64 n)]]:=⟨by simp,_,_,rfl,⟨_,_,rfl,hh.nm,hd1⟩,rfl⟩
  repeat' first|with_reducible intro _|simp only[oH,oN,Y1,Y2,Y3,Y4]|with_reducible refine X ?_ ?_|refine⟨_,_,_,rfl,?_⟩|refine⟨_,rfl,?_⟩|refine And.intro (by first|omega|trivial|(show _=_;rfl)|(with_reducible constructor)<;>first|omega|trivial|rfl) ?_|refine (zJh ctx hctx (by simp;omega) _ _ _ _) _ _ ?_|refine (ih e1 (by simp) d1 h1 (g++[⟨nm,.mk k0 l0,n⟩]) _ _ _ n hp (by assumption)) _ _ ?_|(((with_reducible refine And.intro ?_ ?_);· exact zGY (by assumption) (by assumption) (by assumption) (by assumption)))|fail
  all_goals first | (exfalso;omega) | skip
  exact hQ _ _ (by omega) (by assumption) (Own.mono (by assumption) (by omega) (by omega))
theorem zQm {nm ot:ByteArray} {ty re:Ty} {t0 t1 r0 r1 x:D} (hh:Tm.Hd nm ot ty re t0 t1 r0 r1) (hx:(vJ ty re).Is x) (n:Int) :
  Ctx [⟨nm,vJ ty re,n⟩,⟨ot,ty,n⟩] [.ag [.lit (.string nm),D.cell x 0,D.cell x 1,.lit (.int .i64 n)],.ag [.lit (.string ot),t0,t1,.lit (.int .i64 n)]]:=
 ⟨by simp,_,_,rfl,⟨_,_,rfl,hh.nm,Ty.is_cells hx⟩,_,_,rfl,⟨_,_,rfl,hh.ot,hh.ty⟩,rfl⟩
theorem f9 {nm ot:ByteArray} {m n:Int} {ty re:Ty} {l:List Tm} {t0 t1 r0 r1:D} {es1:List D} {a1 a:Option Addr} {c1 c:Nat} {g:List Tg} {es:List D} (ih:IHi l) (hh:Tm.Hd nm ot ty re t0 t1 r0 r1) (h0:All2 Tm.Is l es1) (hl1:es1.length<=4611686018427387904)
  (pre:Pre g (.mk 9 nm ot m ty re l) n) (ctx:Ctx g es) :
  zBT 165 [.sv a 4 es c,.dg 9 (zDp 9 nm ot m t0 t1 r0 r1 a1 es1 c1),.int .i64 n] ((Tm.raw (.mk 9 nm ot m ty re l) g n).getD tZero):=fun N Q hQ=>by
 have hl : l.length = 1 := by have:(l.length:Int)=1:=(zX pre.ok).ar
                              omega
 obtain ⟨e0,rfl⟩:=zBG hl
 obtain ⟨d0,_,rfl,h0,rfl⟩:=h0
 have hlen:=pre.len
 have hpc:1<=(Tm.mk 9 nm ot m ty re [e0]).cnt:=by simp only [Tm.cnt];omega
 have hv:=Ty.valid_cnt ((zX pre.ok).vt (.inr rfl))
 have hrv:=(zX pre.ok).vr rfl
 have hr:=Ty.valid_cnt hrv
 have hg1:=tM (x:=⟨nm,vJ ty re,n⟩) pre.ty (show (vJ ty re).cnt<=64 by simp only [vJ,Ty.cnt,zO];omega)
 have hp:=pre.sub (x:=e0) (by simp) (g':=(g++[⟨nm,vJ ty re,n⟩])++[⟨ot,ty,n⟩]) (by simp) (tM hg1 (show ty.cnt<=64 by omega))
 rw [show zw 9 n=n by simp [zw],nc,List.singleton_append] at hp
 have hz:=ub e0 (g++[⟨nm,vJ ty re,n⟩,⟨ot,ty,n⟩]) n
 have hraw:(Tm.raw (.mk 9 nm ot m ty re [e0]) g n).getD tZero=if ut (tyZ e0 (g++[⟨nm,vJ ty re,n⟩,⟨ot,ty,n⟩]) n) re then vJ ty re else tZero:=by
  have:Tm.raw (.mk 9 nm ot m ty re [e0]) g n=(match e0.type ((g++[⟨nm,vJ ty re,n⟩])++[⟨ot,ty,n⟩]) n with | some b=>if ut b re then some (vJ ty re) else none | none=>none):=by simp only [Tm.raw,wt];rfl
  rw [this,nc,List.singleton_append]
  rcases hz with ⟨h1,h2⟩ | ⟨h1,h2⟩
  ·rw [h1,h2,(zL2 hrv).2];rfl
  ·rw [h1];dsimp only;split<;>rfl
 rw [hraw] at hQ
 refine zS N a es c _ n Q fun _ _=>⟨_,rfl,?_⟩
 repeat' first|with_reducible intro _|simp only[oH,oN,Y1,Y2,Y3,Y4]|with_reducible refine X ?_ ?_|refine⟨_,_,_,rfl,?_⟩|refine⟨_,rfl,?_⟩|refine And.intro (by first|omega|trivial|(show _=_;rfl)|(with_reducible constructor)<;>first|omega|trivial|rfl) ?_|refine (zLV ty re _ _ hh.ty hh.re (by omega) (by omega)) _ _ ?_|refine (zJh ctx (h:=[⟨nm,vJ ty re,n⟩,⟨ot,ty,n⟩]) (zQm hh (by assumption) n) (by simp;omega) _ _ _ _) _ _ ?_|refine (ih e0 nS d0 h0 (g++[⟨nm,vJ ty re,n⟩,⟨ot,ty,n⟩]) _ _ _ n hp (by assumption)) _ _ ?_|refine (zU (tyZ e0 (g++[⟨nm,vJ ty re,n⟩,⟨ot,ty,n⟩]) n) re _ _ (by assumption) hh.re) _ _ ?_|(((with_reducible refine And.intro ?_ ?_);· exact zGY (by assumption) (by assumption) (by assumption) (by assumption)))|fail
 all_goals first | (exfalso;omega) | skip
 all_goals first
  | exact hQ _ _ (by omega) (by rw [if_pos (by assumption)];assumption) (Own.mono (by assumption) (by omega) (by omega))
  | exact hQ _ _ (by omega) (by rw [if_neg (by simp [*])];exact yp) yB
/-- the type of a stage over a part of this type -/
def stZ (k:Int) (z:Ty):Ty:=if k=10 then (if z.k=0 then tZero else pJ z) else if k=13 then (if z.base then pJ z else tZero) else zBC z
theorem zO7 {k:Int} {e0:Tm} {g:List Tg} {n:Int}:((match e0.type g n with | some t=>ye k t | none=>none):Option Ty).getD tZero=stZ k (tyZ e0 g n):=by
 rcases ub e0 g n with ⟨h1,h2⟩ | ⟨h1,h2⟩
 ·rw [h1,h2]
  have:stZ k tZero=tZero:=by
   unfold stZ
   split
   ·rfl
   ·split<;>rfl
  exact this.symm
 ·rw [h1]
  dsimp only
  have:=Ty.valid_nz h2
  unfold stZ ye zBC
  rw [if_neg this]
  (repeat' split)<;>rfl
theorem fS {k:Int} {nm ot:ByteArray} {m n:Int} {ty re:Ty} {l:List Tm} {t0 t1 r0 r1:D} {es1:List D} {a1 a:Option Addr} {c1 c:Nat} {g:List Tg} {es:List D} (hk:k=10\/k=11\/k=12\/k=13) (ih:IHi l) (hh:Tm.Hd nm ot ty re t0 t1 r0 r1) (h0:All2 Tm.Is l es1) (hl1:es1.length<=4611686018427387904)
  (pre:Pre g (.mk k nm ot m ty re l) n) (ctx:Ctx g es) :
  zBT 214 [.sv a 4 es c,.dg 9 (zDp k nm ot m t0 t1 r0 r1 a1 es1 c1),.int .i64 n] ((Tm.raw (.mk k nm ot m ty re l) g n).getD tZero):=fun N Q hQ=>by
 have hl:l.length=1:=by
  have har:=(zX pre.ok).ar
  have:(l.length:Int)=1:=by rw [har];rcases hk with rfl | rfl | rfl | rfl<;>rfl
  omega
 obtain ⟨e0,rfl⟩:=zBG hl
 obtain ⟨d0,_,rfl,h0,rfl⟩:=h0
 have hlen:=pre.len
 have hlv:=pre.lv
 have hsub:=zAI g n g 0
 have hc2:∀ x∈g,x.ty.cnt<=1073741824:=fun x hx=>od (pre.ty x hx) (by omega)
 have hraw:(Tm.raw (.mk k nm ot m ty re [e0]) g n).getD tZero=stZ k (tyZ e0 (if k=12 then uL g n else g) (zw k n)):=by
  rw [<-zO7]
  simp only [Tm.raw,wt]
  rw [if_neg (by omega),if_neg (by omega),if_neg (by omega),if_neg (by omega),if_neg (by omega),if_neg (by omega),if_pos hk]
  rfl
 rw [hraw] at hQ
 have hp:=pre.sub (x:=e0) (by simp) (g':=if k=12 then uL g n else g) (by split<;>simp [uL];omega) (by split;exact fun y hy=>pre.ty y (hsub.1 y hy);exact pre.ty)
 have ih0:∀ es a c,Ctx (if k=12 then uL g n else g) es->zBT 95 [.sv a 4 es c,.dg 9 d0,.int .i64 (zw k n)] (tyZ e0 (if k=12 then uL g n else g) (zw k n)):=fun es a c hc=>ih e0 nS d0 h0 _ es a c _ hp hc
 have hz:=ub e0 (if k=12 then uL g n else g) (zw k n)
 have hcn:=zF5 e0 (if k=12 then uL g n else g) (zw k n)
 generalize tyZ e0 (if k=12 then uL g n else g) (zw k n)=z0 at *
 have hzv:z0.valid=true\/z0=tZero:=hz.elim (fun h=>.inr h.2) fun h=>.inl h.2
 refine zBS N a es c _ n Q fun _ _=>⟨_,rfl,?_⟩
 rw [i64_in (n+1) (by omega),i64_in (n - 1) (by omega)]
 cases z0 with
 | mk k0 l0=>
 rcases hk with rfl | rfl | rfl | rfl
 ·have ih1:=ih0 es a c ctx
  rw [show zw 10 n=n+1 by simp [zw]] at ih1
  repeat' first|with_reducible intro _|simp only[oH,oN,Y1,Y2,Y3,Y4]|with_reducible refine X ?_ ?_|refine⟨_,_,_,rfl,?_⟩|refine⟨_,rfl,?_⟩|refine And.intro (by first|omega|trivial|(show _=_;rfl)|(with_reducible constructor)<;>first|omega|trivial|rfl) ?_|refine ih1 _ _ ?_|fail
  all_goals first | (exfalso;omega) | skip
  rename_i hd0 ho0 _ _
  have hd1:=hd0
  obtain ⟨a2,es2,c2,rfl,hl2,he2⟩:=Ty.is_mk.1 hd0
  have q:stZ 10 (.mk k0 l0)=if k0=0 then tZero else pJ (.mk k0 l0):=rfl
  rw [q] at hQ
  repeat' first|with_reducible intro _|simp only[Y1,Y2,Y3,Y4]|with_reducible refine X ?_ ?_|refine⟨_,_,_,rfl,?_⟩|refine⟨_,rfl,?_⟩|refine And.intro (by first|omega|trivial|(show _=_;rfl)|(with_reducible constructor)<;>first|omega|trivial|rfl) ?_|refine (zJN (.mk k0 l0) _ hd1 (by omega)) _ _ ?_|fail
  all_goals first
   | exact hQ _ _ (by omega) (by rw [if_neg (by assumption)];assumption) (Own.mono (by assumption) (by omega) (by omega))
   | exact hQ _ _ (by omega) (by rw [if_pos (by assumption)];exact yp) yB
 ·have ih1:=ih0 es a c ctx
  rw [show zw 11 n=n - 1 by simp [zw]] at ih1
  have q:stZ 11 (.mk k0 l0)=zBC (.mk k0 l0):=rfl
  rw [q] at hQ
  repeat' first|with_reducible intro _|simp only[oH,oN,Y1,Y2,Y3,Y4]|with_reducible refine X ?_ ?_|refine⟨_,_,_,rfl,?_⟩|refine⟨_,rfl,?_⟩|refine And.intro (by first|omega|trivial|(show _=_;rfl)|(with_reducible constructor)<;>first|omega|trivial|rfl) ?_|refine ih1 _ _ ?_|refine (zJT (.mk k0 l0) _ (by assumption) hzv) _ _ ?_|fail
  all_goals first | (exfalso;omega) | skip
  exact hQ _ _ (by omega) (by assumption) (Own.mono (by assumption) (by omega) (by omega))
 ·rw [if_pos rfl,show zw 12 n=n by simp [zw]] at ih0
  have q:stZ 12 (.mk k0 l0)=zBC (.mk k0 l0):=rfl
  rw [q] at hQ
  repeat' first|with_reducible intro _|simp only[oH,oN,Y1,Y2,Y3,Y4]|with_reducible refine X ?_ ?_|refine⟨_,_,_,rfl,?_⟩|refine⟨_,rfl,?_⟩|refine And.intro (by first|omega|trivial|(show _=_;rfl)|(with_reducible constructor)<;>first|omega|trivial|rfl) ?_|refine (zL1 ctx (by omega) hc2 _ _ n) _ _ ?_|refine (ih0 _ _ _ (by assumption)) _ _ ?_|refine (zJT (.mk k0 l0) _ (by assumption) hzv) _ _ ?_|fail
  all_goals first | (exfalso;omega) | skip
  exact hQ _ _ (by omega) (by assumption) (Own.mono (by assumption) (by omega) (by omega))
 ·have ih1:=ih0 es a c ctx
  rw [show zw 13 n=n by simp [zw]] at ih1
  have q:stZ 13 (.mk k0 l0)=if (Ty.mk k0 l0).base then pJ (.mk k0 l0) else tZero:=rfl
  rw [q] at hQ
  repeat' first|with_reducible intro _|simp only[oH,oN,Y1,Y2,Y3,Y4]|with_reducible refine X ?_ ?_|refine⟨_,_,_,rfl,?_⟩|refine⟨_,rfl,?_⟩|refine And.intro (by first|omega|trivial|(show _=_;rfl)|(with_reducible constructor)<;>first|omega|trivial|rfl) ?_|refine ih1 _ _ ?_|refine (tG (.mk k0 l0) _ (by assumption)) _ _ ?_|refine (zJN (.mk k0 l0) _ (by assumption) (by omega)) _ _ ?_|fail
  all_goals first | (exfalso;omega) | skip
  all_goals first
   | exact hQ _ _ (by omega) (by rw [if_pos (by assumption)];assumption) (Own.mono (by assumption) (by omega) (by omega))
   | exact hQ _ _ (by omega) (by rw [if_neg (by simp [*])];exact yp) yB
theorem f4 {nm ot:ByteArray} {m n:Int} {ty re:Ty} {l:List Tm} {t0 t1 r0 r1:D} {es1:List D} {a1 a:Option Addr} {c1 c:Nat} {g:List Tg} {es:List D} (ih:IHi l) (hh:Tm.Hd nm ot ty re t0 t1 r0 r1) (h0:All2 Tm.Is l es1) (hl1:es1.length<=4611686018427387904)
  (pre:Pre g (.mk 4 nm ot m ty re l) n) (ctx:Ctx g es) :
  zBT 165 [.sv a 4 es c,.dg 9 (zDp 4 nm ot m t0 t1 r0 r1 a1 es1 c1),.int .i64 n] ((Tm.raw (.mk 4 nm ot m ty re l) g n).getD tZero):=fun N Q hQ=>by
 have hlen:=pre.len
 have hcl:=y9 l
 have hln:=h0.len
 simp only [Tm.cnt] at hlen
 have hop:0<zIH nm:=by
  have:=(zX pre.ok).f
  simp only [yH,sF,oI] at this
  have:=this.2.2.2.2.2
  simp at this
  exact this.1
 have hraw:(Tm.raw (.mk 4 nm ot m ty re l) g n).getD tZero=if zAZ (qX nm) (l.map fun e=>tyZ e g n) then zBE nm else tZero:=by
  rw [<-zQu hop]
  simp only [Tm.raw]
  rfl
 rw [hraw] at hQ
 have hn:zw 4 n=n:=by simp [zw]
 have key:yS Q N 0 0 es1.length (0:Nat) (zDp 4 nm ot m t0 t1 r0 r1 a1 es1 c1) 0 none [] 0 a es c n [] 0 N:=by
  refine up h0 hl1 (fun i xs=>∀ (r:List D) (q p:Nat) (N':Nat) (ts:List Ty),N<=N'->p=r.length->All2 Ty.Is ts r->ts.length=i->(∀ b∈zD r,N<=b)->ts++(xs.map fun e=>tyZ e g n)=(l.map fun e=>tyZ e g n) ->
   yS Q N p q es1.length i (zDp 4 nm ot m t0 t1 r0 r1 a1 es1 c1) 0 none [] 0 a es c n r q N') ?_ ?_ [] 0 0 N [] (oF _) rfl rfl rfl (by simp [zD]) rfl
  ·intro i hlt hi r q p N' ts hN' hp hr hti hlo hts
   have hrl:=hr.len
   simp only [mn,nD] at hts
   rw [<-hts] at hQ
   refine vv _ _ _ _ _ _ _ _ _ _ _ _ _ _ _ _ _ _ ?_
   repeat' first|with_reducible intro _|simp only[hlt,Y1,Y2,Y3,Y4]|with_reducible refine X ?_ ?_|refine⟨_,_,_,rfl,?_⟩|refine⟨_,rfl,?_⟩|refine And.intro (by first|omega|trivial|(show _=_;rfl)|(with_reducible constructor)<;>first|omega|trivial|rfl) ?_|refine (zM0 hr (by omega) _ _ nm) _ _ ?_|(((with_reducible refine And.intro ?_ ?_);· exact wS (by assumption) (by assumption)))|fail
   exact hQ _ _ (by omega) (by assumption) (Own.mono (by assumption) (by omega) (by omega))
  ·intro i x xs hat _ ih2 r q p N' ts hN' hp hr hti hlo hts
   have hb:=hat.b
   have hrl:=hr.len
   refine vv _ _ _ _ _ _ _ _ _ _ _ _ _ _ _ _ _ _ ?_
   repeat' first|with_reducible intro _|simp only[hat.lt,hat.w,oG,Y1,Y2,Y3,Y4]|with_reducible refine X ?_ ?_|refine⟨_,_,_,rfl,?_⟩|refine⟨_,rfl,?_⟩|refine And.intro (by first|omega|trivial|(show _=_;rfl)|(with_reducible constructor)<;>first|omega|trivial|rfl) ?_|refine (zC0 hn ih h0 hl1 pre ctx i hat.g _ _ _) _ _ ?_|(((with_reducible refine And.intro ?_ ?_);· exact wS (by assumption) (by assumption)))|fail
   all_goals first | (exfalso;omega) | skip
   rename_i hd ho _ _
   refine ⟨by unfold zA;simp only [oK,na];omega,fun c2=>ih2 _ _ _ _ (ts++[tyZ x g n]) (by omega) rfl (hr.snoc hd) (by simp [hti]) (fun b hb=>?_) (by simpa using hts)⟩
   rw [zC] at hb
   rcases oL.1 hb with hb | hb
   ·exact hlo b hb
   ·simp only [zD,nD] at hb
    have:=ho.lo b hb
    omega
 refine zS N a es c _ n Q fun _ _=>⟨_,rfl,?_⟩
 repeat' first|with_reducible intro _|simp only[Y1,Y2,Y3,Y4]|with_reducible refine X ?_ ?_|refine⟨_,_,_,rfl,?_⟩|refine⟨_,rfl,?_⟩|refine And.intro (by first|omega|trivial|(show _=_;rfl)|(with_reducible constructor)<;>first|omega|trivial|rfl) ?_|fail
 all_goals first | (exfalso;omega) | exact key
theorem f1 {nm ot:ByteArray} {m n:Int} {ty re:Ty} {l:List Tm} {t0 t1 r0 r1:D} {es1:List D} {a1 a:Option Addr} {c1 c:Nat} {g:List Tg} {es:List D}
  (pre:Pre g (.mk 1 nm ot m ty re l) n) (ctx:Ctx g es) :
  zBT 165 [.sv a 4 es c,.dg 9 (zDp 1 nm ot m t0 t1 r0 r1 a1 es1 c1),.int .i64 n] ((Tm.raw (.mk 1 nm ot m ty re l) g n).getD tZero):=fun N Q hQ=>by
 have hl2:=ctx.all.len
 have hraw:Tm.raw (.mk 1 nm ot m ty re l) g n=rZ g nm n:=by simp [Tm.raw]
 rw [hraw] at hQ
 refine zS N a es c _ n Q fun _ _=>⟨_,rfl,?_⟩
 rcases zCO g nm g.length with hlx | hlx
 ·have hlx:yC g nm = -1:=hlx
  have:rZ g nm n=none:=by simp [rZ,hlx]
  rw [this] at hQ
  repeat' first|with_reducible intro _|simp only[hlx,Y1,Y2,Y3,Y4]|with_reducible refine X ?_ ?_|refine⟨_,_,_,rfl,?_⟩|refine⟨_,rfl,?_⟩|refine And.intro (by first|omega|trivial|(show _=_;rfl)|(with_reducible constructor)<;>first|omega|trivial|rfl) ?_|refine (zAr ctx a c nm) _ _ ?_|fail
  all_goals first | (exfalso;omega) | skip
  exact hQ _ _ (by omega) yp yB
 ·have hlx:0<=yC g nm/\yC g nm<g.length:=hlx
  have hg:g[(yC g nm).toNat]?=some g[(yC g nm).toNat]:=oD (by omega)
  have hx:=ctx.all.get hg
  have hgd:g.getD (yC g nm).toNat tg0=g[(yC g nm).toNat]:=zFx hg
  obtain ⟨u0,u1,hd,hs,ht⟩:=hx
  have hm:g[(yC g nm).toNat]∈g:=nw _
  have hcn:=pre.ty _ hm
  have:rZ g nm n=if g[(yC g nm).toNat].lv=n then some g[(yC g nm).toNat].ty else none:=by
   rw [rZ,if_neg (by omega),hgd]
  rw [this] at hQ
  generalize g[(yC g nm).toNat]=x at *
  repeat' first|with_reducible intro _|simp only[hd,Y1,Y2,Y3,Y4]|with_reducible refine X ?_ ?_|refine⟨_,_,_,rfl,?_⟩|refine⟨_,rfl,?_⟩|refine And.intro (by first|omega|trivial|(show _=_;rfl)|(with_reducible constructor)<;>first|omega|trivial|rfl) ?_|refine (zAr ctx a c nm) _ _ ?_|refine (zD7 _ _ ht (by omega)) _ _ ?_|fail
  all_goals first | (exfalso;omega) | skip
  ·rw [if_pos (by assumption)] at hQ;exact hQ _ _ (by omega) (by assumption) (Own.mono (by assumption) (by omega) (by omega))
  ·rw [if_neg (by assumption)] at hQ;exact hQ _ _ (by omega) yp yB
theorem zKB {e:Tm} {d:D} (he:e.Is d) (ih:match e with | .mk _ _ _ _ _ _ l=>IHi l) {g:List Tg} {es:List D} (a:Option Addr) (c:Nat) {n:Int} (pre:Pre g e n) (ctx:Ctx g es) :
  zBT 165 [.sv a 4 es c,.dg 9 d,.int .i64 n] ((e.raw g n).getD tZero):=by
 cases e with
 | mk k nm ot m ty re l=>
 dsimp only at ih
 obtain ⟨t0,t1,r0,r1,a1,es1,c1,rfl,hh,hlen1,hes1⟩:=Tm.is_mk.1 he
 have nd:=zX pre.ok
 have har:=nd.ar
 have hkk:=zHI (k:=k) (nm:=nm) (by omega)
 rcases hkk with rfl | rfl | rfl | rfl | rfl | rfl | rfl | rfl | rfl | h | h | h | h
 ·exact f1 pre ctx
 ·intro N Q hQ
  have hraw:Tm.raw (.mk 2 nm ot m ty re l) g n=some tInt:=by simp [Tm.raw]
  rw [hraw] at hQ
  refine zS N a es c _ n Q fun _ _=>⟨_,rfl,?_⟩
  repeat' first|with_reducible intro _|simp only[Y1,Y2,Y3,Y4]|with_reducible refine X ?_ ?_|refine⟨_,_,_,rfl,?_⟩|refine⟨_,rfl,?_⟩|refine And.intro (by first|omega|trivial|(show _=_;rfl)|(with_reducible constructor)<;>first|omega|trivial|rfl) ?_|refine zK2 _ _ ?_|fail
  all_goals first | (exfalso;omega) | skip
  exact hQ _ _ (by omega) (by assumption) (Own.mono (by assumption) (by omega) (by omega))
 ·intro N Q hQ
  have hraw:Tm.raw (.mk 3 nm ot m ty re l) g n=some tBool:=by simp [Tm.raw]
  rw [hraw] at hQ
  refine zS N a es c _ n Q fun _ _=>⟨_,rfl,?_⟩
  repeat' first|with_reducible intro _|simp only[Y1,Y2,Y3,Y4]|with_reducible refine X ?_ ?_|refine⟨_,_,_,rfl,?_⟩|refine⟨_,rfl,?_⟩|refine And.intro (by first|omega|trivial|(show _=_;rfl)|(with_reducible constructor)<;>first|omega|trivial|rfl) ?_|refine zFJ _ _ ?_|fail
  all_goals first | (exfalso;omega) | skip
  exact hQ _ _ (by omega) (by assumption) (Own.mono (by assumption) (by omega) (by omega))
 ·exact f4 ih hh hes1 hlen1 pre ctx
 ·exact f5 ih hh hes1 hlen1 pre ctx
 ·exact f6 ih hh hes1 hlen1 pre ctx
 ·exact f7 ih hh hes1 hlen1 pre ctx
 ·exact f8 ih hh hes1 hlen1 pre ctx
 ·exact f9 ih hh hes1 hlen1 pre ctx
 all_goals
  intro N Q hQ
  have hk:k=10\/k=11\/k=12\/k=13:=by omega
  refine zS N a es c _ n Q fun _ _=>⟨_,rfl,?_⟩
  repeat' first|with_reducible intro _|simp only[Y1,Y2,Y3,Y4]|with_reducible refine X ?_ ?_|refine⟨_,_,_,rfl,?_⟩|refine⟨_,rfl,?_⟩|refine And.intro (by first|omega|trivial|(show _=_;rfl)|(with_reducible constructor)<;>first|omega|trivial|rfl) ?_|refine (fS hk ih hh hes1 hlen1 pre ctx) _ _ ?_|fail
  all_goals first | (exfalso;omega) | skip
  exact hQ _ _ (by omega) (by assumption) (Own.mono (by assumption) (by omega) (by omega))
theorem zOK (e:Tm) (g:List Tg) (n:Int):tyZ e g n=if ((e.raw g n).getD tZero).valid then (e.raw g n).getD tZero else tZero:=by
 rw [tyZ,Tm.type_eq]
 cases e.raw g n with
 | none=>rfl
 | some t=>
   simp only [vld,oZ]
   split<;>rfl
theorem zII:∀ (e:Tm),∀ d,e.Is d->∀ g es a c n,Pre g e n->Ctx g es->zBT 95 [.sv a 4 es c,.dg 9 d,.int .i64 n] (tyZ e g n):=by
 refine Tm.ind fun k nm ot m ty re l ih d hd g es a c n pre ctx N Q hQ=>?_
 have hs:=zKB hd ih a c pre ctx
 rw [zOK] at hQ
 have hc:((Tm.raw (.mk k nm ot m ty re l) g n).getD tZero).cnt<=64:=by
  cases h:Tm.raw (.mk k nm ot m ty re l) g n with
  | none=>simp [tZero,Ty.cnt,zO]
  | some t=>simpa using zMK pre h
 generalize (Tm.raw (.mk k nm ot m ty re l) g n).getD tZero=z at *
 refine zGm N a es c _ n Q fun _ _=>?_
 repeat' first|with_reducible intro _|simp only[Y1,Y2,Y3,Y4]|with_reducible refine X ?_ ?_|refine⟨_,_,_,rfl,?_⟩|refine⟨_,rfl,?_⟩|refine And.intro (by first|omega|trivial|(show _=_;rfl)|(with_reducible constructor)<;>first|omega|trivial|rfl) ?_|refine hs _ _ ?_|refine (y5 z _ (by assumption) (by omega)) _ _ ?_|fail
 all_goals first
  | exact hQ _ _ (by omega) (by rw [if_pos (by assumption)];assumption) (Own.mono (by assumption) (by omega) (by omega))
  | exact hQ _ _ (by omega) (by rw [if_neg (by simp [*])];exact yp) yB
/-- returns this type and true, or the zero type and false, in memory of its own -/
def zQa (f:FuncId) (args:List PV) (o:Option Ty):Prop:=∀ (N:Nat) (Q:QT [.ag 2,.bool]),(∀ d N',N<=N'->(o.getD tZero).Is d->Own N N' d->Q d o.isSome N')->ACalls prog f [.ag 2,.bool] args N Q
theorem zGG {g:List Tg} {es:List D} (ctx:Ctx g es) (hg:∀ x∈g,x.ty.cnt<=1073741824) {e:Tm} {d:D} (he:e.Is d) (hc:e.cnt<=1048576000 / 2) (a:Option Addr) (c:Nat) (n:Int) :
  zQa 31 [.sv a 4 es c,.dg 9 d,.int .i64 n] (zEK g e n):=fun N Q hQ=>by
 refine zFZ N a es c d n Q fun _ _=>?_
 cases h1:zGN g with
 | false=>
   rw [zEK,if_neg (by simp [h1])] at hQ
   repeat' first|with_reducible intro _|simp only[h1,Y1,Y2,Y3,Y4]|with_reducible refine X ?_ ?_|refine⟨_,_,_,rfl,?_⟩|refine⟨_,rfl,?_⟩|refine And.intro (by first|omega|trivial|(show _=_;rfl)|(with_reducible constructor)<;>first|omega|trivial|rfl) ?_|refine (sj ctx hg a c) _ _ ?_|fail
   exact hQ _ _ (by omega) yp yB
 | true=>
   cases h2:zIj e n with
   | false=>
     rw [zEK,if_neg (by simp [h2])] at hQ
     repeat' first|with_reducible intro _|simp only[h1,h2,Y1,Y2,Y3,Y4]|with_reducible refine X ?_ ?_|refine⟨_,_,_,rfl,?_⟩|refine⟨_,rfl,?_⟩|refine And.intro (by first|omega|trivial|(show _=_;rfl)|(with_reducible constructor)<;>first|omega|trivial|rfl) ?_|refine (sj ctx hg a c) _ _ ?_|refine (sI e d he (by omega) n) _ _ ?_|fail
     exact hQ _ _ (by omega) yp yB
   | true=>
     rw [zEK,if_pos ⟨h1,h2⟩] at hQ
     have hz:=ub e g n
     repeat' first|with_reducible intro _|simp only[h1,h2,Y1,Y2,Y3,Y4]|with_reducible refine X ?_ ?_|refine⟨_,_,_,rfl,?_⟩|refine⟨_,rfl,?_⟩|refine And.intro (by first|omega|trivial|(show _=_;rfl)|(with_reducible constructor)<;>first|omega|trivial|rfl) ?_|refine (sj ctx hg a c) _ _ ?_|refine (sI e d he (by omega) n) _ _ ?_|refine (zII e d he g es a c n (zPd h1 h2 hc) ctx) _ _ ?_|fail
     rename_i hd ho _ _
     rcases hz with ⟨h3,h4⟩ | ⟨h3,h4⟩
     ·rw [h3] at hQ
      rw [h4] at hd
      obtain ⟨a2,es2,c2,rfl,hl2,he2⟩:=Ty.is_mk.1 hd
      repeat' first|with_reducible intro _|simp only[Y1,Y2,Y3,Y4]|with_reducible refine X ?_ ?_|refine⟨_,_,_,rfl,?_⟩|refine⟨_,rfl,?_⟩|refine And.intro (by first|omega|trivial|(show _=_;rfl)|(with_reducible constructor)<;>first|omega|trivial|rfl) ?_|fail
      exact hQ _ _ (by omega) hd (Own.mono (by assumption) (by omega) (by omega))
     ·rw [h3] at hQ
      have hnz:=Ty.valid_nz h4
      generalize tyZ e g n=z at *
      cases z with
      | mk k0 l0=>
      have hd1:=hd
      obtain ⟨a2,es2,c2,rfl,hl2,he2⟩:=Ty.is_mk.1 hd
      repeat' first|with_reducible intro _|simp only[Y1,Y2,Y3,Y4]|with_reducible refine X ?_ ?_|refine⟨_,_,_,rfl,?_⟩|refine⟨_,rfl,?_⟩|refine And.intro (by first|omega|trivial|(show _=_;rfl)|(with_reducible constructor)<;>first|omega|trivial|rfl) ?_|fail
      have hnz:(bne k0 0)=true:=by simpa [Ty.k] using hnz
      rw [hnz]
      exact hQ _ _ (by omega) hd1 (Own.mono (by assumption) (by omega) (by omega))
end Go.Proofs.YtkdjhkfiolhkiaaGreat
