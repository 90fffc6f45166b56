/- The program's functions on names and types. -/
import Derived.Test.YtkdjhkfiolhkiaaGreatVi
import Derived.Test.YtkdjhkfiolhkiaaGreatKi
set_option linter.unusedVariables false
set_option linter.unusedSimpArgs false
namespace Go.Proofs.YtkdjhkfiolhkiaaGreat
open Go Go.Proofs Go.Proofs.Tryz Go.IntWalk
theorem yA (n a b:Int):w9 115 [.int .i64 n,.int .i64 a,.int .i64 b] (inB n a b):=fun N Q hQ=>by
 refine zGz N n a b Q ?_
 repeat' first|with_reducible intro _|simp only[Y1,Y2,Y3,Y4]|with_reducible refine X ?_ ?_|refine⟨_,_,_,rfl,?_⟩|refine⟨_,rfl,?_⟩|refine And.intro (by first|omega|trivial|(show _=_;rfl)|(with_reducible constructor)<;>first|omega|trivial|rfl) ?_|fail
 all_goals simpa [inB, *] using hQ _ (by omega)
def qr {α:Type} (p:α->Bool):List α->Int->Int
 | [],_ => -1
 | x::xs,i=>if p x then i else qr p xs (i+1)
theorem vN {α:Type} (p:α->Bool):∀ (l:List α) (i:Int),0<=i->decide (qr p l i≥0)=l.any p
 | [],i,h=>by simp [qr]
 | x::xs,i,h=>by
   have ih:=vN p xs (i+1) (by omega)
   rw [nc,nI] at ih ⊢
   simp only [qr,mN,na]
   by_cases hp:p x=true
   ·simp only [hp,mL,true_or,iff_true];exact h
   ·simpa [hp] using ih
/-- a row of words -/
def zB (l:List ByteArray):List D:=l.map fun s=>.lit (.string s)
theorem vg:∀ l:List ByteArray,All2 (fun s d=>d=.lit (.string s)) l (zB l)
 | []=>rfl
 | s::l=>⟨_,_,rfl,rfl,vg l⟩
theorem zCv (l:List ByteArray) (hl:l.length<=4611686018427387904) (a:Option Addr) (c:Nat) (s:ByteArray):ru 219 [.sv a 0 (zB l) c,.str s] (qr (fun x=>decide (s=x)) l 0):=fun N Q hQ=>by
 have hes:=vg l
 have hlen:(zB l).length<=4611686018427387904:=by rw [hes.len];exact hl
 refine qo N a _ c s Q fun _=>?_
 refine up hes hlen (fun i xs=>∀ (N':Nat),N<=N'->(∀ N'',N'<=N''->Q (qr (fun x=>decide (s=x)) xs i) N'')->yR Q N a (zB l) c s ((zB l).length:Int) i N') ?_ ?_ N (oE _) hQ
 ·intro i hlt _ N' hN' hQ'
  refine wx _ _ _ _ _ _ _ _ _ ?_
  repeat' first|with_reducible intro _|simp only[hlt,Y1,Y2,Y3,Y4]|with_reducible refine X ?_ ?_|refine⟨_,_,_,rfl,?_⟩|refine⟨_,rfl,?_⟩|refine And.intro (by first|omega|trivial|(show _=_;rfl)|(with_reducible constructor)<;>first|omega|trivial|rfl) ?_|fail
  exact hQ' _ (by omega)
 ·intro i x xs hat _ ih2 N' hN' hQ'
  have hb:=hat.b
  have hr:=hat.r
  simp only [qr] at hQ'
  refine wx _ _ _ _ _ _ _ _ _ ?_
  repeat' first|with_reducible intro _|simp only[hat.lt,hat.w,oH,hr,Y1,Y2,Y3,Y4]|with_reducible refine X ?_ ?_|refine⟨_,_,_,rfl,?_⟩|refine⟨_,rfl,?_⟩|refine And.intro (by first|omega|trivial|(show _=_;rfl)|(with_reducible constructor)<;>first|omega|trivial|rfl) ?_|fail
  ·rename_i h _ _;subst h;exact Qi (hQ' _ (by omega)) (by simp)
  ·rename_i h;exact ih2 _ hN' fun N'' h2=>Qi (hQ' _ h2) (by rw [if_neg (by simpa using h)];simp)
theorem zEh (l:List ByteArray) (hl:l.length<=4611686018427387904) (a:Option Addr) (c:Nat) (s:ByteArray):w9 173 [.sv a 0 (zB l) c,.str s] (l.any fun x=>decide (s=x)):=fun N Q hQ=>by
 refine sI N a _ c s Q fun _=>?_
 repeat' first|with_reducible intro _|simp only[Y1,Y2,Y3,Y4]|with_reducible refine X ?_ ?_|refine⟨_,_,_,rfl,?_⟩|refine⟨_,rfl,?_⟩|refine And.intro (by first|omega|trivial|(show _=_;rfl)|(with_reducible constructor)<;>first|omega|trivial|rfl) ?_|refine (zCv l hl a c s) _ _ ?_|fail
 exact Qb (hQ _ (by omega)) (vN _ l 0 (by omega)).symm
theorem vK (s:ByteArray) (hs:s.size<=4611686018427387904):w9 113 [.str s] (ub s):=fun N Q hQ=>by
 refine zGo N s Q ?_
 have key:=upN hs (fun i=>∀ N',N<=N'->(∀ N'',N'<=N''->Q (uN s i&&zE6 s) N'')->yZ Q N s (s.size:Int) i N') ?_ ?_
 ·exact key N (oE _) hQ
 ·intro hlt N' hN' hQ'
  have hc:=zEh [bytes [105,102],bytes [108,101,116],bytes [108,105,102,116],bytes [114,101,99],bytes [114,117,110]] (by simp)
  simp only [zB,List.map] at hc
  refine sg _ _ _ _ _ _ ?_
  repeat' first|with_reducible intro _|simp only[hlt,Y1,Y2,Y3,Y4]|with_reducible refine X ?_ ?_|refine⟨_,_,_,rfl,?_⟩|refine⟨_,rfl,?_⟩|refine And.intro (by first|omega|trivial|(show _=_;rfl)|(with_reducible constructor)<;>first|omega|trivial|rfl) ?_|refine (yA _ _ _) _ _ ?_|refine (hc _ _ _) _ _ ?_|fail
  all_goals (refine Qb (hQ' _ (by omega)) ?_;rw [zBU])
  ·simp only [zE6,mN,List.any_nil,Bool.or_false, *]
   cases decide (s=bytes [105,102])<;>cases decide (s=bytes [108,101,116])<;>cases decide (s=bytes [108,105,102,116])<;>cases decide (s=bytes [114,101,99])<;>cases decide (s=bytes [114,117,110])<;>rfl
  ·simp [zE6, *]
 ·intro i hi hlt hw ih2 N' hN' hQ'
  refine sg _ _ _ _ _ _ ?_
  rw [pZ hi] at hQ'
  repeat' first|with_reducible intro _|simp only[hlt,hw,oH,Y1,Y2,Y3,Y4]|with_reducible refine X ?_ ?_|refine⟨_,_,_,rfl,?_⟩|refine⟨_,rfl,?_⟩|refine And.intro (by first|omega|trivial|(show _=_;rfl)|(with_reducible constructor)<;>first|omega|trivial|rfl) ?_|fail
  all_goals first
   | (refine Qb (hQ' _ (by omega)) ?_;unfold zEx zBb;simp only [*];simp;done)
   | (refine ih2 _ (by omega) fun N'' h=>Qb (hQ' N'' (by omega)) ?_;unfold zEx zBb;simp only [*];simp;done)
theorem zBA:∀ (t:Ty) (d:D),t.Is d->t.cnt<=1073741824->ru 174 [.dg 2 d] t.cnt:=by
 refine Ty.ind fun k l ih d hd hc N Q hQ=>?_
 obtain ⟨a,es,c,rfl,hlen,hes⟩:=Ty.is_mk.1 hd
 simp only [Ty.cnt] at hc
 refine zA2 N _ Q fun _=>⟨_,_,_,rfl,?_⟩
 refine up hes hlen (fun i xs=>∀ (m:Nat) (N':Nat),N<=N'->m+zG xs=1+zG l->yn Q N m a es c es.length i N') ?_ ?_ 1 N (oE _) rfl
 ·intro i hlt _ m N' hN' hm
  refine va _ _ _ _ _ _ _ _ _ ?_
  simp only [zG] at hm
  repeat' first|with_reducible intro _|simp only[hlt,Y1,Y2,Y3,Y4]|with_reducible refine X ?_ ?_|refine⟨_,_,_,rfl,?_⟩|refine⟨_,rfl,?_⟩|refine And.intro (by first|omega|trivial|(show _=_;rfl)|(with_reducible constructor)<;>first|omega|trivial|rfl) ?_|fail
  exact Qi (hQ _ (by omega)) (by simp only [Ty.cnt];omega)
 ·intro i x xs hat _ ih2 m N' hN' hm
  have hb:=hat.b
  have hxc:=xk hat.m
  simp only [zG] at hm
  refine va _ _ _ _ _ _ _ _ _ ?_
  repeat' first|with_reducible intro _|simp only[hat.lt,hat.w,oH,Y1,Y2,Y3,Y4]|with_reducible refine X ?_ ?_|refine⟨_,_,_,rfl,?_⟩|refine⟨_,rfl,?_⟩|refine And.intro (by first|omega|trivial|(show _=_;rfl)|(with_reducible constructor)<;>first|omega|trivial|rfl) ?_|refine (ih x hat.m _ hat.r (by omega)) _ _ ?_|fail
  rw [i64_in _ (by omega)]
  exact ih2 (m+x.cnt) _ (by omega) (by omega)
theorem zAR:∀ (t:Ty) (d:D),t.Is d->t.cnt<=1073741824->ru 175 [.dg 2 d] t.dep:=by
 refine Ty.ind fun k l ih d hd hc N Q hQ=>?_
 obtain ⟨a,es,c,rfl,hlen,hes⟩:=Ty.is_mk.1 hd
 simp only [Ty.cnt] at hc
 have hdl:=rh l
 refine zAD N _ Q fun _=>⟨_,_,_,rfl,?_⟩
 refine up hes hlen (fun i xs=>∀ (m:Nat) (N':Nat),N<=N'->max m (u5 xs)=u5 l->yU Q N m a es c es.length i N') ?_ ?_ 0 N (oE _) (by omega)
 ·intro i hlt _ m N' hN' hm
  refine vG _ _ _ _ _ _ _ _ _ ?_
  simp only [u5] at hm
  repeat' first|with_reducible intro _|simp only[hlt,Y1,Y2,Y3,Y4]|with_reducible refine X ?_ ?_|refine⟨_,_,_,rfl,?_⟩|refine⟨_,rfl,?_⟩|refine And.intro (by first|omega|trivial|(show _=_;rfl)|(with_reducible constructor)<;>first|omega|trivial|rfl) ?_|fail
  rw [i64_in _ (by omega)]
  exact Qi (hQ _ (by omega)) (by simp only [Ty.dep];omega)
 ·intro i x xs hat _ ih2 m N' hN' hm
  have hb:=hat.b
  have hxc:=xk hat.m
  simp only [u5] at hm
  refine vG _ _ _ _ _ _ _ _ _ ?_
  repeat' first|with_reducible intro _|simp only[hat.lt,hat.w,oH,Y1,Y2,Y3,Y4]|with_reducible refine X ?_ ?_|refine⟨_,_,_,rfl,?_⟩|refine⟨_,rfl,?_⟩|refine And.intro (by first|omega|trivial|(show _=_;rfl)|(with_reducible constructor)<;>first|omega|trivial|rfl) ?_|refine (ih x hat.m _ hat.r (by omega)) _ _ ?_|fail
  have e:(if (x.dep:Int)>(m:Int) then (x.dep:Int) else (m:Int))=((max m x.dep:Nat):Int):=by split<;>omega
  rw [e]
  exact ih2 _ _ (by omega) (by omega)
theorem zCj (t:Ty) (d:D) (hd:t.Is d):w9 177 [.dg 2 d] (rn t.k t.as.length):=fun N Q hQ=>by
 cases t with
 | mk k l=>
 obtain ⟨a,es,c,rfl,hlen,hes⟩:=Ty.is_mk.1 hd
 have hl:=hes.len
 simp only [Ty.k,Ty.as] at hQ
 refine rp N _ Q fun _=>?_
 cases hin:inB k 1 4 with
 | false=>
   repeat' first|with_reducible intro _|simp only[hin,Y1,Y2,Y3,Y4]|with_reducible refine X ?_ ?_|refine⟨_,_,_,rfl,?_⟩|refine⟨_,rfl,?_⟩|refine And.intro (by first|omega|trivial|(show _=_;rfl)|(with_reducible constructor)<;>first|omega|trivial|rfl) ?_|refine (yA _ _ _) _ _ ?_|fail
   refine Qb (hQ _ (by omega)) ?_
   have:¬(1<=k/\k<=4):=fun h=>by rw [yI.2 h] at hin;cases hin
   unfold rn
   rw [if_neg (by omega),if_neg (by omega),if_neg (by omega)]
 | true=>
   have hb:=yI.1 hin
   have w0:IntKind.i64.wrap 0=0:=rfl
   have w1:IntKind.i64.wrap 1=1:=rfl
   have w2:IntKind.i64.wrap 2=2:=rfl
   have w3:IntKind.i64.wrap 3=3:=rfl
   have hk:k=1\/k=2\/k=3\/k=4:=by omega
   rcases hk with rfl | rfl | rfl | rfl
   all_goals
    repeat' first|with_reducible intro _|simp only[hin,w0,w1,w2,w3,Y1,Y2,Y3,Y4]|with_reducible refine X ?_ ?_|refine⟨_,_,_,rfl,?_⟩|refine⟨_,rfl,?_⟩|refine And.intro (by first|omega|trivial|(show _=_;rfl)|(with_reducible constructor)<;>first|omega|trivial|rfl) ?_|refine (yA _ _ _) _ _ ?_|fail
    refine Qb (hQ _ (by omega)) ?_
    simp [rn,hl]
theorem zCN:∀ l:List Ty,uh l=!(l.any fun x=>!x.form)
 | []=>rfl
 | t::ts=>by simp only [uh,mN,zCN ts];cases t.form<;>simp
theorem zDK {p:Ty->Bool} {l:List Ty} {es:List D} (h:All2 Ty.Is l es) (hlen:es.length<=4611686018427387904) (ad:Addr) (hp:∀ x∈l,∀ d,x.Is d->w9 221 [.dg 2 d,.pd ad 0 (.fn 177 [])] (p x)) (a:Option Addr) (c:Nat) :
  w9 220 [.sv a 2 es c,.fn 221 [.pd ad 0 (.fn 177 [])]] (l.any p):=fun N Q hQ=>by
 have hi:ru 247 [.sv a 2 es c,.fn 221 [.pd ad 0 (.fn 177 [])]] (qr p l 0):=fun N Q hQ=>by
  refine uJ N a es c ad Q fun _=>?_
  refine up h hlen (fun i xs=>∀ (N':Nat),N<=N'->(∀ N'',N'<=N''->Q (qr p xs i) N'')->zn Q N a es c ad es.length i N') ?_ ?_ N (oE _) hQ
  ·intro i hlt _ N' hN' hQ'
   refine xY _ _ _ _ _ _ _ _ _ ?_
   repeat' first|with_reducible intro _|simp only[hlt,Y1,Y2,Y3,Y4]|with_reducible refine X ?_ ?_|refine⟨_,_,_,rfl,?_⟩|refine⟨_,rfl,?_⟩|refine And.intro (by first|omega|trivial|(show _=_;rfl)|(with_reducible constructor)<;>first|omega|trivial|rfl) ?_|fail
   exact hQ' _ (by omega)
  ·intro i x xs hat _ ih2 N' hN' hQ'
   have hb:=hat.b
   simp only [qr] at hQ'
   refine xY _ _ _ _ _ _ _ _ _ ?_
   repeat' first|with_reducible intro _|simp only[hat.lt,hat.w,oH,Y1,Y2,Y3,Y4]|with_reducible refine X ?_ ?_|refine⟨_,_,_,rfl,?_⟩|refine⟨_,rfl,?_⟩|refine And.intro (by first|omega|trivial|(show _=_;rfl)|(with_reducible constructor)<;>first|omega|trivial|rfl) ?_|refine (hp x hat.m _ hat.r) _ _ ?_|fail
   ·exact Qi (hQ' _ (by omega)) (by rw [if_pos (by assumption)])
   ·rename_i h;exact ih2 _ (by omega) fun N'' h2=>Qi (hQ' _ (by omega)) (by rw [h];simp)
 refine vD N a es c ad Q fun _=>?_
 repeat' first|with_reducible intro _|simp only[Y1,Y2,Y3,Y4]|with_reducible refine X ?_ ?_|refine⟨_,_,_,rfl,?_⟩|refine⟨_,rfl,?_⟩|refine And.intro (by first|omega|trivial|(show _=_;rfl)|(with_reducible constructor)<;>first|omega|trivial|rfl) ?_|refine hi _ _ ?_|fail
 exact Qb (hQ _ (by omega)) (vN _ l 0 (by omega)).symm
theorem zKs:∀ (t:Ty) (d:D),t.Is d->w9 176 [.dg 2 d,.fn 177 []] t.form:=by
 refine Ty.ind fun k l ih d hd N Q hQ=>?_
 have hd':=hd
 obtain ⟨a,es,c,rfl,hlen,hes⟩:=Ty.is_mk.1 hd
 refine qx N _ Q fun _=>?_
 simp only [Ty.form,zCN] at hQ
 repeat' first|with_reducible intro _|simp only[Y1,Y2,Y3,Y4]|with_reducible refine X ?_ ?_|refine⟨_,_,_,rfl,?_⟩|refine⟨_,rfl,?_⟩|refine And.intro (by first|omega|trivial|(show _=_;rfl)|(with_reducible constructor)<;>first|omega|trivial|rfl) ?_|refine (zCj _ _ hd') _ _ ?_|refine (zDK hes hlen _ (fun x hx d hd=>fun N Q hQ=>rv N d _ Q fun _ N1 hN1=>ih x hx d hd N1 _ fun N2 hN2 hle N3 hN3=>hQ N3 (by omega)) _ _) _ _ ?_|fail
 ·have h:rn (Ty.mk k l).k (Ty.mk k l).as.length=true:=by assumption
  exact Qb (hQ _ (by omega)) (by simp only [Ty.k,Ty.as] at h;rw [h,Bool.and_true])
 ·rename_i h _ _
  exact Qb (hQ _ (by omega)) (by simp only [Ty.k,Ty.as] at h;rw [h,mp])
theorem yz (t:Ty) (d:D) (hd:t.Is d) (hc:t.cnt<=1073741824):w9 114 [.dg 2 d] t.valid:=fun N Q hQ=>by
 refine zAC N _ Q fun _=>?_
 repeat' first|with_reducible intro _|simp only[Y1,Y2,Y3,Y4]|with_reducible refine X ?_ ?_|refine⟨_,_,_,rfl,?_⟩|refine⟨_,rfl,?_⟩|refine And.intro (by first|omega|trivial|(show _=_;rfl)|(with_reducible constructor)<;>first|omega|trivial|rfl) ?_|refine (zBA t d hd hc) _ _ ?_|refine (zAR t d hd hc) _ _ ?_|refine (zKs t d hd) _ _ ?_|fail
 ·refine Qb (hQ _ (by omega)) ?_
  have h1:t.cnt<=30:=by omega
  have h2:t.dep<=8:=by omega
  simp [Ty.valid, *]
 ·refine Qb (hQ _ (by omega)) ?_
  have h2:¬t.dep<=8:=by omega
  simp [Ty.valid, *]
 ·refine Qb (hQ _ (by omega)) ?_
  have h1:¬t.cnt<=30:=by omega
  simp [Ty.valid, *]
theorem zT:∀ (t u:Ty) (d e:D),t.Is d->u.Is e->w9 33 [.dg 2 d,.dg 2 e] (tK t u):=by
 refine Ty.ind fun k l ih u d e hd he N Q hQ=>?_
 cases u with
 | mk k' l'=>
 obtain ⟨a,es,c,rfl,hlen,hes⟩:=Ty.is_mk.1 hd
 obtain ⟨a',es',c',rfl,hlen',hes'⟩:=Ty.is_mk.1 he
 have hl:=hes.len
 have hl':=hes'.len
 simp only [tK] at hQ
 have hf:w9 98 [.sv a 2 es c,.sv a' 2 es' c',.fn 33 []] (tc l l'):=fun N Q hQ=>by
  have key:l.length=l'.length->∀ (N':Nat),N<=N'->(∀ N'',N'<=N''->Q (tc l (l'.drop 0)) N'')->zQ Q N a' es' c' a es c es.length (0:Nat) N':=by
   intro hll
   refine up hes hlen (fun i xs=>∀ (N':Nat),N<=N'->(∀ N'',N'<=N''->Q (tc xs (l'.drop i)) N'')->zQ Q N a' es' c' a es c es.length i N') ?_ ?_
   ·intro i hlt hi N' hN' hQ'
    refine xS _ _ _ _ _ _ _ _ _ _ _ ?_
    repeat' first|with_reducible intro _|simp only[hlt,Y1,Y2,Y3,Y4]|with_reducible refine X ?_ ?_|refine⟨_,_,_,rfl,?_⟩|refine⟨_,rfl,?_⟩|refine And.intro (by first|omega|trivial|(show _=_;rfl)|(with_reducible constructor)<;>first|omega|trivial|rfl) ?_|fail
    refine Qb (hQ' _ (by assumption)) ?_
    rw [mE (by omega)]
    rfl
   ·intro i x xs hat _ ih2 N' hN' hQ'
    have hb:=hat.b
    have hi':i<l'.length:=by omega
    have hg:l'[i]?=some l'[i]:=oD hi'
    have hd':l'.drop i=l'[i]::l'.drop (i+1):=mb hi'
    refine xS _ _ _ _ _ _ _ _ _ _ _ ?_
    rw [hd'] at hQ'
    repeat' first|with_reducible intro _|simp only[hat.lt,hat.w,oH,Y1,Y2,Y3,Y4]|with_reducible refine X ?_ ?_|refine⟨_,_,_,rfl,?_⟩|refine⟨_,rfl,?_⟩|refine And.intro (by first|omega|trivial|(show _=_;rfl)|(with_reducible constructor)<;>first|omega|trivial|rfl) ?_|refine (ih x hat.m _ _ _ hat.r (hes'.get hg)) _ _ ?_|fail
    ·exact Qb (hQ' _ (by omega)) (by simp [tc, *])
    ·exact ih2 _ (by omega) fun N'' h=>Qb (hQ' N'' (by omega)) (by simp [tc, *])
  refine uF N _ _ _ _ _ _ Q fun _ _=>?_
  repeat' first|with_reducible intro _|simp only[Y1,Y2,Y3,Y4]|with_reducible refine X ?_ ?_|refine⟨_,_,_,rfl,?_⟩|refine⟨_,rfl,?_⟩|refine And.intro (by first|omega|trivial|(show _=_;rfl)|(with_reducible constructor)<;>first|omega|trivial|rfl) ?_|fail
  ·exact Qb (hQ _ (by assumption)) (zCh (by omega))
  ·exact key (by omega) N (oE _) hQ
 refine zBw N _ _ Q fun _ _=>?_
 repeat' first|with_reducible intro _|simp only[Y1,Y2,Y3,Y4]|with_reducible refine X ?_ ?_|refine⟨_,_,_,rfl,?_⟩|refine⟨_,rfl,?_⟩|refine And.intro (by first|omega|trivial|(show _=_;rfl)|(with_reducible constructor)<;>first|omega|trivial|rfl) ?_|refine hf _ _ ?_|fail
 ·exact Qb (hQ _ (by omega)) (by simp [*])
 ·exact Qb (hQ _ (by omega)) (by simp [*])
theorem tR (t:Ty) (d:D) (hd:t.Is d):w9 102 [.dg 2 d] t.base:=fun N Q hQ=>by
 cases t with
 | mk k l=>
 obtain ⟨a,es,c,rfl,hlen,hes⟩:=Ty.is_mk.1 hd
 have hl:=hes.len
 have hin:inB k 1 2=(k==1||k==2):=by
  rw [nc,yI]
  simp
  omega
 refine zFa N _ Q fun _=>?_
 repeat' first|with_reducible intro _|simp only[Y1,Y2,Y3,Y4]|with_reducible refine X ?_ ?_|refine⟨_,_,_,rfl,?_⟩|refine⟨_,rfl,?_⟩|refine And.intro (by first|omega|trivial|(show _=_;rfl)|(with_reducible constructor)<;>first|omega|trivial|rfl) ?_|refine (yA _ _ _) _ _ ?_|fail
 all_goals (rename_i h _ _;rw [hin] at h;exact Qb (hQ _ (by omega)) (by simp only [Ty.base,Ty.k,Ty.as,h,hl];simp))
theorem r6 (s:ByteArray):ru 250 [.str s] (zHK s):=fun N Q hQ=>by
 refine zEP N s Q ?_
 repeat' first|with_reducible intro _|simp only[Y1,Y2,Y3,Y4]|with_reducible refine X ?_ ?_|refine⟨_,_,_,rfl,?_⟩|refine⟨_,rfl,?_⟩|refine And.intro (by first|omega|trivial|(show _=_;rfl)|(with_reducible constructor)<;>first|omega|trivial|rfl) ?_|fail
 all_goals (refine Qi (hQ _ (by assumption)) ?_;unfold zHK;(repeat' split)<;>first | rfl | contradiction)
def arI (k:Int) (nm:ByteArray):Int:=
 if k=4 then zHK nm else if k=5 then 3 else if k=7\/k=8 then 2 else if k=6\/k=9\/k=10\/k=11\/k=12\/k=13 then 1 else 0
theorem zHc {k n:Int} {nm ot:ByteArray} {t0 t1 r0 r1 x:D}:ru 227 [.dg 9 (.ag [.lit (.int .i64 k),.lit (.string nm),.lit (.string ot),.lit (.int .i64 n),t0,t1,r0,r1,x])] (arI k nm):=fun N Q hQ=>by
 refine zIM N _ Q fun _=>?_
 repeat' first|with_reducible intro _|simp only[Y1,Y2,Y3,Y4]|with_reducible refine X ?_ ?_|refine⟨_,_,_,rfl,?_⟩|refine⟨_,rfl,?_⟩|refine And.intro (by first|omega|trivial|(show _=_;rfl)|(with_reducible constructor)<;>first|omega|trivial|rfl) ?_|refine (r6 _) _ _ ?_|fail
 all_goals (refine Qi (hQ _ (by omega)) ?_;simp [arI, *])
theorem zCZ (n:Int):w9 238 [.int .i64 n] (inB n 0 10006):=fun N Q hQ=>by
 refine zCU N n Q ?_
 repeat' first|with_reducible intro _|simp only[Y1,Y2,Y3,Y4]|with_reducible refine X ?_ ?_|refine⟨_,_,_,rfl,?_⟩|refine⟨_,rfl,?_⟩|refine And.intro (by first|omega|trivial|(show _=_;rfl)|(with_reducible constructor)<;>first|omega|trivial|rfl) ?_|refine (yA _ _ _) _ _ ?_|fail
 exact hQ _ (by omega)
def zE1 (k:Int) (nm ot:ByteArray) (n:Int) (ty re:Ty):Bool:=
 if k=1\/k=8 then ub nm else if k=2 then inB n 0 10006 else if k=3 then inB n 0 1 else if k=4 then decide (zHK nm>0)
 else if k=6 then ub nm&&ty.valid else if k=9 then ub nm&&(ub ot&&(!decide (nm=ot)&&(ty.valid&&re.valid))) else inB k 1 13
theorem zEA {k n:Int} {nm ot:ByteArray} {ty re:Ty} {t0 t1 r0 r1 x:D} (h:Tm.Hd nm ot ty re t0 t1 r0 r1) (hc:ty.cnt<=1073741824) (hc2:re.cnt<=1073741824) :
  w9 228 [.dg 9 (.ag [.lit (.int .i64 k),.lit (.string nm),.lit (.string ot),.lit (.int .i64 n),t0,t1,r0,r1,x])] (zE1 k nm ot n ty re):=fun N Q hQ=>by
 refine zDs N _ Q fun _=>?_
 repeat' first|with_reducible intro _|simp only[Y1,Y2,Y3,Y4]|with_reducible refine X ?_ ?_|refine⟨_,_,_,rfl,?_⟩|refine⟨_,rfl,?_⟩|refine And.intro (by first|omega|trivial|(show _=_;rfl)|(with_reducible constructor)<;>first|omega|trivial|rfl) ?_|refine (r6 _) _ _ ?_|refine (vK _ h.nm) _ _ ?_|refine (vK _ h.ot) _ _ ?_|refine (zCZ _) _ _ ?_|refine (yA _ _ _) _ _ ?_|refine (yz _ _ h.ty hc) _ _ ?_|refine (yz _ _ h.re hc2) _ _ ?_|fail
 all_goals (refine Qb (hQ _ (by omega)) ?_;simp [zE1, *])
theorem zHd (t:Ty):tK t t=true:=(rU t t).2 rfl
def zLF (k:Int) (nm ot:ByteArray) (n:Int) (ty re:Ty) (m:Int):Bool:=
 decide (m=arI k nm)&&(zE1 k nm ot n ty re&&((decide (k=1\/k=8\/k=4\/k=6\/k=9)||decide (nm=bytes []))&&((decide (k=9)||decide (ot=bytes []))&&((decide (k=2\/k=3)||decide (n=0)) &&
  ((decide (k=6\/k=9)||tK ty tZero)&&(decide (k=9)||tK re tZero))))))
theorem zEQ {k n:Int} {nm ot:ByteArray} {ty re:Ty} {t0 t1 r0 r1:D} {a:Option Addr} {es:List D} {c:Nat} (h:Tm.Hd nm ot ty re t0 t1 r0 r1) (hc:ty.cnt<=1073741824) (hc2:re.cnt<=1073741824) :
  w9 179 [.dg 9 (.ag [.lit (.int .i64 k),.lit (.string nm),.lit (.string ot),.lit (.int .i64 n),t0,t1,r0,r1,.sl a 9 es c])] (zLF k nm ot n ty re es.length):=fun N Q hQ=>by
 refine zFy N _ Q fun _=>?_
 repeat' first|with_reducible intro _|simp only[Y1,Y2,Y3,Y4]|with_reducible refine X ?_ ?_|refine⟨_,_,_,rfl,?_⟩|refine⟨_,rfl,?_⟩|refine And.intro (by first|omega|trivial|(show _=_;rfl)|(with_reducible constructor)<;>first|omega|trivial|rfl) ?_|refine zHc _ _ ?_|refine (zEA h hc hc2) _ _ ?_|refine (zT ty tZero _ _ h.ty ym) _ _ ?_|refine (zT re tZero _ _ h.re ym) _ _ ?_|refine (zT ty ty _ _ h.ty h.ty) _ _ ?_|refine (zT re re _ _ h.re h.re) _ _ ?_|fail
 all_goals first | (exfalso;omega) | (refine Qb (hQ _ (by omega)) ?_;simp [zLF,zHd, *];done) | (refine Qb (hQ _ (by omega)) ?_;simp_all [zLF,zHd];done)
theorem zPP (t:Ty):tK t tZero=t.zero:=by
 cases t with
 | mk k l => cases l<;>simp [tK,tZero,tc,Ty.zero,Ty.k,Ty.as]
             try omega
theorem zLA {t:Ty} (h:t.zero=true):t.valid=false:=by
 cases t with
 | mk k l=>
   simp only [Ty.zero,Ty.k,Ty.as,oK,mB] at h
   simp [Ty.valid,Ty.form,rn,h.1]
theorem zSH (n:Int):inB n 0 0=decide (n=0):=by
 rw [nc,yI,nI];omega
theorem zp (t:Ty) (b:Bool):(!t.valid&&(t.zero&&b))=(t.zero&&b):=by
 cases h:t.zero with
 | false=>simp
 | true=>rw [zLA h];simp
theorem zNX (k:Int) (nm ot:ByteArray) (n:Int) (ty re:Ty) (m:Int) (hm:0<=m):zLF k nm ot n ty re m=(yK k nm ot n ty re&&m==zAv k nm):=by
 by_cases hk:k=1\/k=2\/k=3\/k=4\/k=5\/k=6\/k=7\/k=8\/k=9\/k=10\/k=11\/k=12\/k=13
 ·rw [zRt m]
  have b5:inB 5 1 13=true:=rfl
  have b7:inB 7 1 13=true:=rfl
  have b10:inB 10 1 13=true:=rfl
  have b11:inB 11 1 13=true:=rfl
  have b12:inB 12 1 13=true:=rfl
  have b13:inB 13 1 13=true:=rfl
  rcases hk with rfl | rfl | rfl | rfl | rfl | rfl | rfl | rfl | rfl | rfl | rfl | rfl | rfl
  all_goals
   simp [zLF,arI,zE1,yK,zCz,zAe,zAv,zPP,zSH,zp,b5,b7,b10,b11,b12,b13]
   try (rw [nc];simp [and_comm,and_left_comm,and_assoc])
 ·have h1:zAv k nm = -1:=by
   unfold zAv;rw [if_neg (by omega),if_neg (by omega),if_neg (by omega),if_neg (by omega),if_neg (by omega)]
  have h2:inB k 1 13=false:=by
   cases h:inB k 1 13 with
   | false=>rfl
   | true=>have:=yI.1 h;omega
  have h3:zE1 k nm ot n ty re=false:=by
   unfold zE1;rw [if_neg (by omega),if_neg (by omega),if_neg (by omega),if_neg (by omega),if_neg (by omega),if_neg (by omega),h2]
  have h4:(m==zAv k nm)=false:=by rw [h1,zRt];exact decide_eq_false (by omega)
  rw [h4,zLF,h3]
  simp
theorem zOv {k n:Int} {nm ot:ByteArray} {ty re:Ty} {t0 t1 r0 r1:D} {a:Option Addr} {es:List D} {c:Nat} (h:Tm.Hd nm ot ty re t0 t1 r0 r1) (hc:ty.cnt<=1073741824) (hc2:re.cnt<=1073741824) :
  w9 179 [.dg 9 (.ag [.lit (.int .i64 k),.lit (.string nm),.lit (.string ot),.lit (.int .i64 n),t0,t1,r0,r1,.sl a 9 es c])] (yK k nm ot n ty re&&(es.length:Int)==zAv k nm):=by
 rw [<-zNX _ _ _ _ _ _ _ (by omega)]
 exact zEQ h hc hc2
theorem zHf:∀ l:List Tm,zD4 l=!(l.any fun x=>!x.ok)
 | []=>rfl
 | t::ts=>by simp only [zD4,mN,zHf ts];cases t.ok<;>simp
theorem zDk {p:Tm->Bool} {l:List Tm} {es:List D} (h:All2 Tm.Is l es) (hlen:es.length<=4611686018427387904) (ad:Addr) (hp:∀ x∈l,∀ d,x.Is d->w9 189 [.dg 9 d,.pd ad 0 (.fn 179 [])] (p x)) (a:Option Addr) (c:Nat) :
  w9 188 [.sv a 9 es c,.fn 189 [.pd ad 0 (.fn 179 [])]] (l.any p):=fun N Q hQ=>by
 have hi:ru 236 [.sv a 9 es c,.fn 189 [.pd ad 0 (.fn 179 [])]] (qr p l 0):=fun N Q hQ=>by
  refine uH N a es c ad Q fun _=>?_
  refine up h hlen (fun i xs=>∀ (N':Nat),N<=N'->(∀ N'',N'<=N''->Q (qr p xs i) N'')->zo Q N a es c ad es.length i N') ?_ ?_ N (oE _) hQ
  ·intro i hlt _ N' hN' hQ'
   refine xR _ _ _ _ _ _ _ _ _ ?_
   repeat' first|with_reducible intro _|simp only[hlt,Y1,Y2,Y3,Y4]|with_reducible refine X ?_ ?_|refine⟨_,_,_,rfl,?_⟩|refine⟨_,rfl,?_⟩|refine And.intro (by first|omega|trivial|(show _=_;rfl)|(with_reducible constructor)<;>first|omega|trivial|rfl) ?_|fail
   exact hQ' _ (by omega)
  ·intro i x xs hat _ ih2 N' hN' hQ'
   have hb:=hat.b
   simp only [qr] at hQ'
   refine xR _ _ _ _ _ _ _ _ _ ?_
   repeat' first|with_reducible intro _|simp only[hat.lt,hat.w,oH,Y1,Y2,Y3,Y4]|with_reducible refine X ?_ ?_|refine⟨_,_,_,rfl,?_⟩|refine⟨_,rfl,?_⟩|refine And.intro (by first|omega|trivial|(show _=_;rfl)|(with_reducible constructor)<;>first|omega|trivial|rfl) ?_|refine (hp x hat.m _ hat.r) _ _ ?_|fail
   ·exact Qi (hQ' _ (by omega)) (by rw [if_pos (by assumption)])
   ·rename_i h;exact ih2 _ (by omega) fun N'' h2=>Qi (hQ' _ (by omega)) (by rw [h];simp)
 refine vB N a es c ad Q fun _=>?_
 repeat' first|with_reducible intro _|simp only[Y1,Y2,Y3,Y4]|with_reducible refine X ?_ ?_|refine⟨_,_,_,rfl,?_⟩|refine⟨_,rfl,?_⟩|refine And.intro (by first|omega|trivial|(show _=_;rfl)|(with_reducible constructor)<;>first|omega|trivial|rfl) ?_|refine hi _ _ ?_|fail
 exact Qb (hQ _ (by omega)) (vN _ l 0 (by omega)).symm
theorem zLa:∀ (t:Tm) (d:D),t.Is d->t.cnt<=1073741824->w9 133 [.dg 9 d,.fn 179 []] t.ok:=by
 refine Tm.ind fun k nm ot n ty re l ih d hd hc N Q hQ=>?_
 obtain ⟨t0,t1,r0,r1,a,es,c,rfl,hh,hlen,hes⟩:=Tm.is_mk.1 hd
 have hl:=hes.len
 simp only [Tm.cnt] at hc
 refine pQ N _ Q fun _=>?_
 simp only [Tm.ok,zHf,<-hl] at hQ
 repeat' first|with_reducible intro _|simp only[Y1,Y2,Y3,Y4]|with_reducible refine X ?_ ?_|refine⟨_,_,_,rfl,?_⟩|refine⟨_,rfl,?_⟩|refine And.intro (by first|omega|trivial|(show _=_;rfl)|(with_reducible constructor)<;>first|omega|trivial|rfl) ?_|refine (zOv hh (by omega) (by omega)) _ _ ?_|refine (zDk hes hlen _ (fun x hx d hd=>fun N Q hQ=>rx N d _ Q fun _ N1 hN1=>ih x hx d hd (by have:=zO hx;omega) N1 _ fun N2 hN2 hle N3 hN3=>hQ N3 (by omega)) _ _) _ _ ?_|fail
 ·have h:(yK k nm ot n ty re&&(es.length:Int)==zAv k nm)=true:=by assumption
  exact Qb (hQ _ (by omega)) (by rw [h,Bool.and_true])
 ·have h:(yK k nm ot n ty re&&(es.length:Int)==zAv k nm)=false:=by assumption
  exact Qb (hQ _ (by omega)) (by rw [h,mp])
theorem pN (t:Tm) (d:D) (hd:t.Is d) (hc:t.cnt<=1073741824):w9 119 [.dg 9 d] t.ok:=fun N Q hQ=>by
 refine zFj N _ Q fun _=>?_
 repeat' first|with_reducible intro _|simp only[Y1,Y2,Y3,Y4]|with_reducible refine X ?_ ?_|refine⟨_,_,_,rfl,?_⟩|refine⟨_,rfl,?_⟩|refine And.intro (by first|omega|trivial|(show _=_;rfl)|(with_reducible constructor)<;>first|omega|trivial|rfl) ?_|refine (zLa t d hd hc) _ _ ?_|fail
 exact hQ _ (by omega)
theorem zJP {k n m:Int} {c1 c2 c4 c5 c6 c7 c8:D} (h:0<=m/\m<=2):ru 207 [.dg 9 (.ag [.lit (.int .i64 k),c1,c2,.lit (.int .i64 n),c4,c5,c6,c7,c8]),.int .i64 m] (zx k m):=fun N Q hQ=>by
 refine zBs N _ m Q fun _=>?_
 rw [i64_in (m+1) (by omega),i64_in (m - 1) (by omega)]
 repeat' first|with_reducible intro _|simp only[Y1,Y2,Y3,Y4]|with_reducible refine X ?_ ?_|refine⟨_,_,_,rfl,?_⟩|refine⟨_,rfl,?_⟩|refine And.intro (by first|omega|trivial|(show _=_;rfl)|(with_reducible constructor)<;>first|omega|trivial|rfl) ?_|fail
 all_goals (refine Qi (hQ _ (by omega)) ?_;simp [zx, *])
theorem zBM (d:D) (m:Int):w9 164 [.dg 9 d,.int .i64 m] (inB m 0 2):=fun N Q hQ=>by
 refine zBC N _ m Q fun _=>?_
 repeat' first|with_reducible intro _|simp only[Y1,Y2,Y3,Y4]|with_reducible refine X ?_ ?_|refine⟨_,_,_,rfl,?_⟩|refine⟨_,rfl,?_⟩|refine And.intro (by first|omega|trivial|(show _=_;rfl)|(with_reducible constructor)<;>first|omega|trivial|rfl) ?_|refine (yA _ _ _) _ _ ?_|fail
 exact hQ _ (by omega)
theorem zOx:∀ (t:Tm) (d:D),t.Is d->∀ m:Int,w9 163 [.dg 9 d,.int .i64 m,.fn 164 []] (t.lev m):=by
 refine Tm.ind fun k nm ot n ty re l ih d hd m N Q hQ=>?_
 obtain ⟨t0,t1,r0,r1,a,es,c,rfl,hh,hlen,hes⟩:=Tm.is_mk.1 hd
 have hl:=hes.len
 refine zB9 N _ m Q fun _=>?_
 cases hin:inB m 0 2 with
 | false=>
   repeat' first|with_reducible intro _|simp only[hin,Y1,Y2,Y3,Y4]|with_reducible refine X ?_ ?_|refine⟨_,_,_,rfl,?_⟩|refine⟨_,rfl,?_⟩|refine And.intro (by first|omega|trivial|(show _=_;rfl)|(with_reducible constructor)<;>first|omega|trivial|rfl) ?_|refine (zBM _ _) _ _ ?_|fail
   exact Qb (hQ _ (by omega)) (by simp [Tm.lev,hin])
 | true=>
   have hb:=yI.1 hin
   have key:=up hes hlen (fun i xs=>∀ (N':Nat),N<=N'->(∀ N'',N'<=N''->Q (qR xs (zx k m)) N'')->wg Q N m a es c es.length i (.ag [.lit (.int .i64 k),.lit (.string nm),.lit (.string ot),.lit (.int .i64 n),t0,t1,r0,r1,.sl a 9 es c]) N') ?_ ?_
   ·repeat' first|with_reducible intro _|simp only[hin,Y1,Y2,Y3,Y4]|with_reducible refine X ?_ ?_|refine⟨_,_,_,rfl,?_⟩|refine⟨_,rfl,?_⟩|refine And.intro (by first|omega|trivial|(show _=_;rfl)|(with_reducible constructor)<;>first|omega|trivial|rfl) ?_|refine (zBM _ _) _ _ ?_|fail
    exact key _ (by omega) fun N'' h=>Qb (hQ N'' (by omega)) (by simp [Tm.lev,hin])
   ·intro i hlt _ N' hN' hQ'
    refine rD _ _ _ _ _ _ _ _ _ _ ?_
    repeat' first|with_reducible intro _|simp only[hlt,Y1,Y2,Y3,Y4]|with_reducible refine X ?_ ?_|refine⟨_,_,_,rfl,?_⟩|refine⟨_,rfl,?_⟩|refine And.intro (by first|omega|trivial|(show _=_;rfl)|(with_reducible constructor)<;>first|omega|trivial|rfl) ?_|fail
    exact Qb (hQ' _ (by omega)) (by simp [qR])
   ·intro i x xs hat _ ih2 N' hN' hQ'
    have hb2:=hat.b
    refine rD _ _ _ _ _ _ _ _ _ _ ?_
    repeat' first|with_reducible intro _|simp only[hat.lt,hat.w,oH,Y1,Y2,Y3,Y4]|with_reducible refine X ?_ ?_|refine⟨_,_,_,rfl,?_⟩|refine⟨_,rfl,?_⟩|refine And.intro (by first|omega|trivial|(show _=_;rfl)|(with_reducible constructor)<;>first|omega|trivial|rfl) ?_|refine (zJP hb) _ _ ?_|refine (ih x hat.m _ hat.r _) _ _ ?_|fail
    ·refine Qb (hQ' _ (by omega)) ?_;simp [qR, *]
    ·exact ih2 _ (by omega) fun N'' h=>Qb (hQ' N'' (by omega)) (by simp [qR, *])
theorem sX (t:Tm) (d:D) (hd:t.Is d) (hc:t.cnt<=1073741824) (m:Int):w9 94 [.dg 9 d,.int .i64 m] (zJB t m):=fun N Q hQ=>by
 refine zCg N _ m Q fun _=>?_
 repeat' first|with_reducible intro _|simp only[Y1,Y2,Y3,Y4]|with_reducible refine X ?_ ?_|refine⟨_,_,_,rfl,?_⟩|refine⟨_,rfl,?_⟩|refine And.intro (by first|omega|trivial|(show _=_;rfl)|(with_reducible constructor)<;>first|omega|trivial|rfl) ?_|refine (pN t d hd hc) _ _ ?_|refine (zOx t d hd m) _ _ ?_|fail
 all_goals (refine Qb (hQ _ (by omega)) ?_;simp [zJB, *])
theorem zL5 (x:Tg) (d:D) (hd:x.Is d) (hc:x.ty.cnt<=1073741824):w9 112 [.dg 4 d] (!x.ok):=fun N Q hQ=>by
 obtain ⟨t0,t1,rfl,hs,ht⟩:=hd
 refine zET N _ Q fun _=>?_
 repeat' first|with_reducible intro _|simp only[Y1,Y2,Y3,Y4]|with_reducible refine X ?_ ?_|refine⟨_,_,_,rfl,?_⟩|refine⟨_,rfl,?_⟩|refine And.intro (by first|omega|trivial|(show _=_;rfl)|(with_reducible constructor)<;>first|omega|trivial|rfl) ?_|refine (vK _ hs) _ _ ?_|refine (yz _ _ ht hc) _ _ ?_|refine (yA _ _ _) _ _ ?_|fail
 all_goals (refine Qb (hQ _ (by omega)) ?_;simp [Tg.ok, *])
theorem zIO:∀ l:List Tg,zII l=!(l.any fun x=>!x.ok)
 | []=>rfl
 | t::ts=>by simp only [zII,mN,zIO ts];cases t.ok<;>simp
theorem sM {g:List Tg} {es:List D} (h:Ctx g es) (hc:∀ x∈g,x.ty.cnt<=1073741824) (a:Option Addr) (c:Nat):w9 43 [.sv a 4 es c] (zFc g):=fun N Q hQ=>by
 have hl:=h.all.len
 have hi:ru 172 [.sv a 4 es c,.fn 112 []] (qr (fun x=>!x.ok) g 0):=fun N Q hQ=>by
  refine vM N a es c Q fun _=>?_
  refine up h.all h.len (fun i xs=>∀ (N':Nat),N<=N'->(∀ N'',N'<=N''->Q (qr (fun x=>!x.ok) xs i) N'')->zW Q N a es c es.length i N') ?_ ?_ N (oE _) hQ
  ·intro i hlt _ N' hN' hQ'
   refine xF _ _ _ _ _ _ _ _ ?_
   repeat' first|with_reducible intro _|simp only[hlt,Y1,Y2,Y3,Y4]|with_reducible refine X ?_ ?_|refine⟨_,_,_,rfl,?_⟩|refine⟨_,rfl,?_⟩|refine And.intro (by first|omega|trivial|(show _=_;rfl)|(with_reducible constructor)<;>first|omega|trivial|rfl) ?_|fail
   exact hQ' _ (by omega)
  ·intro i x xs hat _ ih2 N' hN' hQ'
   have hb:=hat.b
   simp only [qr] at hQ'
   refine xF _ _ _ _ _ _ _ _ ?_
   repeat' first|with_reducible intro _|simp only[hat.lt,hat.w,oH,Y1,Y2,Y3,Y4]|with_reducible refine X ?_ ?_|refine⟨_,_,_,rfl,?_⟩|refine⟨_,rfl,?_⟩|refine And.intro (by first|omega|trivial|(show _=_;rfl)|(with_reducible constructor)<;>first|omega|trivial|rfl) ?_|refine (zL5 x _ hat.r (hc x hat.m)) _ _ ?_|fail
   all_goals first
    | exact Qi (hQ' _ (by omega)) (by rw [if_pos (by simp [*])])
    | exact ih2 _ (by omega) fun N'' h2=>Qi (hQ' _ (by omega)) (by rw [if_neg (by simp [*])];simp)
 have hcf:w9 111 [.sv a 4 es c,.fn 112 []] (g.any fun x=>!x.ok):=fun N Q hQ=>by
  refine ws N a es c Q fun _=>?_
  repeat' first|with_reducible intro _|simp only[Y1,Y2,Y3,Y4]|with_reducible refine X ?_ ?_|refine⟨_,_,_,rfl,?_⟩|refine⟨_,rfl,?_⟩|refine And.intro (by first|omega|trivial|(show _=_;rfl)|(with_reducible constructor)<;>first|omega|trivial|rfl) ?_|refine hi _ _ ?_|fail
  exact Qb (hQ _ (by omega)) (vN _ g 0 (by omega)).symm
 refine zIK N a es c Q fun _=>?_
 repeat' first|with_reducible intro _|simp only[Y1,Y2,Y3,Y4]|with_reducible refine X ?_ ?_|refine⟨_,_,_,rfl,?_⟩|refine⟨_,rfl,?_⟩|refine And.intro (by first|omega|trivial|(show _=_;rfl)|(with_reducible constructor)<;>first|omega|trivial|rfl) ?_|refine hcf _ _ ?_|fail
 ·exact Qb (hQ _ (by omega)) (by have:(g.length:Int)<=12:=by omega
                                 simp [zFc,zIO,this])
 ·exact Qb (hQ _ (by omega)) (by have:¬(g.length:Int)<=12:=by omega
                                 simp [zFc,this])
theorem zAg {g:List Tg} {es:List D} (h:Ctx g es) (a:Option Addr) (c:Nat) (s:ByteArray):ru 103 [.sv a 4 es c,.str s] (zU g s):=fun N Q hQ=>by
 have hl:=h.all.len
 have h1:=h.len
 refine zCT N a es c s Q fun _=>?_
 have key:=zSC h.all h.len (fun m=>∀ (N':Nat),N<=N'->(∀ N'',N'<=N''->Q (wH g s (m+1).toNat) N'')->xL Q N a es c s m N') ?_ ?_
 ·rw [i64_in _ (by omega)]
  exact key N (oE _) fun N' hN'=>Qi (hQ N' hN') (by rw [zU,<-hl];congr 1;omega)
 ·intro N' hN' hQ'
  refine tA _ _ _ _ _ _ _ _ ?_
  repeat' first|with_reducible intro _|simp only[Y1,Y2,Y3,Y4]|with_reducible refine X ?_ ?_|refine⟨_,_,_,rfl,?_⟩|refine⟨_,rfl,?_⟩|refine And.intro (by first|omega|trivial|(show _=_;rfl)|(with_reducible constructor)<;>first|omega|trivial|rfl) ?_|fail
  ·omega
  ·exact hQ' _ (by assumption)
 ·intro i x hat hge hw ih N' hN' hQ'
  have hb:=hat.b
  obtain ⟨t0,t1,hd,hs,ht⟩:=hat.r
  have e1:((i:Int)+1).toNat=i+1:=by omega
  have e2:((i:Int) - 1+1).toNat=i:=by omega
  rw [e1] at hQ'
  simp only [wH,zFn hat.g] at hQ'
  rw [e2] at ih
  refine tA _ _ _ _ _ _ _ _ ?_
  repeat' first|with_reducible intro _|simp only[hge,hw,oH,hd,Y1,Y2,Y3,Y4]|with_reducible refine X ?_ ?_|refine⟨_,_,_,rfl,?_⟩|refine⟨_,rfl,?_⟩|refine And.intro (by first|omega|trivial|(show _=_;rfl)|(with_reducible constructor)<;>first|omega|trivial|rfl) ?_|fail
  ·rename_i hx _ _;exact Qi (hQ' _ (by omega)) (by rw [if_pos hx])
  ·rename_i hx;exact ih _ (by omega) fun N'' h=>Qi (hQ' N'' (by omega)) (by rw [if_neg hx])
theorem zJd:∀ (t:Ty) (d:D),t.Is d->t.cnt<=1073741824->zBc 104 [.dg 2 d] t:=by
 refine Ty.ind fun k l ih d hd hc N Q hQ=>?_
 obtain ⟨a,es,c,rfl,hlen,hes⟩:=Ty.is_mk.1 hd
 have hl:=hes.len
 simp only [Ty.cnt] at hc
 have hlc:=qY l
 refine zC4 N _ Q fun _=>⟨_,rfl,_,_,_,rfl,?_⟩
 have key:=up hes hlen (fun i xs=>∀ (N':Nat),N<=N'->(i=0->wm Q N a es c es.length i 0 none [] 0 k none [] 0 N')/\∀ (m q:Nat) (r:List D),m=r.length->All2 Ty.Is (l.take i) r->OwnL N N' r ->
  yW Q N a es c es.length i 0 none [] 0 k m q r q N') ?_ ?_
 ·exact (key N (oE _)).1 rfl
 ·intro i hlt hi N' hN'
  refine ⟨fun h0=>tC _ _ _ _ _ _ _ _ _ _ _ _ _ _ _ _ ?_,fun m q r hm hr ho=>vH _ _ _ _ _ _ _ _ _ _ _ _ _ _ _ _ _ ?_⟩
  ·repeat' first|with_reducible intro _|simp only[hlt,Y1,Y2,Y3,Y4]|with_reducible refine X ?_ ?_|refine⟨_,_,_,rfl,?_⟩|refine⟨_,rfl,?_⟩|refine And.intro (by first|omega|trivial|(show _=_;rfl)|(with_reducible constructor)<;>first|omega|trivial|rfl) ?_|fail
   have:l=[]:=oX (by omega)
   subst this
   exact hQ _ _ (by omega) (xw _) yB
  ·repeat' first|with_reducible intro _|simp only[hlt,Y1,Y2,Y3,Y4]|with_reducible refine X ?_ ?_|refine⟨_,_,_,rfl,?_⟩|refine⟨_,rfl,?_⟩|refine And.intro (by first|omega|trivial|(show _=_;rfl)|(with_reducible constructor)<;>first|omega|trivial|rfl) ?_|fail
   rename_i a' N3 hN3 hf N4 hN4
   rw [oe (by omega)] at hr
   exact hQ _ _ (by omega) (Ty.is_mk.2 ⟨_,_,_,rfl,by have:=hr.len;omega,hr⟩) (zCa (xg (yS ((uL ho hf (by omega)).mono (oE _) hN4))))
 ·intro i x xs hat _ ih2 N' hN'
  have hb:=hat.b
  have hxc:=xk hat.m
  refine ⟨fun h0=>tC _ _ _ _ _ _ _ _ _ _ _ _ _ _ _ _ ?_,fun m q r hm hr ho=>vH _ _ _ _ _ _ _ _ _ _ _ _ _ _ _ _ _ ?_⟩
  ·repeat' first|with_reducible intro _|simp only[hat.lt,hat.w,oH,Y1,Y2,Y3,Y4]|with_reducible refine X ?_ ?_|refine⟨_,_,_,rfl,?_⟩|refine⟨_,rfl,?_⟩|refine And.intro (by first|omega|trivial|(show _=_;rfl)|(with_reducible constructor)<;>first|omega|trivial|rfl) ?_|refine (ih x hat.m _ hat.r (by omega)) _ _ ?_|fail
   rename_i N2 hN2 d' N3 hN3 hx hox hle hbel
   subst h0
   exact ⟨by unfold zA;simp,fun c2=>(ih2 _ (by omega)).2 _ _ _ rfl (by rw [ya hat.g];exact ⟨_,_,rfl,hx,rfl⟩) (yS (hox.mono (by omega) (oE _)))⟩
  ·repeat' first|with_reducible intro _|simp only[hat.lt,hat.w,oH,Y1,Y2,Y3,Y4]|with_reducible refine X ?_ ?_|refine⟨_,_,_,rfl,?_⟩|refine⟨_,rfl,?_⟩|refine And.intro (by first|omega|trivial|(show _=_;rfl)|(with_reducible constructor)<;>first|omega|trivial|rfl) ?_|refine (ih x hat.m _ hat.r (by omega)) _ _ ?_|fail
   rename_i N2 hN2 d' N3 hN3 hx hox hle hbel
   have hrl:=hr.len
   have hli:(l.take i).length=i:=by rw [o0];omega
   refine ⟨by unfold zA;simp only [oI,nY];omega,fun c2=>?_⟩
   exact (ih2 _ (by omega)).2 _ _ _ rfl (by rw [ya hat.g];exact hr.snoc hx) (v4 (ho.mono (oE _) hN2) (yS hox) (by omega) hN3)
theorem zMe:zBc 209 [] tInt:=fun N Q hQ=>zHe N Q fun N' hN'=>hQ _ _ hN' (xw _) yB
theorem zGu:zBc 210 [] tBool:=fun N Q hQ=>zGs N Q fun N' hN'=>hQ _ _ hN' (xw _) yB
theorem zNE (t u:Ty) (d e:D) (hd:t.Is d) (he:u.Is e) (hct:t.cnt<=1073741824) (hcu:u.cnt<=1073741824):zBc 213 [.dg 2 d,.dg 2 e] (vP t u):=fun N Q hQ=>by
 refine zIL N _ _ Q fun _ _=>?_
 repeat' first|with_reducible intro _|simp only[Y1,Y2,Y3,Y4]|with_reducible refine X ?_ ?_|refine⟨_,_,_,rfl,?_⟩|refine⟨_,rfl,?_⟩|refine And.intro (by first|omega|trivial|(show _=_;rfl)|(with_reducible constructor)<;>first|omega|trivial|rfl) ?_|refine (zJd t d hd hct) _ _ ?_|refine (zJd u e he hcu) _ _ ?_|fail
 rename_i N1 hN1 d1 N2 hN2 h1 o1 hl1 b1 N3 hN3 d2 N4 hN4 h2 o2 hl2 b2 a' N5 hN5 hf N6 hN6
 exact hQ _ _ (by omega) (Ty.is_mk.2 ⟨_,_,_,rfl,by simp,_,_,rfl,h1,_,_,rfl,h2,rfl⟩)
  (zCa (xg (yS ((uL (v4 ((yS o1).mono hN1 hN3) (yS o2) (by omega) hN4) hf (by omega)).mono (oE _) hN6))))
theorem zJ4 (t:Ty) (d:D) (hd:t.Is d) (hct:t.cnt<=1073741824):zBc 244 [.dg 2 d] (rr t):=fun N Q hQ=>by
 refine zGe N _ Q fun _=>?_
 repeat' first|with_reducible intro _|simp only[Y1,Y2,Y3,Y4]|with_reducible refine X ?_ ?_|refine⟨_,_,_,rfl,?_⟩|refine⟨_,rfl,?_⟩|refine And.intro (by first|omega|trivial|(show _=_;rfl)|(with_reducible constructor)<;>first|omega|trivial|rfl) ?_|refine (zJd t d hd hct) _ _ ?_|fail
 rename_i N1 hN1 d1 N2 hN2 h1 o1 hl1 b1 a' N5 hN5 hf N6 hN6
 exact hQ _ _ (by omega) (Ty.is_mk.2 ⟨_,_,_,rfl,by simp,_,_,rfl,h1,rfl⟩)
  (zCa (xg (yS ((uL ((yS o1).mono hN1 (oE _)) hf (by omega)).mono (oE _) hN6))))
/-- the part of a code type -/
def zBP (t:Ty):Ty:=if t.k=4 then t.as.getD 0 tZero else tZero
theorem zKQ (t:Ty) (d:D) (hd:t.Is d) (hv:t.valid=true\/t=tZero):zBc 245 [.dg 2 d] (zBP t):=fun N Q hQ=>by
 cases t with
 | mk k l=>
 obtain ⟨a,es,c,rfl,hlen,hes⟩:=Ty.is_mk.1 hd
 refine zGU N _ Q fun _=>?_
 by_cases hk:k=4
 ·subst hk
  rcases hv with hv | hv
  ·have hf:=Ty.form_len hv
   have hcn:=Ty.valid_cnt hv
   have hl1:(l.length:Int)=1:=by simpa [rn] using hf
   obtain ⟨u,rfl⟩:=zBQ (l:=l) (by omega)
   obtain ⟨x0,_,rfl,hx0,rfl⟩:=hes
   simp only [Ty.cnt,zG] at hcn
   have e:zBP (.mk 4 [u])=u:=rfl
   rw [e] at hQ
   repeat' first|with_reducible intro _|simp only[oJ,oN,Y1,Y2,Y3,Y4]|with_reducible refine X ?_ ?_|refine⟨_,_,_,rfl,?_⟩|refine⟨_,rfl,?_⟩|refine And.intro (by first|omega|trivial|(show _=_;rfl)|(with_reducible constructor)<;>first|omega|trivial|rfl) ?_|refine (zJd u _ hx0 (by omega)) _ _ ?_|fail
   all_goals first | (exfalso;omega) | skip
   rename_i N1 hN1 d1 N2 hN2 h1 o1 hl1 b1 N3 hN3
   exact hQ _ _ (by omega) h1 (o1.mono (by omega) (by omega))
  ·cases hv
 ·have e:zBP (.mk k l)=tZero:=by unfold zBP;exact if_neg hk
  rw [e] at hQ
  repeat' first|with_reducible intro _|simp only[Y1,Y2,Y3,Y4]|with_reducible refine X ?_ ?_|refine⟨_,_,_,rfl,?_⟩|refine⟨_,rfl,?_⟩|refine And.intro (by first|omega|trivial|(show _=_;rfl)|(with_reducible constructor)<;>first|omega|trivial|rfl) ?_|fail
  all_goals first | (exfalso;omega) | skip
  exact hQ _ _ (by omega) ym yB
def zAp (u:Ty):List Ty->Bool
 | []=>true
 | t::ts=>tK t u&&zAp u ts
def qq (s:ByteArray):Ty:=if s=bytes [61] then tInt else if s=bytes [60] then tInt else if s=bytes [38] then tBool else if s=bytes [124] then tBool else if s=bytes [33] then tBool else tInt
def zBT (s:ByteArray):Ty:=if s=bytes [61] then tBool else if s=bytes [60] then tBool else if s=bytes [38] then tBool else if s=bytes [124] then tBool else if s=bytes [33] then tBool else tInt
theorem zOb {ts:List Ty} {es:List D} (h:All2 Ty.Is ts es) (hlen:es.length<=4611686018427387904) (a:Option Addr) (c:Nat) (s:ByteArray) :
  zBc 211 [.str s,.sv a 2 es c] (if zAp (qq s) ts then zBT s else tZero):=fun N Q hQ=>by
 have key:∀ (u v:Ty) (d e:D) (N0 N1:Nat),u.Is d->v.Is e->Own N N1 e->N<=N1->qq s=u->zBT s=v->zK Q N a es c es.length (0:Nat) 0 none [] 0 d e N1:=by
  intro u v d e N0 N1 hd he ho hN1 hu hv
  subst hu hv
  refine up h hlen (fun i xs=>∀ (N':Nat),N1<=N'->zAp (qq s) xs=zAp (qq s) ts->zK Q N a es c es.length i 0 none [] 0 d e N') ?_ ?_ N1 (oE _) rfl
  ·intro i hlt _ N' hN' hk
   refine tz _ _ _ _ _ _ _ _ _ _ _ _ _ _ ?_
   rw [<-hk] at hQ
   repeat' first|with_reducible intro _|simp only[hlt,Y1,Y2,Y3,Y4]|with_reducible refine X ?_ ?_|refine⟨_,_,_,rfl,?_⟩|refine⟨_,rfl,?_⟩|refine And.intro (by first|omega|trivial|(show _=_;rfl)|(with_reducible constructor)<;>first|omega|trivial|rfl) ?_|fail
   exact hQ _ _ (by omega) he (ho.mono (oE _) (by omega))
  ·intro i x xs hat _ ih2 N' hN' hk
   have hb:=hat.b
   refine tz _ _ _ _ _ _ _ _ _ _ _ _ _ _ ?_
   repeat' first|with_reducible intro _|simp only[hat.lt,hat.w,oH,Y1,Y2,Y3,Y4]|with_reducible refine X ?_ ?_|refine⟨_,_,_,rfl,?_⟩|refine⟨_,rfl,?_⟩|refine And.intro (by first|omega|trivial|(show _=_;rfl)|(with_reducible constructor)<;>first|omega|trivial|rfl) ?_|refine (zT x _ _ _ hat.r hd) _ _ ?_|fail
   ·rename_i hne _ _
    rw [<-hk,zAp,hne] at hQ
    exact hQ _ _ (by omega) ym yB
   ·rename_i hne
    exact ih2 _ (by omega) (by rw [<-hk,zAp,hne,Bool.true_and])
 refine zHA N s a es c Q fun _=>?_
 repeat' first|with_reducible intro _|simp only[Y1,Y2,Y3,Y4]|with_reducible refine X ?_ ?_|refine⟨_,_,_,rfl,?_⟩|refine⟨_,rfl,?_⟩|refine And.intro (by first|omega|trivial|(show _=_;rfl)|(with_reducible constructor)<;>first|omega|trivial|rfl) ?_|refine zMe _ _ ?_|refine zGu _ _ ?_|fail
 all_goals first
  | exact key tInt tBool _ _ 0 _ (by assumption) (by assumption) (Own.mono (by assumption) (by omega) (by omega)) (by omega) (by unfold qq;(repeat' split)<;>first | rfl | contradiction) (by unfold zBT;(repeat' split)<;>first | rfl | contradiction)
  | exact key tBool tBool _ _ 0 _ (by assumption) (by assumption) (Own.mono (by assumption) (by omega) (by omega)) (by omega) (by unfold qq;(repeat' split)<;>first | rfl | contradiction) (by unfold zBT;(repeat' split)<;>first | rfl | contradiction)
  | exact key tInt tInt _ _ 0 _ (by assumption) (by assumption) (Own.mono (by assumption) (by omega) (by omega)) (by omega) (by unfold qq;(repeat' split)<;>first | rfl | contradiction) (by unfold zBT;(repeat' split)<;>first | rfl | contradiction)
theorem zO3 {f:FuncId} {rs:List Sh} {args:List PV} {N z c:Nat} {Q:QT rs} {es:List D} (hc:yg prog f=true) (hm:PV.sv none z es c∈args) (hne:es≠[]):ACalls prog f rs args N Q:=
 ⟨hc,fun av w0 _ _ hok=>by
  have h:=(hok _ hm).1.1
  cases h
  exact absurd rfl hne⟩
theorem zPX {g:List Tg} {es:List D} (h:Ctx g es) (hg:g.length<=1073741824) (a:Option Addr) (c:Nat) (N:Nat) (Q:QT [.row 65 4]) (hQ:∀ c' N',N<=N'->Q es c' N'):ACalls prog 243 [.row 65 4] [.sv a 4 es c] N Q:=by
 have hl:=h.all.len
 have hb0:zA [] es 56:=by unfold zA;simp only [oT];omega
 have main:(a=none->es=[])->ACalls prog 243 [.row 65 4] [.sv a 4 es c] N Q:=fun hn=>by
  refine si N a es c Q fun _=>?_
  repeat' first|with_reducible intro _|simp only[Y1,Y2,Y3,Y4]|with_reducible refine X ?_ ?_|refine⟨_,_,_,rfl,?_⟩|refine⟨_,rfl,?_⟩|refine And.intro (by first|omega|trivial|(show _=_;rfl)|(with_reducible constructor)<;>first|omega|trivial|rfl) ?_|fail
  ·rename_i hi N1 hN1
   have:es=[]:=hn (by simpa using hi)
   subst this
   exact hQ _ _ hN1
  ·simp only [oT]
   exact hQ _ _ (by omega)
 cases a with
 | some ad=>exact main (by simp)
 | none=>
   by_cases hne:es=[]
   ·exact main fun _=>hne
   ·exact zO3 (z:=4) (c:=c) (es:=es) (by kernel_rfl) (by simp) hne
theorem qa {a:Option Addr} {z c:Nat} {es:List D}:∀ x∈(D.sl a z es c).foot,x∈zD es\/∃ ad,a=some ad/\x=ad.block:=by
 intro x hx
 cases a with
 | none=>simp only [D.foot] at hx;exact .inl hx
 | some ad=>
   simp only [D.foot] at hx
   split at hx
   ·simp at hx
   ·rcases oG.1 hx with rfl | hx
    ·exact .inr ⟨ad,rfl,rfl⟩
    ·exact .inl hx
theorem zOl {a:Option Addr} {z c:Nat} {es:List D}:∀ x∈zD es,x∈(D.sl a z es c).foot:=by
 intro x hx
 cases a with
 | none=>simpa only [D.foot] using hx
 | some ad=>
   simp only [D.foot]
   split
   ·rename_i h
    cases es with
    | nil=>simp [zD] at hx
    | cons=>simp at h
   ·exact oi _ hx
theorem zM5 {g h:List Tg} {es fs:List D} (hg:Ctx g es) (hh:Ctx h fs) (hgl:g.length+h.length<=1073741824) (a b:Option Addr) (c e:Nat) (N:Nat) (Q:QT [.sl 4])
  (hQ:∀ a' es' c' N',N<=N'->Ctx (g++h) es'->(∀ x∈(D.sl a' 4 es' c').foot,x∈zD es\/x∈zD fs\/N<=x)->Q a' es' c' N'):ACalls prog 212 [.sl 4] [.sv a 4 es c,.sv b 4 fs e] N Q:=by
 have hl:=hg.all.len
 have hl2:=hh.all.len
 have hb:zA es fs 56:=by unfold zA;simp only [oI];omega
 refine zJW N a es c b fs e Q fun _ _=>?_
 repeat' first|with_reducible intro _|simp only[Y1,Y2,Y3,Y4]|with_reducible refine X ?_ ?_|refine⟨_,_,_,rfl,?_⟩|refine⟨_,rfl,?_⟩|refine And.intro (by first|omega|trivial|(show _=_;rfl)|(with_reducible constructor)<;>first|omega|trivial|rfl) ?_|refine (zPX hg (by omega) _ _) _ _ ?_|fail
 rename_i a' N3 hN3 hf N4 hN4
 refine hQ _ _ _ _ (by omega) ⟨by simp;omega,hg.all.app hh.all⟩ fun x hx=>?_
 rcases qa x hx with h1 | ⟨ad,rfl,rfl⟩
 ·rw [zF] at h1
  rcases oM.1 h1 with h1 | h1
  ·exact .inl h1
  ·exact .inr (.inl h1)
 ·have:=hf.lo ad rfl
  exact .inr (.inr (by omega))
theorem zMQ {g:List Tg} {es:List D} (h:Ctx g es) (hg:g.length<=1073741824) (hc:∀ x∈g,x.ty.cnt<=1073741824) (a:Option Addr) (c:Nat) (n:Int) :
  ∀ (N:Nat) (Q:QT [.sl 4]),(∀ a' es' c' N',N<=N'->Ctx (um g n) es'->Q a' es' c' N')->ACalls prog 37 [.sl 4] [.sv a 4 es c,.int .i64 n] N Q:=fun N Q hQ=>by
 have hl:=h.all.len
 refine zEI N a es c n Q fun _=>?_
 have key:=up h.all h.len (fun i xs=>∀ (r:List D) (m q:Nat) (N':Nat) (done:List Tg),N<=N'->m=r.length->All2 Tg.Is done r->done.length<=i->done++uu g n xs i=um g n->z5 Q N a es c n m q a es c es.length i r q N') ?_ ?_
 ·exact key [] 0 0 N [] (oE _) rfl rfl (oE _) rfl
 ·intro i hlt hi r m q N' done hN' hm hr hdl hd
  refine tk _ _ _ _ _ _ _ _ _ _ _ _ _ _ _ _ ?_
  repeat' first|with_reducible intro _|simp only[hlt,Y1,Y2,Y3,Y4]|with_reducible refine X ?_ ?_|refine⟨_,_,_,rfl,?_⟩|refine⟨_,rfl,?_⟩|refine And.intro (by first|omega|trivial|(show _=_;rfl)|(with_reducible constructor)<;>first|omega|trivial|rfl) ?_|fail
  refine hQ _ _ _ _ (by omega) ⟨by have:=hr.len;omega,?_⟩
  simp only [uu,nH] at hd
  rwa [<-hd]
 ·intro i x xs hat _ ih2 r m q N' done hN' hm hr hdl hd
  have hb:=hat.b
  have hrl:=hr.len
  obtain ⟨t0,t1,he,hs,ht⟩:=hat.r
  simp only [uu] at hd
  refine tk _ _ _ _ _ _ _ _ _ _ _ _ _ _ _ _ ?_
  repeat' first|with_reducible intro _|simp only[hat.lt,hat.w,oH,he,Y1,Y2,Y3,Y4]|with_reducible refine X ?_ ?_|refine⟨_,_,_,rfl,?_⟩|refine⟨_,rfl,?_⟩|refine And.intro (by first|omega|trivial|(show _=_;rfl)|(with_reducible constructor)<;>first|omega|trivial|rfl) ?_|refine (tR _ _ ht) _ _ ?_|refine (zAg h a c _) _ _ ?_|refine (zJd _ _ ht (hc x hat.m)) _ _ ?_|fail
  ·rename_i N2 hN2 x' N3 hN3 hx ho _ _
   have hin:zDl g n x i=true:=by simp [zDl, *]
   rw [if_pos hin] at hd
   refine ⟨by unfold zA;simp only [oI,nY];omega,fun c2=>ih2 _ _ _ _ (done++[x]) (by omega) rfl (hr.snoc ⟨_,_,rfl,hs,Ty.is_cells hx⟩) (by simp;omega) (by simpa using hd)⟩
  all_goals (refine ih2 _ _ _ _ done (by omega) hm hr (by omega) ?_;rw [<-hd,if_neg (by simp [zDl, *])])
theorem vv {bs:List (Option Addr)} {N N':Nat} {d:D} (hb:vw N bs) (ho:Own N N' d):Off bs d:=fun a ha ad had hm=>by
 have:=hb a ha ad had
 have:=ho.lo _ hm
 omega
theorem zFt {a x b:Option Addr} {es fs gs:List D} {c c' N:Nat} (h1:ApA a fs) (h2:Off [a] (.sl x 4 es c)) (h3:vw N [a]) (h4:∀ y∈(D.sl b 4 gs c').foot,y∈zD es\/y∈zD fs\/N<=y):Off [a] (.sl b 4 gs c'):=fun a' ha ad had hm=>by
 have e:=o5.1 ha
 subst e
 rcases h4 _ hm with h | h | h
 ·exact h2 a' ha ad had (zOl _ h)
 ·obtain ⟨d,hd,hx⟩:=zE.1 h
  exact h1 ad had d hd hx
 ·have:=h3 a' ha ad had
  omega
theorem Ty.valid_k {t:Ty} (h:t.valid=true):t.k=1/\t.as=[]\/t.k=2/\t.as=[]\/(t.k=3/\∃ a b,t.as=[a,b])\/(t.k=4/\∃ a,t.as=[a]):=by
 cases t with
 | mk k l=>
   have hf:=Ty.form_len h
   simp only [Ty.k,Ty.as]
   unfold rn at hf
   split at hf
   ·rename_i hk
    have hl:l=[]:=by simpa using hf
    rcases hk with hk | hk
    ·exact .inl ⟨hk,hl⟩
    ·exact .inr (.inl ⟨hk,hl⟩)
   ·split at hf
    ·rename_i hk;exact .inr (.inr (.inl ⟨hk,zJw (by simp at hf;omega)⟩))
    ·split at hf
     ·rename_i hk;exact .inr (.inr (.inr ⟨hk,zBQ (by simp at hf;omega)⟩))
     ·cases hf
theorem Ty.valid_nz {t:Ty} (h:t.valid=true):t.k≠0:=by
 rcases Ty.valid_k h with h | h | h | h<;>omega
theorem zM0 {t:Ty} (h:t.valid=true):tK t tZero=false/\tK tZero t=false:=by
 have hk:=Ty.valid_nz h
 cases t with
 | mk k l=>
   have hk:k≠0:=hk
   have hk2:0≠k:=fun h=>hk h.symm
   constructor<;>simp [tK,tZero,hk,hk2]
theorem zMW {t:Ty} (h:t.valid=true):tK t tBool=decide (t.k=2):=by
 have hk:=Ty.valid_k h
 cases t with
 | mk k l=>
   simp only [Ty.k,Ty.as] at hk
   rw [nc,rU,nI]
   simp only [tBool,Ty.k,Ty.mk.injEq]
   rcases hk with ⟨hk,hl⟩ | ⟨hk,hl⟩ | ⟨hk,_⟩ | ⟨hk,_⟩<;>simp [hk]
   exact hl
theorem zQs {t:Ty} (h:t.valid=true):tK t tInt=decide (t.k=1):=by
 have hk:=Ty.valid_k h
 cases t with
 | mk k l=>
   simp only [Ty.k,Ty.as] at hk
   rw [nc,rU,nI]
   simp only [tInt,Ty.k,Ty.mk.injEq]
   rcases hk with ⟨hk,hl⟩ | ⟨hk,hl⟩ | ⟨hk,_⟩ | ⟨hk,_⟩<;>simp [hk]
   exact hl
/-- the type of a term, the zero type for none -/
def tyZ (e:Tm) (g:List Tg) (n:Int):Ty:=(e.type g n).getD tZero
theorem zIt (e:Tm) (g:List Tg) (n:Int):(tyZ e g n).cnt<=30:=zFb e g n
theorem tI (e:Tm) (g:List Tg) (n:Int):(e.type g n=none/\tyZ e g n=tZero)\/(e.type g n=some (tyZ e g n)/\(tyZ e g n).valid=true):=by
 cases h:e.type g n with
 | none=>exact .inl ⟨rfl,by simp [tyZ,h]⟩
 | some t=>exact .inr ⟨by simp [tyZ,h],by simpa [tyZ,h] using Tm.type_valid h⟩
def IHi (l:List Tm):Prop:=∀ x∈l,∀ d,x.Is d->∀ g es a c n,Pre g x n->Ctx g es->zBc 95 [.sv a 4 es c,.dg 9 d,.int .i64 n] (tyZ x g n)
theorem zCL {k:Int} {nm ot:ByteArray} {m n:Int} {ty re:Ty} {l:List Tm} {t0 t1 r0 r1:D} {es1:List D} {a1 a:Option Addr} {c1 c:Nat} {g:List Tg} {es:List D} (hk:zx k n=n) (ih:IHi l) (h0:All2 Tm.Is l es1) (hl1:es1.length<=4611686018427387904)
  (pre:Pre g (.mk k nm ot m ty re l) n) (ctx:Ctx g es) (i:Nat) {x:Tm} (hx:l[i]?=some x) (b1 b2 b3:Addr) :
  zBc 208 [.int .i64 i,.pd b1 0 (.sl a 4 es c),.pd b2 9 (.ag [.lit (.int .i64 k),.lit (.string nm),.lit (.string ot),.lit (.int .i64 m),t0,t1,r0,r1,.sl a1 9 es1 c1]),.pd b3 0 (.lit (.int .i64 n))] (tyZ x g n):=fun N Q hQ=>by
 have hil:=(oB.1 hx).1
 have hln:=h0.len
 have hm:=oC hx
 have hp:=pre.sub hm (g':=g) (by omega) pre.ty
 rw [hk] at hp
 refine ro N i b1 _ b2 _ b3 _ Q ?_
 refine ⟨_,_,_,rfl,_,_,_,rfl,⟨by omega,by omega⟩,_,rfl,?_⟩
 repeat' first|with_reducible intro _|simp only[oH,Y1,Y2,Y3,Y4]|with_reducible refine X ?_ ?_|refine⟨_,_,_,rfl,?_⟩|refine⟨_,rfl,?_⟩|refine And.intro (by first|omega|trivial|(show _=_;rfl)|(with_reducible constructor)<;>first|omega|trivial|rfl) ?_|refine (ih x hm _ (h0.get hx) g _ _ _ n hp ctx) _ _ ?_|fail
 exact hQ _ _ (by omega) (by assumption) (Own.mono (by assumption) (by omega) (by omega))
theorem zSO {e0 e1 e2:Tm} {g:List Tg} {n:Int} {s:ByteArray}:((match zM [e0,e1,e2] g n with | some ts=>yd 5 s ts | none=>none):Option Ty).getD tZero =
  if tK (tyZ e0 g n) tBool&&tK (tyZ e1 g n) (tyZ e2 g n) then tyZ e1 g n else tZero:=by
 rcases tI e0 g n with ⟨h0,z0⟩ | ⟨h0,v0⟩
 ·simp only [zM,h0,z0];rfl
 ·rcases tI e1 g n with ⟨h1,z1⟩ | ⟨h1,v1⟩
  ·simp only [zM,h0,h1,z1];split<;>rfl
  ·rcases tI e2 g n with ⟨h2,z2⟩ | ⟨h2,v2⟩
   ·simp only [zM,h0,h1,h2,z2,(zM0 v1).1,mp];rfl
   ·simp only [zM,h0,h1,h2]
    rw [zMW v0]
    show (yd 5 s [tyZ e0 g n,tyZ e1 g n,tyZ e2 g n]).getD tZero=_
    unfold yd
    rw [if_neg (by omega),if_pos rfl]
    simp only [mC,me]
    by_cases hc:(tyZ e0 g n).k=2/\tK (tyZ e1 g n) (tyZ e2 g n)=true
    ·rw [if_pos hc,if_pos (by simp [hc.1,hc.2])];rfl
    ·rw [if_neg hc,if_neg (by simpa using hc)];rfl
theorem zRY {e0 e1:Tm} {g:List Tg} {n:Int} {s:ByteArray}:((match zM [e0,e1] g n with | some ts=>yd 7 s ts | none=>none):Option Ty).getD tZero =
  if (tyZ e0 g n).k=3/\tK ((tyZ e0 g n).as.getD 0 tZero) (tyZ e1 g n) then (tyZ e0 g n).as.getD 1 tZero else tZero:=by
 rcases tI e0 g n with ⟨h0,z0⟩ | ⟨h0,v0⟩
 ·simp only [zM,h0,z0];rfl
 ·rcases tI e1 g n with ⟨h1,z1⟩ | ⟨h1,v1⟩
  ·simp only [zM,h0,h1,z1]
   rw [if_neg]
   ·rfl
   ·rintro ⟨hk,he⟩
    rcases Ty.valid_k v0 with h | h | ⟨_,a,b,hab⟩ | h
    ·omega
    ·omega
    ·rw [hab,rU] at he
     simp only [mC] at he
     subst he
     have:(tyZ e0 g n).form=true:=by simp only [Ty.valid,oK] at v0;exact v0.2
     cases hz:tyZ e0 g n with
     | mk k l=>
       rw [hz] at hab this
       simp only [Ty.as] at hab
       subst hab
       simp [Ty.form,uh,rn,tZero] at this
    ·omega
  ·simp only [zM,h0,h1]
   show (yd 7 s [tyZ e0 g n,tyZ e1 g n]).getD tZero=_
   unfold yd
   rw [if_neg (by omega),if_neg (by omega)]
   simp only [mC,me]
   split<;>rfl
theorem zSG {l:List Tm} {g:List Tg} {n:Int} {s:ByteArray} (hs:0<zHK s):((match zM l g n with | some ts=>yd 4 s ts | none=>none):Option Ty).getD tZero =
  if zAp (qq s) (l.map fun e=>tyZ e g n) then zBT s else tZero:=by
 have h2:zBT s=zBd s/\(qq s=tInt/\zHg s=1\/qq s=tBool/\zHg s=2):=by
  unfold zHK at hs
  (repeat' split at hs)<;>first | omega | (subst_vars;exact ⟨rfl,.inl ⟨rfl,rfl⟩⟩) | (subst_vars;exact ⟨rfl,.inr ⟨rfl,rfl⟩⟩) | skip
 obtain ⟨h3,h4⟩:=h2
 have key:∀ l:List Tm,(∀ ts,zM l g n=some ts->zAp (qq s) (l.map fun e=>tyZ e g n)=zOi (zHg s) ts)/\(zM l g n=none->zAp (qq s) (l.map fun e=>tyZ e g n)=false):=by
  intro l
  induction l with
  | nil=>exact ⟨fun ts h=>by simp [zM] at h;subst h;rfl,fun h=>by simp [zM] at h⟩
  | cons e l ih=>
    rcases tI e g n with ⟨h0,z0⟩ | ⟨h0,v0⟩
    ·have:tK tZero (qq s)=false:=by rcases h4 with ⟨h4,_⟩ | ⟨h4,_⟩<;>rw [h4]<;>rfl
     refine ⟨fun ts h=>by simp [zM,h0] at h,fun _=>by simp [zAp,z0,this]⟩
    ·have hk:tK (tyZ e g n) (qq s)=decide ((tyZ e g n).k=zHg s):=by
      rcases h4 with ⟨h4,h5⟩ | ⟨h4,h5⟩<;>rw [h4,h5]
      ·exact zQs v0
      ·exact zMW v0
     cases hl:zM l g n with
     | none=>exact ⟨fun ts h=>by simp [zM,h0,hl] at h,fun _=>by simp [zAp,ih.2 hl]⟩
     | some us=>
       refine ⟨fun ts h=>?_,fun h=>by simp [zM,h0,hl] at h⟩
       simp only [zM,h0,hl,oq] at h
       subst h
       simp only [o4,zAp,zOi,hk,ih.1 us hl]
 cases hl:zM l g n with
 | none=>rw [(key l).2 hl];rfl
 | some ts=>
   rw [(key l).1 ts hl,h3]
   show (yd 4 s ts).getD tZero=_
   unfold yd zPC
   rw [if_pos rfl]
   split<;>rfl
/-- a node's cells -/
abbrev zDw (k:Int) (nm ot:ByteArray) (m:Int) (t0 t1 r0 r1:D) (a:Option Addr) (es:List D) (c:Nat):D:=.ag [.lit (.int .i64 k),.lit (.string nm),.lit (.string ot),.lit (.int .i64 m),t0,t1,r0,r1,.sl a 9 es c]
theorem f5 {nm ot:ByteArray} {m n:Int} {ty re:Ty} {l:List Tm} {t0 t1 r0 r1:D} {es1:List D} {a1 a:Option Addr} {c1 c:Nat} {g:List Tg} {es:List D} (ih:IHi l) (hh:Tm.Hd nm ot ty re t0 t1 r0 r1) (h0:All2 Tm.Is l es1) (hl1:es1.length<=4611686018427387904)
  (pre:Pre g (.mk 5 nm ot m ty re l) n) (ctx:Ctx g es) :
  zBc 165 [.sv a 4 es c,.dg 9 (zDw 5 nm ot m t0 t1 r0 r1 a1 es1 c1),.int .i64 n] ((Tm.raw (.mk 5 nm ot m ty re l) g n).getD tZero):=fun N Q hQ=>by
 have hl : l.length = 3 := by have:(l.length:Int)=3:=(zk pre.ok).ar
                              omega
 obtain ⟨e0,e1,e2,rfl⟩:∃ a b c,l=[a,b,c]:=by
  match l,hl with
  | [a,b,c],_=>exact ⟨a,b,c,rfl⟩
 have hraw:(Tm.raw (.mk 5 nm ot m ty re [e0,e1,e2]) g n).getD tZero=if tK (tyZ e0 g n) tBool&&tK (tyZ e1 g n) (tyZ e2 g n) then tyZ e1 g n else tZero:=by
  rw [<-zSO (s:=nm)]
  simp only [Tm.raw]
  rfl
 rw [hraw] at hQ
 have hn:zx 5 n=n:=by simp [zx]
 refine zP N a es c _ n Q fun _ _=>⟨_,rfl,?_⟩
 repeat' first|with_reducible intro _|simp only[Y1,Y2,Y3,Y4]|with_reducible refine X ?_ ?_|refine⟨_,_,_,rfl,?_⟩|refine⟨_,rfl,?_⟩|refine And.intro (by first|omega|trivial|(show _=_;rfl)|(with_reducible constructor)<;>first|omega|trivial|rfl) ?_|refine (zCL hn ih h0 hl1 pre ctx 1 rfl _ _ _) _ _ ?_|refine (zCL hn ih h0 hl1 pre ctx 2 rfl _ _ _) _ _ ?_|refine (zCL hn ih h0 hl1 pre ctx 0 rfl _ _ _) _ _ ?_|refine zGu _ _ ?_|refine (zT (tyZ e0 g n) tBool _ _ (by assumption) (by assumption)) _ _ ?_|refine (zT (tyZ e1 g n) (tyZ e2 g n) _ _ (by assumption) (by assumption)) _ _ ?_|(((with_reducible refine And.intro ?_ ?_);· exact vv (by assumption) (by assumption)))|fail
 all_goals first | (exfalso;omega) | skip
 all_goals first
  | exact hQ _ _ (by omega) (by rw [if_pos (by simp [*])];assumption) (Own.mono (by assumption) (by omega) (by omega))
  | exact hQ _ _ (by omega) (by rw [if_neg (by simp [*])];exact ym) yB
/-- the type of a call -/
def zMV (z0 z1:Ty):Ty:=if z0.k=3/\tK (z0.as.getD 0 tZero) z1 then z0.as.getD 1 tZero else tZero
theorem f7 {nm ot:ByteArray} {m n:Int} {ty re:Ty} {l:List Tm} {t0 t1 r0 r1:D} {es1:List D} {a1 a:Option Addr} {c1 c:Nat} {g:List Tg} {es:List D} (ih:IHi l) (hh:Tm.Hd nm ot ty re t0 t1 r0 r1) (h0:All2 Tm.Is l es1) (hl1:es1.length<=4611686018427387904)
  (pre:Pre g (.mk 7 nm ot m ty re l) n) (ctx:Ctx g es) :
  zBc 165 [.sv a 4 es c,.dg 9 (zDw 7 nm ot m t0 t1 r0 r1 a1 es1 c1),.int .i64 n] ((Tm.raw (.mk 7 nm ot m ty re l) g n).getD tZero):=fun N Q hQ=>by
 have hl : l.length = 2 := by have:(l.length:Int)=2:=(zk pre.ok).ar
                              omega
 obtain ⟨e0,e1,rfl⟩:=zJw hl
 have hraw:(Tm.raw (.mk 7 nm ot m ty re [e0,e1]) g n).getD tZero=zMV (tyZ e0 g n) (tyZ e1 g n):=by
  unfold zMV
  rw [<-zRY (s:=nm)]
  simp only [Tm.raw]
  rfl
 rw [hraw] at hQ
 have hn:zx 7 n=n:=by simp [zx]
 refine zP N a es c _ n Q fun _ _=>⟨_,rfl,?_⟩
 repeat' first|with_reducible intro _|simp only[Y1,Y2,Y3,Y4]|with_reducible refine X ?_ ?_|refine⟨_,_,_,rfl,?_⟩|refine⟨_,rfl,?_⟩|refine And.intro (by first|omega|trivial|(show _=_;rfl)|(with_reducible constructor)<;>first|omega|trivial|rfl) ?_|refine (zCL hn ih h0 hl1 pre ctx 0 rfl _ _ _) _ _ ?_|refine (zCL hn ih h0 hl1 pre ctx 1 rfl _ _ _) _ _ ?_|(((with_reducible refine And.intro ?_ ?_);· exact vv (by assumption) (by assumption)))|fail
 all_goals first | (exfalso;omega) | skip
 rename_i hd0 ho0 _ _ _ _ _ _ _ _ _ _ _ _ _ _ hd1 ho1 _ _
 have hv:=tI e0 g n
 generalize tyZ e0 g n=z0 at *
 cases z0 with
 | mk k0 l0=>
 obtain ⟨a2,es2,c2,rfl,hl2,he2⟩:=Ty.is_mk.1 hd0
 by_cases hk:k0=3
 ·subst hk
  have hv:(Ty.mk 3 l0).valid=true:=by
   rcases hv with ⟨_,hv⟩ | ⟨_,hv⟩
   ·cases hv
   ·exact hv
  have hcn:=Ty.valid_cnt hv
  rcases Ty.valid_k hv with ⟨hk,_⟩ | ⟨hk,_⟩ | ⟨_,u,v,huv⟩ | ⟨hk,_⟩
  ·cases hk
  ·cases hk
  ·simp only [Ty.as] at huv
   subst huv
   obtain ⟨x0,_,rfl,hx0,x1,_,rfl,hx1,rfl⟩:=he2
   simp only [Ty.cnt,zG] at hcn
   have q1:tK u (tyZ e1 g n)=true->zMV (.mk 3 [u,v]) (tyZ e1 g n)=v:=fun h=>if_pos ⟨rfl,h⟩
   have q2:tK u (tyZ e1 g n)=false->zMV (.mk 3 [u,v]) (tyZ e1 g n)=tZero:=fun h=>if_neg fun hc=>by rw [show (Ty.mk 3 [u,v]).as.getD 0 tZero=u from rfl,h] at hc;cases hc.2
   repeat' first|with_reducible intro _|simp only[oJ,oN,Y1,Y2,Y3,Y4]|with_reducible refine X ?_ ?_|refine⟨_,_,_,rfl,?_⟩|refine⟨_,rfl,?_⟩|refine And.intro (by first|omega|trivial|(show _=_;rfl)|(with_reducible constructor)<;>first|omega|trivial|rfl) ?_|refine (zT u (tyZ e1 g n) _ _ hx0 hd1) _ _ ?_|refine (zJd v _ hx1 (by omega)) _ _ ?_|fail
   all_goals first | (exfalso;omega) | skip
   all_goals first
    | exact hQ _ _ (by omega) (by rw [q1 (by assumption)];assumption) (Own.mono (by assumption) (by omega) (by omega))
    | exact hQ _ _ (by omega) (by rw [q2 (by assumption)];exact ym) yB
  ·cases hk
 ·repeat' first|with_reducible intro _|simp only[Y1,Y2,Y3,Y4]|with_reducible refine X ?_ ?_|refine⟨_,_,_,rfl,?_⟩|refine⟨_,rfl,?_⟩|refine And.intro (by first|omega|trivial|(show _=_;rfl)|(with_reducible constructor)<;>first|omega|trivial|rfl) ?_|fail
  all_goals first | (exfalso;omega) | skip
  exact hQ _ _ (by omega) (by rw [show zMV (.mk k0 l0) (tyZ e1 g n)=tZero from if_neg fun h=>hk h.1];exact ym) yB
/-- the type of a function of this parameter -/
def zOn (t z:Ty):Ty:=if z.k=0 then tZero else vP t z
theorem f6 {nm ot:ByteArray} {m n:Int} {ty re:Ty} {l:List Tm} {t0 t1 r0 r1:D} {es1:List D} {a1 a:Option Addr} {c1 c:Nat} {g:List Tg} {es:List D} (ih:IHi l) (hh:Tm.Hd nm ot ty re t0 t1 r0 r1) (h0:All2 Tm.Is l es1) (hl1:es1.length<=4611686018427387904)
  (pre:Pre g (.mk 6 nm ot m ty re l) n) (ctx:Ctx g es) :
  zBc 165 [.sv a 4 es c,.dg 9 (zDw 6 nm ot m t0 t1 r0 r1 a1 es1 c1),.int .i64 n] ((Tm.raw (.mk 6 nm ot m ty re l) g n).getD tZero):=fun N Q hQ=>by
 have hl : l.length = 1 := by have:(l.length:Int)=1:=(zk pre.ok).ar
                              omega
 obtain ⟨e0,rfl⟩:=zBQ hl
 obtain ⟨d0,_,rfl,h0,rfl⟩:=h0
 have hlen:=pre.len
 have hpc:1<=(Tm.mk 6 nm ot m ty re [e0]).cnt:=by simp only [Tm.cnt];omega
 have hv:=Ty.valid_cnt ((zk pre.ok).vt (.inl rfl))
 have hp:=pre.sub (x:=e0) (by simp) (g':=g++[⟨nm,ty,n⟩]) (by simp) (sR pre.ty (show ty.cnt<=64 by omega))
 rw [show zx 6 n=n by simp [zx]] at hp
 have hc:=zIt e0 (g++[⟨nm,ty,n⟩]) n
 have hz:=tI e0 (g++[⟨nm,ty,n⟩]) n
 have hraw:(Tm.raw (.mk 6 nm ot m ty re [e0]) g n).getD tZero=zOn ty (tyZ e0 (g++[⟨nm,ty,n⟩]) n):=by
  have:Tm.raw (.mk 6 nm ot m ty re [e0]) g n=(match e0.type (g++[⟨nm,ty,n⟩]) n with | some b=>some (vP ty b) | none=>none):=by simp only [Tm.raw,wj];rfl
  rw [this]
  unfold zOn
  rcases hz with ⟨h1,h2⟩ | ⟨h1,h2⟩
  ·rw [h1,h2];rfl
  ·rw [h1,if_neg (Ty.valid_nz h2)];rfl
 rw [hraw] at hQ
 have hctx:Ctx [⟨nm,ty,n⟩] [.ag [.lit (.string nm),t0,t1,.lit (.int .i64 n)]]:=⟨by simp,_,_,rfl,⟨_,_,rfl,hh.nm,hh.ty⟩,rfl⟩
 refine zP N a es c _ n Q fun _ _=>⟨_,rfl,?_⟩
 repeat' first|with_reducible intro _|simp only[oJ,oN,Y1,Y2,Y3,Y4]|with_reducible refine X ?_ ?_|refine⟨_,_,_,rfl,?_⟩|refine⟨_,rfl,?_⟩|refine And.intro (by first|omega|trivial|(show _=_;rfl)|(with_reducible constructor)<;>first|omega|trivial|rfl) ?_|refine (zM5 ctx hctx (by simp;omega) _ _ _ _) _ _ ?_|refine (ih e0 nX d0 h0 (g++[⟨nm,ty,n⟩]) _ _ _ n hp (by assumption)) _ _ ?_|(((with_reducible refine And.intro ?_ ?_);· exact zFt (by assumption) (by assumption) (by assumption) (by assumption)))|fail
 all_goals first | (exfalso;omega) | skip
 rename_i hd0 ho0 _ _
 generalize tyZ e0 (g++[⟨nm,ty,n⟩]) n=z0 at *
 cases z0 with
 | mk k0 l0=>
 have hd1:=hd0
 obtain ⟨a2,es2,c2,rfl,hl2,he2⟩:=Ty.is_mk.1 hd0
 repeat' first|with_reducible intro _|simp only[Y1,Y2,Y3,Y4]|with_reducible refine X ?_ ?_|refine⟨_,_,_,rfl,?_⟩|refine⟨_,rfl,?_⟩|refine And.intro (by first|omega|trivial|(show _=_;rfl)|(with_reducible constructor)<;>first|omega|trivial|rfl) ?_|refine (zNE ty (.mk k0 l0) _ _ hh.ty hd1 (by omega) (by omega)) _ _ ?_|fail
 all_goals first
  | exact hQ _ _ (by omega) (by rw [show zOn ty (.mk k0 l0)=tZero from if_pos (by assumption)];exact ym) yB
  | exact hQ _ _ (by omega) (by rw [show zOn ty (.mk k0 l0)=vP ty (.mk k0 l0) from if_neg (by assumption)];assumption) (Own.mono (by assumption) (by omega) (by omega))
/-- the type of a let whose first part has this type -/
def zOB (e1:Tm) (g:List Tg) (nm:ByteArray) (n:Int) (z:Ty):Ty:=if z.k=0 then tZero else tyZ e1 (g++[⟨nm,z,n⟩]) n
theorem f8 {nm ot:ByteArray} {m n:Int} {ty re:Ty} {l:List Tm} {t0 t1 r0 r1:D} {es1:List D} {a1 a:Option Addr} {c1 c:Nat} {g:List Tg} {es:List D} (ih:IHi l) (hh:Tm.Hd nm ot ty re t0 t1 r0 r1) (h0:All2 Tm.Is l es1) (hl1:es1.length<=4611686018427387904)
  (pre:Pre g (.mk 8 nm ot m ty re l) n) (ctx:Ctx g es) :
  zBc 165 [.sv a 4 es c,.dg 9 (zDw 8 nm ot m t0 t1 r0 r1 a1 es1 c1),.int .i64 n] ((Tm.raw (.mk 8 nm ot m ty re l) g n).getD tZero):=fun N Q hQ=>by
 have hl : l.length = 2 := by have:(l.length:Int)=2:=(zk pre.ok).ar
                              omega
 obtain ⟨e0,e1,rfl⟩:=zJw hl
 have hes1:=h0
 obtain ⟨d0,_,rfl,h0,d1,_,rfl,h1,rfl⟩:=h0
 have hlen:=pre.len
 have hpc:1<=(Tm.mk 8 nm ot m ty re [e0,e1]).cnt:=by simp only [Tm.cnt];omega
 have hz:=tI e0 g n
 have hc:=zIt e0 g n
 have hraw:(Tm.raw (.mk 8 nm ot m ty re [e0,e1]) g n).getD tZero=zOB e1 g nm n (tyZ e0 g n):=by
  have:Tm.raw (.mk 8 nm ot m ty re [e0,e1]) g n=(match e0.type g n with | some b=>e1.type (g++[⟨nm,b,n⟩]) n | none=>none):=by simp only [Tm.raw,wj];rfl
  rw [this]
  unfold zOB
  rcases hz with ⟨h1,h2⟩ | ⟨h1,h2⟩
  ·rw [h1,h2];rfl
  ·rw [h1,if_neg (Ty.valid_nz h2)];rfl
 rw [hraw] at hQ
 have hn:zx 8 n=n:=by simp [zx]
 refine zP N a es c _ n Q fun _ _=>⟨_,rfl,?_⟩
 repeat' first|with_reducible intro _|simp only[oJ,oN,Y1,Y2,Y3,Y4]|with_reducible refine X ?_ ?_|refine⟨_,_,_,rfl,?_⟩|refine⟨_,rfl,?_⟩|refine And.intro (by first|omega|trivial|(show _=_;rfl)|(with_reducible constructor)<;>first|omega|trivial|rfl) ?_|refine (zCL hn ih hes1 hl1 pre ctx 0 rfl _ _ _) _ _ ?_|(((with_reducible refine And.intro ?_ ?_);· exact vv (by assumption) (by assumption)))|fail
 all_goals first | (exfalso;omega) | skip
 rename_i hd0 ho0 _ _
 generalize tyZ e0 g n=z0 at *
 cases z0 with
 | mk k0 l0=>
 have hd1:=hd0
 obtain ⟨a2,es2,c2,rfl,hl2,he2⟩:=Ty.is_mk.1 hd0
 by_cases hk:k0=0
 ·have q:zOB e1 g nm n (.mk k0 l0)=tZero:=if_pos hk
  rw [q] at hQ
  repeat' first|with_reducible intro _|simp only[Y1,Y2,Y3,Y4]|with_reducible refine X ?_ ?_|refine⟨_,_,_,rfl,?_⟩|refine⟨_,rfl,?_⟩|refine And.intro (by first|omega|trivial|(show _=_;rfl)|(with_reducible constructor)<;>first|omega|trivial|rfl) ?_|fail
  all_goals first | (exfalso;omega) | exact hQ _ _ (by omega) ym yB
 ·have q:zOB e1 g nm n (.mk k0 l0)=tyZ e1 (g++[⟨nm,.mk k0 l0,n⟩]) n:=if_neg hk
  rw [q] at hQ
  have hp:=pre.sub (x:=e1) (by simp) (g':=g++[⟨nm,.mk k0 l0,n⟩]) (by simp) (sR pre.ty (oW hc (by omega)))
  rw [hn] at hp
  have hctx:Ctx [⟨nm,.mk k0 l0,n⟩] [.ag [.lit (.string nm),.lit (.int .i64 k0),.sl a2 2 es2 c2,.lit (.int .i64 n)]]:=⟨by simp,_,_,rfl,⟨_,_,rfl,hh.nm,hd1⟩,rfl⟩
  repeat' first|with_reducible intro _|simp only[oJ,oN,Y1,Y2,Y3,Y4]|with_reducible refine X ?_ ?_|refine⟨_,_,_,rfl,?_⟩|refine⟨_,rfl,?_⟩|refine And.intro (by first|omega|trivial|(show _=_;rfl)|(with_reducible constructor)<;>first|omega|trivial|rfl) ?_|refine (zM5 ctx hctx (by simp;omega) _ _ _ _) _ _ ?_|refine (ih e1 (by simp) d1 h1 (g++[⟨nm,.mk k0 l0,n⟩]) _ _ _ n hp (by assumption)) _ _ ?_|(((with_reducible refine And.intro ?_ ?_);· exact zFt (by assumption) (by assumption) (by assumption) (by assumption)))|fail
  all_goals first | (exfalso;omega) | skip
  exact hQ _ _ (by omega) (by assumption) (Own.mono (by assumption) (by omega) (by omega))
theorem zSF {nm ot:ByteArray} {ty re:Ty} {t0 t1 r0 r1 x:D} (hh:Tm.Hd nm ot ty re t0 t1 r0 r1) (hx:(vP ty re).Is x) (n:Int) :
  Ctx [⟨nm,vP ty re,n⟩,⟨ot,ty,n⟩] [.ag [.lit (.string nm),D.cell x 0,D.cell x 1,.lit (.int .i64 n)],.ag [.lit (.string ot),t0,t1,.lit (.int .i64 n)]]:=
 ⟨by simp,_,_,rfl,⟨_,_,rfl,hh.nm,Ty.is_cells hx⟩,_,_,rfl,⟨_,_,rfl,hh.ot,hh.ty⟩,rfl⟩
theorem f9 {nm ot:ByteArray} {m n:Int} {ty re:Ty} {l:List Tm} {t0 t1 r0 r1:D} {es1:List D} {a1 a:Option Addr} {c1 c:Nat} {g:List Tg} {es:List D} (ih:IHi l) (hh:Tm.Hd nm ot ty re t0 t1 r0 r1) (h0:All2 Tm.Is l es1) (hl1:es1.length<=4611686018427387904)
  (pre:Pre g (.mk 9 nm ot m ty re l) n) (ctx:Ctx g es) :
  zBc 165 [.sv a 4 es c,.dg 9 (zDw 9 nm ot m t0 t1 r0 r1 a1 es1 c1),.int .i64 n] ((Tm.raw (.mk 9 nm ot m ty re l) g n).getD tZero):=fun N Q hQ=>by
 have hl : l.length = 1 := by have:(l.length:Int)=1:=(zk pre.ok).ar
                              omega
 obtain ⟨e0,rfl⟩:=zBQ hl
 obtain ⟨d0,_,rfl,h0,rfl⟩:=h0
 have hlen:=pre.len
 have hpc:1<=(Tm.mk 9 nm ot m ty re [e0]).cnt:=by simp only [Tm.cnt];omega
 have hv:=Ty.valid_cnt ((zk pre.ok).vt (.inr rfl))
 have hrv:=(zk pre.ok).vr rfl
 have hr:=Ty.valid_cnt hrv
 have hg1:=sR (x:=⟨nm,vP ty re,n⟩) pre.ty (show (vP ty re).cnt<=64 by simp only [vP,Ty.cnt,zG];omega)
 have hp:=pre.sub (x:=e0) (by simp) (g':=(g++[⟨nm,vP ty re,n⟩])++[⟨ot,ty,n⟩]) (by simp) (sR hg1 (show ty.cnt<=64 by omega))
 rw [show zx 9 n=n by simp [zx],nG,List.singleton_append] at hp
 have hz:=tI e0 (g++[⟨nm,vP ty re,n⟩,⟨ot,ty,n⟩]) n
 have hraw:(Tm.raw (.mk 9 nm ot m ty re [e0]) g n).getD tZero=if tK (tyZ e0 (g++[⟨nm,vP ty re,n⟩,⟨ot,ty,n⟩]) n) re then vP ty re else tZero:=by
  have:Tm.raw (.mk 9 nm ot m ty re [e0]) g n=(match e0.type ((g++[⟨nm,vP ty re,n⟩])++[⟨ot,ty,n⟩]) n with | some b=>if tK b re then some (vP ty re) else none | none=>none):=by simp only [Tm.raw,wj];rfl
  rw [this,nG,List.singleton_append]
  rcases hz with ⟨h1,h2⟩ | ⟨h1,h2⟩
  ·rw [h1,h2,(zM0 hrv).2];rfl
  ·rw [h1];dsimp only;split<;>rfl
 rw [hraw] at hQ
 refine zP N a es c _ n Q fun _ _=>⟨_,rfl,?_⟩
 repeat' first|with_reducible intro _|simp only[oJ,oN,Y1,Y2,Y3,Y4]|with_reducible refine X ?_ ?_|refine⟨_,_,_,rfl,?_⟩|refine⟨_,rfl,?_⟩|refine And.intro (by first|omega|trivial|(show _=_;rfl)|(with_reducible constructor)<;>first|omega|trivial|rfl) ?_|refine (zNE ty re _ _ hh.ty hh.re (by omega) (by omega)) _ _ ?_|refine (zM5 ctx (h:=[⟨nm,vP ty re,n⟩,⟨ot,ty,n⟩]) (zSF hh (by assumption) n) (by simp;omega) _ _ _ _) _ _ ?_|refine (ih e0 nX d0 h0 (g++[⟨nm,vP ty re,n⟩,⟨ot,ty,n⟩]) _ _ _ n hp (by assumption)) _ _ ?_|refine (zT (tyZ e0 (g++[⟨nm,vP ty re,n⟩,⟨ot,ty,n⟩]) n) re _ _ (by assumption) hh.re) _ _ ?_|(((with_reducible refine And.intro ?_ ?_);· exact zFt (by assumption) (by assumption) (by assumption) (by assumption)))|fail
 all_goals first | (exfalso;omega) | skip
 all_goals first
  | exact hQ _ _ (by omega) (by rw [if_pos (by assumption)];assumption) (Own.mono (by assumption) (by omega) (by omega))
  | exact hQ _ _ (by omega) (by rw [if_neg (by simp [*])];exact ym) yB
/-- the type of a stage over a part of this type -/
def stZ (k:Int) (z:Ty):Ty:=if k=10 then (if z.k=0 then tZero else rr z) else if k=13 then (if z.base then rr z else tZero) else zBP z
theorem zQu {k:Int} {e0:Tm} {g:List Tg} {n:Int}:((match e0.type g n with | some t=>yb k t | none=>none):Option Ty).getD tZero=stZ k (tyZ e0 g n):=by
 rcases tI e0 g n with ⟨h1,h2⟩ | ⟨h1,h2⟩
 ·rw [h1,h2]
  have:stZ k tZero=tZero:=by
   unfold stZ
   split
   ·rfl
   ·split<;>rfl
  exact this.symm
 ·rw [h1]
  dsimp only
  have:=Ty.valid_nz h2
  unfold stZ yb zBP
  rw [if_neg this]
  (repeat' split)<;>rfl
theorem fS {k:Int} {nm ot:ByteArray} {m n:Int} {ty re:Ty} {l:List Tm} {t0 t1 r0 r1:D} {es1:List D} {a1 a:Option Addr} {c1 c:Nat} {g:List Tg} {es:List D} (hk:k=10\/k=11\/k=12\/k=13) (ih:IHi l) (hh:Tm.Hd nm ot ty re t0 t1 r0 r1) (h0:All2 Tm.Is l es1) (hl1:es1.length<=4611686018427387904)
  (pre:Pre g (.mk k nm ot m ty re l) n) (ctx:Ctx g es) :
  zBc 214 [.sv a 4 es c,.dg 9 (zDw k nm ot m t0 t1 r0 r1 a1 es1 c1),.int .i64 n] ((Tm.raw (.mk k nm ot m ty re l) g n).getD tZero):=fun N Q hQ=>by
 have hl:l.length=1:=by
  have har:=(zk pre.ok).ar
  have:(l.length:Int)=1:=by rw [har];rcases hk with rfl | rfl | rfl | rfl<;>rfl
  omega
 obtain ⟨e0,rfl⟩:=zBQ hl
 obtain ⟨d0,_,rfl,h0,rfl⟩:=h0
 have hlen:=pre.len
 have hlv:=pre.lv
 have hsub:=zAa g n g 0
 have hc2:∀ x∈g,x.ty.cnt<=1073741824:=fun x hx=>oW (pre.ty x hx) (by omega)
 have hraw:(Tm.raw (.mk k nm ot m ty re [e0]) g n).getD tZero=stZ k (tyZ e0 (if k=12 then um g n else g) (zx k n)):=by
  rw [<-zQu]
  simp only [Tm.raw,wj]
  rw [if_neg (by omega),if_neg (by omega),if_neg (by omega),if_neg (by omega),if_neg (by omega),if_neg (by omega),if_pos hk]
  rfl
 rw [hraw] at hQ
 have hp:=pre.sub (x:=e0) (by simp) (g':=if k=12 then um g n else g) (by split<;>simp [um];omega) (by split;exact fun y hy=>pre.ty y (hsub.1 y hy);exact pre.ty)
 have ih0:∀ es a c,Ctx (if k=12 then um g n else g) es->zBc 95 [.sv a 4 es c,.dg 9 d0,.int .i64 (zx k n)] (tyZ e0 (if k=12 then um g n else g) (zx k n)):=fun es a c hc=>ih e0 nX d0 h0 _ es a c _ hp hc
 have hz:=tI e0 (if k=12 then um g n else g) (zx k n)
 have hcn:=zIt e0 (if k=12 then um g n else g) (zx k n)
 generalize tyZ e0 (if k=12 then um g n else g) (zx k n)=z0 at *
 have hzv:z0.valid=true\/z0=tZero:=hz.elim (fun h=>.inr h.2) fun h=>.inl h.2
 refine zBu N a es c _ n Q fun _ _=>⟨_,rfl,?_⟩
 rw [i64_in (n+1) (by omega),i64_in (n - 1) (by omega)]
 cases z0 with
 | mk k0 l0=>
 rcases hk with rfl | rfl | rfl | rfl
 ·have ih1:=ih0 es a c ctx
  rw [show zx 10 n=n+1 by simp [zx]] at ih1
  repeat' first|with_reducible intro _|simp only[oJ,oN,Y1,Y2,Y3,Y4]|with_reducible refine X ?_ ?_|refine⟨_,_,_,rfl,?_⟩|refine⟨_,rfl,?_⟩|refine And.intro (by first|omega|trivial|(show _=_;rfl)|(with_reducible constructor)<;>first|omega|trivial|rfl) ?_|refine ih1 _ _ ?_|fail
  all_goals first | (exfalso;omega) | skip
  rename_i hd0 ho0 _ _
  have hd1:=hd0
  obtain ⟨a2,es2,c2,rfl,hl2,he2⟩:=Ty.is_mk.1 hd0
  have q:stZ 10 (.mk k0 l0)=if k0=0 then tZero else rr (.mk k0 l0):=rfl
  rw [q] at hQ
  repeat' first|with_reducible intro _|simp only[Y1,Y2,Y3,Y4]|with_reducible refine X ?_ ?_|refine⟨_,_,_,rfl,?_⟩|refine⟨_,rfl,?_⟩|refine And.intro (by first|omega|trivial|(show _=_;rfl)|(with_reducible constructor)<;>first|omega|trivial|rfl) ?_|refine (zJ4 (.mk k0 l0) _ hd1 (by omega)) _ _ ?_|fail
  all_goals first
   | exact hQ _ _ (by omega) (by rw [if_neg (by assumption)];assumption) (Own.mono (by assumption) (by omega) (by omega))
   | exact hQ _ _ (by omega) (by rw [if_pos (by assumption)];exact ym) yB
 ·have ih1:=ih0 es a c ctx
  rw [show zx 11 n=n - 1 by simp [zx]] at ih1
  have q:stZ 11 (.mk k0 l0)=zBP (.mk k0 l0):=rfl
  rw [q] at hQ
  repeat' first|with_reducible intro _|simp only[oJ,oN,Y1,Y2,Y3,Y4]|with_reducible refine X ?_ ?_|refine⟨_,_,_,rfl,?_⟩|refine⟨_,rfl,?_⟩|refine And.intro (by first|omega|trivial|(show _=_;rfl)|(with_reducible constructor)<;>first|omega|trivial|rfl) ?_|refine ih1 _ _ ?_|refine (zKQ (.mk k0 l0) _ (by assumption) hzv) _ _ ?_|fail
  all_goals first | (exfalso;omega) | skip
  exact hQ _ _ (by omega) (by assumption) (Own.mono (by assumption) (by omega) (by omega))
 ·rw [if_pos rfl,show zx 12 n=n by simp [zx]] at ih0
  have q:stZ 12 (.mk k0 l0)=zBP (.mk k0 l0):=rfl
  rw [q] at hQ
  repeat' first|with_reducible intro _|simp only[oJ,oN,Y1,Y2,Y3,Y4]|with_reducible refine X ?_ ?_|refine⟨_,_,_,rfl,?_⟩|refine⟨_,rfl,?_⟩|refine And.intro (by first|omega|trivial|(show _=_;rfl)|(with_reducible constructor)<;>first|omega|trivial|rfl) ?_|refine (zMQ ctx (by omega) hc2 _ _ n) _ _ ?_|refine (ih0 _ _ _ (by assumption)) _ _ ?_|refine (zKQ (.mk k0 l0) _ (by assumption) hzv) _ _ ?_|fail
  all_goals first | (exfalso;omega) | skip
  exact hQ _ _ (by omega) (by assumption) (Own.mono (by assumption) (by omega) (by omega))
 ·have ih1:=ih0 es a c ctx
  rw [show zx 13 n=n by simp [zx]] at ih1
  have q:stZ 13 (.mk k0 l0)=if (Ty.mk k0 l0).base then rr (.mk k0 l0) else tZero:=rfl
  rw [q] at hQ
  repeat' first|with_reducible intro _|simp only[oJ,oN,Y1,Y2,Y3,Y4]|with_reducible refine X ?_ ?_|refine⟨_,_,_,rfl,?_⟩|refine⟨_,rfl,?_⟩|refine And.intro (by first|omega|trivial|(show _=_;rfl)|(with_reducible constructor)<;>first|omega|trivial|rfl) ?_|refine ih1 _ _ ?_|refine (tR (.mk k0 l0) _ (by assumption)) _ _ ?_|refine (zJ4 (.mk k0 l0) _ (by assumption) (by omega)) _ _ ?_|fail
  all_goals first | (exfalso;omega) | skip
  all_goals first
   | exact hQ _ _ (by omega) (by rw [if_pos (by assumption)];assumption) (Own.mono (by assumption) (by omega) (by omega))
   | exact hQ _ _ (by omega) (by rw [if_neg (by simp [*])];exact ym) yB
theorem f4 {nm ot:ByteArray} {m n:Int} {ty re:Ty} {l:List Tm} {t0 t1 r0 r1:D} {es1:List D} {a1 a:Option Addr} {c1 c:Nat} {g:List Tg} {es:List D} (ih:IHi l) (hh:Tm.Hd nm ot ty re t0 t1 r0 r1) (h0:All2 Tm.Is l es1) (hl1:es1.length<=4611686018427387904)
  (pre:Pre g (.mk 4 nm ot m ty re l) n) (ctx:Ctx g es) :
  zBc 165 [.sv a 4 es c,.dg 9 (zDw 4 nm ot m t0 t1 r0 r1 a1 es1 c1),.int .i64 n] ((Tm.raw (.mk 4 nm ot m ty re l) g n).getD tZero):=fun N Q hQ=>by
 have hlen:=pre.len
 have hcl:=wk l
 have hln:=h0.len
 simp only [Tm.cnt] at hlen
 have hop:0<zHK nm:=by
  have:=(zk pre.ok).f
  simp only [yK,zAe,oK] at this
  have:=this.2.2.2.2.2
  simp at this
  exact this.1
 have hraw:(Tm.raw (.mk 4 nm ot m ty re l) g n).getD tZero=if zAp (qq nm) (l.map fun e=>tyZ e g n) then zBT nm else tZero:=by
  rw [<-zSG hop]
  simp only [Tm.raw]
  rfl
 rw [hraw] at hQ
 have hn:zx 4 n=n:=by simp [zx]
 have key:yT Q N 0 0 es1.length (0:Nat) (zDw 4 nm ot m t0 t1 r0 r1 a1 es1 c1) 0 none [] 0 a es c n [] 0 N:=by
  refine up h0 hl1 (fun i xs=>∀ (r:List D) (q p:Nat) (N':Nat) (ts:List Ty),N<=N'->p=r.length->All2 Ty.Is ts r->ts.length=i->(∀ b∈zD r,N<=b)->ts++(xs.map fun e=>tyZ e g n)=(l.map fun e=>tyZ e g n) ->
   yT Q N p q es1.length i (zDw 4 nm ot m t0 t1 r0 r1 a1 es1 c1) 0 none [] 0 a es c n r q N') ?_ ?_ [] 0 0 N [] (oE _) rfl rfl rfl (by simp [zD]) rfl
  ·intro i hlt hi r q p N' ts hN' hp hr hti hlo hts
   have hrl:=hr.len
   simp only [mn,nH] at hts
   rw [<-hts] at hQ
   refine uc _ _ _ _ _ _ _ _ _ _ _ _ _ _ _ _ _ _ ?_
   repeat' first|with_reducible intro _|simp only[hlt,Y1,Y2,Y3,Y4]|with_reducible refine X ?_ ?_|refine⟨_,_,_,rfl,?_⟩|refine⟨_,rfl,?_⟩|refine And.intro (by first|omega|trivial|(show _=_;rfl)|(with_reducible constructor)<;>first|omega|trivial|rfl) ?_|refine (zOb hr (by omega) _ _ nm) _ _ ?_|(((with_reducible refine And.intro ?_ ?_);· exact vv (by assumption) (by assumption)))|fail
   exact hQ _ _ (by omega) (by assumption) (Own.mono (by assumption) (by omega) (by omega))
  ·intro i x xs hat _ ih2 r q p N' ts hN' hp hr hti hlo hts
   have hb:=hat.b
   have hrl:=hr.len
   refine uc _ _ _ _ _ _ _ _ _ _ _ _ _ _ _ _ _ _ ?_
   repeat' first|with_reducible intro _|simp only[hat.lt,hat.w,oH,Y1,Y2,Y3,Y4]|with_reducible refine X ?_ ?_|refine⟨_,_,_,rfl,?_⟩|refine⟨_,rfl,?_⟩|refine And.intro (by first|omega|trivial|(show _=_;rfl)|(with_reducible constructor)<;>first|omega|trivial|rfl) ?_|refine (zCL hn ih h0 hl1 pre ctx i hat.g _ _ _) _ _ ?_|(((with_reducible refine And.intro ?_ ?_);· exact vv (by assumption) (by assumption)))|fail
   all_goals first | (exfalso;omega) | skip
   rename_i hd ho _ _
   refine ⟨by unfold zA;simp only [oI,nY];omega,fun c2=>ih2 _ _ _ _ (ts++[tyZ x g n]) (by omega) rfl (hr.snoc hd) (by simp [hti]) (fun b hb=>?_) (by simpa using hts)⟩
   rw [zF] at hb
   rcases oM.1 hb with hb | hb
   ·exact hlo b hb
   ·simp only [zD,nH] at hb
    have:=ho.lo b hb
    omega
 refine zP N a es c _ n Q fun _ _=>⟨_,rfl,?_⟩
 repeat' first|with_reducible intro _|simp only[Y1,Y2,Y3,Y4]|with_reducible refine X ?_ ?_|refine⟨_,_,_,rfl,?_⟩|refine⟨_,rfl,?_⟩|refine And.intro (by first|omega|trivial|(show _=_;rfl)|(with_reducible constructor)<;>first|omega|trivial|rfl) ?_|fail
 all_goals first | (exfalso;omega) | exact key
theorem f1 {nm ot:ByteArray} {m n:Int} {ty re:Ty} {l:List Tm} {t0 t1 r0 r1:D} {es1:List D} {a1 a:Option Addr} {c1 c:Nat} {g:List Tg} {es:List D}
  (pre:Pre g (.mk 1 nm ot m ty re l) n) (ctx:Ctx g es) :
  zBc 165 [.sv a 4 es c,.dg 9 (zDw 1 nm ot m t0 t1 r0 r1 a1 es1 c1),.int .i64 n] ((Tm.raw (.mk 1 nm ot m ty re l) g n).getD tZero):=fun N Q hQ=>by
 have hl2:=ctx.all.len
 have hraw:Tm.raw (.mk 1 nm ot m ty re l) g n=vA g nm n:=by simp [Tm.raw]
 rw [hraw] at hQ
 refine zP N a es c _ n Q fun _ _=>⟨_,rfl,?_⟩
 rcases zAB g nm g.length with hlx | hlx
 ·have hlx:zU g nm = -1:=hlx
  have:vA g nm n=none:=by simp [vA,hlx]
  rw [this] at hQ
  repeat' first|with_reducible intro _|simp only[hlx,Y1,Y2,Y3,Y4]|with_reducible refine X ?_ ?_|refine⟨_,_,_,rfl,?_⟩|refine⟨_,rfl,?_⟩|refine And.intro (by first|omega|trivial|(show _=_;rfl)|(with_reducible constructor)<;>first|omega|trivial|rfl) ?_|refine (zAg ctx a c nm) _ _ ?_|fail
  all_goals first | (exfalso;omega) | skip
  exact hQ _ _ (by omega) ym yB
 ·have hlx:0<=zU g nm/\zU g nm<g.length:=hlx
  have hg:g[(zU g nm).toNat]?=some g[(zU g nm).toNat]:=oD (by omega)
  have hx:=ctx.all.get hg
  have hgd:g.getD (zU g nm).toNat tg0=g[(zU g nm).toNat]:=zFn hg
  obtain ⟨u0,u1,hd,hs,ht⟩:=hx
  have hm:g[(zU g nm).toNat]∈g:=np _
  have hcn:=pre.ty _ hm
  have:vA g nm n=if g[(zU g nm).toNat].lv=n then some g[(zU g nm).toNat].ty else none:=by
   rw [vA,if_neg (by omega),hgd]
  rw [this] at hQ
  generalize g[(zU g nm).toNat]=x at *
  repeat' first|with_reducible intro _|simp only[hd,Y1,Y2,Y3,Y4]|with_reducible refine X ?_ ?_|refine⟨_,_,_,rfl,?_⟩|refine⟨_,rfl,?_⟩|refine And.intro (by first|omega|trivial|(show _=_;rfl)|(with_reducible constructor)<;>first|omega|trivial|rfl) ?_|refine (zAg ctx a c nm) _ _ ?_|refine (zJd _ _ ht (by omega)) _ _ ?_|fail
  all_goals first | (exfalso;omega) | skip
  ·rw [if_pos (by assumption)] at hQ;exact hQ _ _ (by omega) (by assumption) (Own.mono (by assumption) (by omega) (by omega))
  ·rw [if_neg (by assumption)] at hQ;exact hQ _ _ (by omega) ym yB
theorem zLG {e:Tm} {d:D} (he:e.Is d) (ih:match e with | .mk _ _ _ _ _ _ l=>IHi l) {g:List Tg} {es:List D} (a:Option Addr) (c:Nat) {n:Int} (pre:Pre g e n) (ctx:Ctx g es) :
  zBc 165 [.sv a 4 es c,.dg 9 d,.int .i64 n] ((e.raw g n).getD tZero):=by
 cases e with
 | mk k nm ot m ty re l=>
 dsimp only at ih
 obtain ⟨t0,t1,r0,r1,a1,es1,c1,rfl,hh,hlen1,hes1⟩:=Tm.is_mk.1 he
 have nd:=zk pre.ok
 have har:=nd.ar
 have hkk:=zHz (k:=k) (nm:=nm) (by omega)
 rcases hkk with rfl | rfl | rfl | rfl | rfl | rfl | rfl | rfl | rfl | h | h | h | h
 ·exact f1 pre ctx
 ·intro N Q hQ
  have hraw:Tm.raw (.mk 2 nm ot m ty re l) g n=some tInt:=by simp [Tm.raw]
  rw [hraw] at hQ
  refine zP N a es c _ n Q fun _ _=>⟨_,rfl,?_⟩
  repeat' first|with_reducible intro _|simp only[Y1,Y2,Y3,Y4]|with_reducible refine X ?_ ?_|refine⟨_,_,_,rfl,?_⟩|refine⟨_,rfl,?_⟩|refine And.intro (by first|omega|trivial|(show _=_;rfl)|(with_reducible constructor)<;>first|omega|trivial|rfl) ?_|refine zMe _ _ ?_|fail
  all_goals first | (exfalso;omega) | skip
  exact hQ _ _ (by omega) (by assumption) (Own.mono (by assumption) (by omega) (by omega))
 ·intro N Q hQ
  have hraw:Tm.raw (.mk 3 nm ot m ty re l) g n=some tBool:=by simp [Tm.raw]
  rw [hraw] at hQ
  refine zP N a es c _ n Q fun _ _=>⟨_,rfl,?_⟩
  repeat' first|with_reducible intro _|simp only[Y1,Y2,Y3,Y4]|with_reducible refine X ?_ ?_|refine⟨_,_,_,rfl,?_⟩|refine⟨_,rfl,?_⟩|refine And.intro (by first|omega|trivial|(show _=_;rfl)|(with_reducible constructor)<;>first|omega|trivial|rfl) ?_|refine zGu _ _ ?_|fail
  all_goals first | (exfalso;omega) | skip
  exact hQ _ _ (by omega) (by assumption) (Own.mono (by assumption) (by omega) (by omega))
 ·exact f4 ih hh hes1 hlen1 pre ctx
 ·exact f5 ih hh hes1 hlen1 pre ctx
 ·exact f6 ih hh hes1 hlen1 pre ctx
 ·exact f7 ih hh hes1 hlen1 pre ctx
 ·exact f8 ih hh hes1 hlen1 pre ctx
 ·exact f9 ih hh hes1 hlen1 pre ctx
 all_goals
  intro N Q hQ
  have hk:k=10\/k=11\/k=12\/k=13:=by omega
  refine zP N a es c _ n Q fun _ _=>⟨_,rfl,?_⟩
  repeat' first|with_reducible intro _|simp only[Y1,Y2,Y3,Y4]|with_reducible refine X ?_ ?_|refine⟨_,_,_,rfl,?_⟩|refine⟨_,rfl,?_⟩|refine And.intro (by first|omega|trivial|(show _=_;rfl)|(with_reducible constructor)<;>first|omega|trivial|rfl) ?_|refine (fS hk ih hh hes1 hlen1 pre ctx) _ _ ?_|fail
  all_goals first | (exfalso;omega) | skip
  exact hQ _ _ (by omega) (by assumption) (Own.mono (by assumption) (by omega) (by omega))
theorem zPx (e:Tm) (g:List Tg) (n:Int):tyZ e g n=if ((e.raw g n).getD tZero).valid then (e.raw g n).getD tZero else tZero:=by
 rw [tyZ,Tm.type_eq]
 cases e.raw g n with
 | none=>rfl
 | some t=>
   simp only [vld,ow]
   split<;>rfl
theorem zQC:∀ (e:Tm),∀ d,e.Is d->∀ g es a c n,Pre g e n->Ctx g es->zBc 95 [.sv a 4 es c,.dg 9 d,.int .i64 n] (tyZ e g n):=by
 refine Tm.ind fun k nm ot m ty re l ih d hd g es a c n pre ctx N Q hQ=>?_
 have hs:=zLG hd ih a c pre ctx
 rw [zPx] at hQ
 have hc:((Tm.raw (.mk k nm ot m ty re l) g n).getD tZero).cnt<=64:=by
  cases h:Tm.raw (.mk k nm ot m ty re l) g n with
  | none=>simp [tZero,Ty.cnt,zG]
  | some t=>simpa using zMS pre h
 generalize (Tm.raw (.mk k nm ot m ty re l) g n).getD tZero=z at *
 refine zID N a es c _ n Q fun _ _=>?_
 repeat' first|with_reducible intro _|simp only[Y1,Y2,Y3,Y4]|with_reducible refine X ?_ ?_|refine⟨_,_,_,rfl,?_⟩|refine⟨_,rfl,?_⟩|refine And.intro (by first|omega|trivial|(show _=_;rfl)|(with_reducible constructor)<;>first|omega|trivial|rfl) ?_|refine hs _ _ ?_|refine (yz z _ (by assumption) (by omega)) _ _ ?_|fail
 all_goals first
  | exact hQ _ _ (by omega) (by rw [if_pos (by assumption)];assumption) (Own.mono (by assumption) (by omega) (by omega))
  | exact hQ _ _ (by omega) (by rw [if_neg (by simp [*])];exact ym) yB
/-- returns this type and true, or the zero type and false, in memory of its own -/
def zSE (f:FuncId) (args:List PV) (o:Option Ty):Prop:=∀ (N:Nat) (Q:QT [.ag 2,.bool]),(∀ d N',N<=N'->(o.getD tZero).Is d->Own N N' d->Q d o.isSome N')->ACalls prog f [.ag 2,.bool] args N Q
theorem zHF {g:List Tg} {es:List D} (ctx:Ctx g es) (hg:∀ x∈g,x.ty.cnt<=1073741824) {e:Tm} {d:D} (he:e.Is d) (hc:e.cnt<=1048576000 / 2) (a:Option Addr) (c:Nat) (n:Int) :
  zSE 31 [.sv a 4 es c,.dg 9 d,.int .i64 n] (zE7 g e n):=fun N Q hQ=>by
 refine zHC N a es c d n Q fun _ _=>?_
 cases h1:zFc g with
 | false=>
   rw [zE7,if_neg (by simp [h1])] at hQ
   repeat' first|with_reducible intro _|simp only[h1,Y1,Y2,Y3,Y4]|with_reducible refine X ?_ ?_|refine⟨_,_,_,rfl,?_⟩|refine⟨_,rfl,?_⟩|refine And.intro (by first|omega|trivial|(show _=_;rfl)|(with_reducible constructor)<;>first|omega|trivial|rfl) ?_|refine (sM ctx hg a c) _ _ ?_|fail
   exact hQ _ _ (by omega) ym yB
 | true=>
   cases h2:zJB e n with
   | false=>
     rw [zE7,if_neg (by simp [h2])] at hQ
     repeat' first|with_reducible intro _|simp only[h1,h2,Y1,Y2,Y3,Y4]|with_reducible refine X ?_ ?_|refine⟨_,_,_,rfl,?_⟩|refine⟨_,rfl,?_⟩|refine And.intro (by first|omega|trivial|(show _=_;rfl)|(with_reducible constructor)<;>first|omega|trivial|rfl) ?_|refine (sM ctx hg a c) _ _ ?_|refine (sX e d he (by omega) n) _ _ ?_|fail
     exact hQ _ _ (by omega) ym yB
   | true=>
     rw [zE7,if_pos ⟨h1,h2⟩] at hQ
     have hz:=tI e g n
     repeat' first|with_reducible intro _|simp only[h1,h2,Y1,Y2,Y3,Y4]|with_reducible refine X ?_ ?_|refine⟨_,_,_,rfl,?_⟩|refine⟨_,rfl,?_⟩|refine And.intro (by first|omega|trivial|(show _=_;rfl)|(with_reducible constructor)<;>first|omega|trivial|rfl) ?_|refine (sM ctx hg a c) _ _ ?_|refine (sX e d he (by omega) n) _ _ ?_|refine (zQC e d he g es a c n (zRA h1 h2 hc) ctx) _ _ ?_|fail
     rename_i hd ho _ _
     rcases hz with ⟨h3,h4⟩ | ⟨h3,h4⟩
     ·rw [h3] at hQ
      rw [h4] at hd
      obtain ⟨a2,es2,c2,rfl,hl2,he2⟩:=Ty.is_mk.1 hd
      repeat' first|with_reducible intro _|simp only[Y1,Y2,Y3,Y4]|with_reducible refine X ?_ ?_|refine⟨_,_,_,rfl,?_⟩|refine⟨_,rfl,?_⟩|refine And.intro (by first|omega|trivial|(show _=_;rfl)|(with_reducible constructor)<;>first|omega|trivial|rfl) ?_|fail
      exact hQ _ _ (by omega) hd (Own.mono (by assumption) (by omega) (by omega))
     ·rw [h3] at hQ
      have hnz:=Ty.valid_nz h4
      generalize tyZ e g n=z at *
      cases z with
      | mk k0 l0=>
      have hd1:=hd
      obtain ⟨a2,es2,c2,rfl,hl2,he2⟩:=Ty.is_mk.1 hd
      repeat' first|with_reducible intro _|simp only[Y1,Y2,Y3,Y4]|with_reducible refine X ?_ ?_|refine⟨_,_,_,rfl,?_⟩|refine⟨_,rfl,?_⟩|refine And.intro (by first|omega|trivial|(show _=_;rfl)|(with_reducible constructor)<;>first|omega|trivial|rfl) ?_|fail
      have hnz:(bne k0 0)=true:=by simpa [Ty.k] using hnz
      rw [hnz]
      exact hQ _ _ (by omega) hd1 (Own.mono (by assumption) (by omega) (by omega))
end Go.Proofs.YtkdjhkfiolhkiaaGreat
