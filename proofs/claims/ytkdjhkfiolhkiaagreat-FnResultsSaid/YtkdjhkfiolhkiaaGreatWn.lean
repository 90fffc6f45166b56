/- Parameters: what they are; the laws' sizes, copies, equality and marks on them. -/
import Derived.Test.YtkdjhkfiolhkiaaGreatVv
import Derived.Test.YtkdjhkfiolhkiaaGreatVi
import Derived.Test.YtkdjhkfiolhkiaaGreatKi
set_option linter.unusedVariables false
set_option linter.unusedSimpArgs false
namespace Go.Proofs.YtkdjhkfiolhkiaaGreat
open Go Go.Proofs Go.Proofs.Tryz Go.IntWalk
structure Pm where
 nm:ByteArray
 ty:Ty
 dy:Bool
def Pm.Is (g:Pm) (d:D):Prop:=∃ t0 t1,d=.ag [.lit (.string g.nm),t0,t1,.lit (.bool g.dy)]/\g.nm.size<=4611686018427387904/\g.ty.Is (.ag [t0,t1])
theorem yd (n a b:Int):vK 115 [.int .i64 n,.int .i64 a,.int .i64 b] (inB n a b):=fun N Q hQ=>by
 refine zGA N n a b Q ?_
 repeat' first|with_reducible intro _|simp only[Y1,Y2,Y3,Y4]|with_reducible refine X ?_ ?_|refine⟨_,_,_,rfl,?_⟩|refine⟨_,rfl,?_⟩|refine And.intro (by first|omega|trivial|(show _=_;rfl)|(with_reducible constructor)<;>first|omega|trivial|rfl) ?_|fail
 all_goals simpa [inB, *] using hQ _ (by omega)
def zBQ {α:Type} (p:α->Bool):List α->Int->Int
 | [],_ => -1
 | x::xs,i=>if p x then i else zBQ p xs (i+1)
theorem qU {α:Type} (p:α->Bool):∀ (l:List α) (i:Int),0<=i->decide (zBQ p l i≥0)=l.any p
 | [],i,h=>by simp [zBQ]
 | x::xs,i,h=>by
   have ih:=qU p xs (i+1) (by omega)
   rw [mE,mA] at ih ⊢
   simp only [zBQ,List.any_cons,mS]
   by_cases hp:p x=true
   ·simp only [hp,md,true_or,iff_true];exact h
   ·simpa [hp] using ih
/-- a row of words -/
def zA (l:List ByteArray):List D:=l.map fun s=>.lit (.string s)
theorem yx:∀ l:List ByteArray,All2 (fun s d=>d=.lit (.string s)) l (zA l)
 | []=>rfl
 | s::l=>⟨_,_,rfl,rfl,yx l⟩
theorem zIr (l:List ByteArray) (hl:l.length<=4611686018427387904) (a:Option Addr) (c:Nat) (s:ByteArray):zBW 219 [.sv a 0 (zA l) c,.str s] (zBQ (fun x=>decide (s=x)) l 0):=fun N Q hQ=>by
 have hes:=yx l
 have hlen:(zA l).length<=4611686018427387904:=by rw [hes.len];exact hl
 refine rn N a _ c s Q fun _=>?_
 refine up hes hlen (fun i xs=>∀ (N':Nat),N<=N'->(∀ N'',N'<=N''->Q (zBQ (fun x=>decide (s=x)) xs i) N'')->yH Q N a (zA l) c s ((zA l).length:Int) i N') ?_ ?_ N (oD _) hQ
 ·intro i hlt _ N' hN' hQ'
  refine wn _ _ _ _ _ _ _ _ _ ?_
  repeat' first|with_reducible intro _|simp only[hlt,Y1,Y2,Y3,Y4]|with_reducible refine X ?_ ?_|refine⟨_,_,_,rfl,?_⟩|refine⟨_,rfl,?_⟩|refine And.intro (by first|omega|trivial|(show _=_;rfl)|(with_reducible constructor)<;>first|omega|trivial|rfl) ?_|fail
  exact hQ' _ (by omega)
 ·intro i x xs hat _ ih2 N' hN' hQ'
  have hb:=hat.b
  have hr:=hat.r
  simp only [zBQ] at hQ'
  refine wn _ _ _ _ _ _ _ _ _ ?_
  repeat' first|with_reducible intro _|simp only[hat.lt,hat.w,oJ,hr,Y1,Y2,Y3,Y4]|with_reducible refine X ?_ ?_|refine⟨_,_,_,rfl,?_⟩|refine⟨_,rfl,?_⟩|refine And.intro (by first|omega|trivial|(show _=_;rfl)|(with_reducible constructor)<;>first|omega|trivial|rfl) ?_|fail
  ·rename_i h _ _;subst h;exact Qi (hQ' _ (by omega)) (by simp)
  ·rename_i h;exact ih2 _ hN' fun N'' h2=>Qi (hQ' _ h2) (by rw [if_neg (by simpa using h)];simp)
theorem uL (l:List ByteArray) (hl:l.length<=4611686018427387904) (a:Option Addr) (c:Nat) (s:ByteArray):vK 173 [.sv a 0 (zA l) c,.str s] (l.any fun x=>decide (s=x)):=fun N Q hQ=>by
 refine tV N a _ c s Q fun _=>?_
 repeat' first|with_reducible intro _|simp only[Y1,Y2,Y3,Y4]|with_reducible refine X ?_ ?_|refine⟨_,_,_,rfl,?_⟩|refine⟨_,rfl,?_⟩|refine And.intro (by first|omega|trivial|(show _=_;rfl)|(with_reducible constructor)<;>first|omega|trivial|rfl) ?_|refine (zIr l hl a c s) _ _ ?_|fail
 exact Qb (hQ _ (by omega)) (qU _ l 0 (by omega)).symm
theorem qC (s:ByteArray) (hs:s.size<=4611686018427387904):vK 113 [.str s] (yL s):=fun N Q hQ=>by
 refine zEx N s Q ?_
 have key:=upN hs (fun i=>∀ N',N<=N'->(∀ N'',N'<=N''->Q (uB s i&&zDG s) N'')->yV Q N s (s.size:Int) i N') ?_ ?_
 ·exact key N (oD _) hQ
 ·intro hlt N' hN' hQ'
  have hc:=uL [bytes [105,102],bytes [108,101,116],bytes [108,105,102,116],bytes [114,101,99],bytes [114,117,110]] (by simp)
  simp only [zA,List.map] at hc
  refine sW _ _ _ _ _ _ ?_
  repeat' first|with_reducible intro _|simp only[hlt,Y1,Y2,Y3,Y4]|with_reducible refine X ?_ ?_|refine⟨_,_,_,rfl,?_⟩|refine⟨_,rfl,?_⟩|refine And.intro (by first|omega|trivial|(show _=_;rfl)|(with_reducible constructor)<;>first|omega|trivial|rfl) ?_|refine (yd _ _ _) _ _ ?_|refine (hc _ _ _) _ _ ?_|fail
  all_goals (refine Qb (hQ' _ (by omega)) ?_;rw [zAh])
  ·simp only [zDG,List.any_cons,List.any_nil,Bool.or_false, *]
   cases decide (s=bytes [105,102])<;>cases decide (s=bytes [108,101,116])<;>cases decide (s=bytes [108,105,102,116])<;>cases decide (s=bytes [114,101,99])<;>cases decide (s=bytes [114,117,110])<;>rfl
  ·simp [zDG, *]
 ·intro i hi hlt hw ih2 N' hN' hQ'
  refine sW _ _ _ _ _ _ ?_
  rw [qw hi] at hQ'
  repeat' first|with_reducible intro _|simp only[hlt,hw,oJ,Y1,Y2,Y3,Y4]|with_reducible refine X ?_ ?_|refine⟨_,_,_,rfl,?_⟩|refine⟨_,rfl,?_⟩|refine And.intro (by first|omega|trivial|(show _=_;rfl)|(with_reducible constructor)<;>first|omega|trivial|rfl) ?_|fail
  all_goals first
   | (refine Qb (hQ' _ (by omega)) ?_;unfold zEo zAj;simp only [*];simp;done)
   | (refine ih2 _ (by omega) fun N'' h=>Qb (hQ' N'' (by omega)) ?_;unfold zEo zAj;simp only [*];simp;done)
theorem zAN:∀ (t:Ty) (d:D),t.Is d->t.cnt<=1073741824->zBW 174 [.dg 2 d] t.cnt:=by
 refine Ty.ind fun k l ih d hd hc N Q hQ=>?_
 obtain ⟨a,es,c,rfl,hlen,hes⟩:=Ty.is_mk.1 hd
 simp only [Ty.cnt] at hc
 refine zAR N _ Q fun _=>⟨_,_,_,rfl,?_⟩
 refine up hes hlen (fun i xs=>∀ (m:Nat) (N':Nat),N<=N'->m+zT xs=1+zT l->yY Q N m a es c es.length i N') ?_ ?_ 1 N (oD _) rfl
 ·intro i hlt _ m N' hN' hm
  refine vZ _ _ _ _ _ _ _ _ _ ?_
  simp only [zT] at hm
  repeat' first|with_reducible intro _|simp only[hlt,Y1,Y2,Y3,Y4]|with_reducible refine X ?_ ?_|refine⟨_,_,_,rfl,?_⟩|refine⟨_,rfl,?_⟩|refine And.intro (by first|omega|trivial|(show _=_;rfl)|(with_reducible constructor)<;>first|omega|trivial|rfl) ?_|fail
  exact Qi (hQ _ (by omega)) (by simp only [Ty.cnt];omega)
 ·intro i x xs hat _ ih2 m N' hN' hm
  have hb:=hat.b
  have hxc:=wd hat.m
  simp only [zT] at hm
  refine vZ _ _ _ _ _ _ _ _ _ ?_
  repeat' first|with_reducible intro _|simp only[hat.lt,hat.w,oJ,Y1,Y2,Y3,Y4]|with_reducible refine X ?_ ?_|refine⟨_,_,_,rfl,?_⟩|refine⟨_,rfl,?_⟩|refine And.intro (by first|omega|trivial|(show _=_;rfl)|(with_reducible constructor)<;>first|omega|trivial|rfl) ?_|refine (ih x hat.m _ hat.r (by omega)) _ _ ?_|fail
  rw [i64_in _ (by omega)]
  exact ih2 (m+x.cnt) _ (by omega) (by omega)
theorem pO:∀ (t:Ty) (d:D),t.Is d->t.cnt<=1073741824->zBW 175 [.dg 2 d] t.dep:=by
 refine Ty.ind fun k l ih d hd hc N Q hQ=>?_
 obtain ⟨a,es,c,rfl,hlen,hes⟩:=Ty.is_mk.1 hd
 simp only [Ty.cnt] at hc
 have hdl:=sd l
 refine qF N _ Q fun _=>⟨_,_,_,rfl,?_⟩
 refine up hes hlen (fun i xs=>∀ (m:Nat) (N':Nat),N<=N'->max m (tK xs)=tK l->yM Q N m a es c es.length i N') ?_ ?_ 0 N (oD _) (by omega)
 ·intro i hlt _ m N' hN' hm
  refine vA _ _ _ _ _ _ _ _ _ ?_
  simp only [tK] at hm
  repeat' first|with_reducible intro _|simp only[hlt,Y1,Y2,Y3,Y4]|with_reducible refine X ?_ ?_|refine⟨_,_,_,rfl,?_⟩|refine⟨_,rfl,?_⟩|refine And.intro (by first|omega|trivial|(show _=_;rfl)|(with_reducible constructor)<;>first|omega|trivial|rfl) ?_|fail
  rw [i64_in _ (by omega)]
  exact Qi (hQ _ (by omega)) (by simp only [Ty.dep];omega)
 ·intro i x xs hat _ ih2 m N' hN' hm
  have hb:=hat.b
  have hxc:=wd hat.m
  simp only [tK] at hm
  refine vA _ _ _ _ _ _ _ _ _ ?_
  repeat' first|with_reducible intro _|simp only[hat.lt,hat.w,oJ,Y1,Y2,Y3,Y4]|with_reducible refine X ?_ ?_|refine⟨_,_,_,rfl,?_⟩|refine⟨_,rfl,?_⟩|refine And.intro (by first|omega|trivial|(show _=_;rfl)|(with_reducible constructor)<;>first|omega|trivial|rfl) ?_|refine (ih x hat.m _ hat.r (by omega)) _ _ ?_|fail
  have e:(if (x.dep:Int)>(m:Int) then (x.dep:Int) else (m:Int))=((max m x.dep:Nat):Int):=by split<;>omega
  rw [e]
  exact ih2 _ _ (by omega) (by omega)
theorem zC8 (t:Ty) (d:D) (hd:t.Is d):vK 177 [.dg 2 d] (zDk t.k t.as.length):=fun N Q hQ=>by
 cases t with
 | mk k l=>
 obtain ⟨a,es,c,rfl,hlen,hes⟩:=Ty.is_mk.1 hd
 have hl:=hes.len
 simp only [Ty.k,Ty.as] at hQ
 refine rD N _ Q fun _=>?_
 cases hin:inB k 1 4 with
 | false=>
   repeat' first|with_reducible intro _|simp only[hin,Y1,Y2,Y3,Y4]|with_reducible refine X ?_ ?_|refine⟨_,_,_,rfl,?_⟩|refine⟨_,rfl,?_⟩|refine And.intro (by first|omega|trivial|(show _=_;rfl)|(with_reducible constructor)<;>first|omega|trivial|rfl) ?_|refine (yd _ _ _) _ _ ?_|fail
   refine Qb (hQ _ (by omega)) ?_
   have:¬(1<=k/\k<=4):=fun h=>by rw [xz.2 h] at hin;cases hin
   unfold zDk
   rw [if_neg (by omega),if_neg (by omega),if_neg (by omega)]
 | true=>
   have hb:=xz.1 hin
   have w0:IntKind.i64.wrap 0=0:=rfl
   have w1:IntKind.i64.wrap 1=1:=rfl
   have w2:IntKind.i64.wrap 2=2:=rfl
   have w3:IntKind.i64.wrap 3=3:=rfl
   have hk:k=1\/k=2\/k=3\/k=4:=by omega
   rcases hk with rfl | rfl | rfl | rfl
   all_goals
    repeat' first|with_reducible intro _|simp only[hin,w0,w1,w2,w3,Y1,Y2,Y3,Y4]|with_reducible refine X ?_ ?_|refine⟨_,_,_,rfl,?_⟩|refine⟨_,rfl,?_⟩|refine And.intro (by first|omega|trivial|(show _=_;rfl)|(with_reducible constructor)<;>first|omega|trivial|rfl) ?_|refine (yd _ _ _) _ _ ?_|fail
    refine Qb (hQ _ (by omega)) ?_
    simp [zDk,hl]
theorem zBx:∀ l:List Ty,uO l=!(l.any fun x=>!x.form)
 | []=>rfl
 | t::ts=>by simp only [uO,List.any_cons,zBx ts];cases t.form<;>simp
theorem zCT {p:Ty->Bool} {l:List Ty} {es:List D} (h:All2 Ty.Is l es) (hlen:es.length<=4611686018427387904) (ad:Addr) (hp:∀ x∈l,∀ d,x.Is d->vK 221 [.dg 2 d,.pd ad 0 (.fn 177 [])] (p x)) (a:Option Addr) (c:Nat) :
  vK 220 [.sv a 2 es c,.fn 221 [.pd ad 0 (.fn 177 [])]] (l.any p):=fun N Q hQ=>by
 have hi:zBW 247 [.sv a 2 es c,.fn 221 [.pd ad 0 (.fn 177 [])]] (zBQ p l 0):=fun N Q hQ=>by
  refine vi N a es c ad Q fun _=>?_
  refine up h hlen (fun i xs=>∀ (N':Nat),N<=N'->(∀ N'',N'<=N''->Q (zBQ p xs i) N'')->zn Q N a es c ad es.length i N') ?_ ?_ N (oD _) hQ
  ·intro i hlt _ N' hN' hQ'
   refine xL _ _ _ _ _ _ _ _ _ ?_
   repeat' first|with_reducible intro _|simp only[hlt,Y1,Y2,Y3,Y4]|with_reducible refine X ?_ ?_|refine⟨_,_,_,rfl,?_⟩|refine⟨_,rfl,?_⟩|refine And.intro (by first|omega|trivial|(show _=_;rfl)|(with_reducible constructor)<;>first|omega|trivial|rfl) ?_|fail
   exact hQ' _ (by omega)
  ·intro i x xs hat _ ih2 N' hN' hQ'
   have hb:=hat.b
   simp only [zBQ] at hQ'
   refine xL _ _ _ _ _ _ _ _ _ ?_
   repeat' first|with_reducible intro _|simp only[hat.lt,hat.w,oJ,Y1,Y2,Y3,Y4]|with_reducible refine X ?_ ?_|refine⟨_,_,_,rfl,?_⟩|refine⟨_,rfl,?_⟩|refine And.intro (by first|omega|trivial|(show _=_;rfl)|(with_reducible constructor)<;>first|omega|trivial|rfl) ?_|refine (hp x hat.m _ hat.r) _ _ ?_|fail
   ·exact Qi (hQ' _ (by omega)) (by rw [if_pos (by assumption)])
   ·rename_i h;exact ih2 _ (by omega) fun N'' h2=>Qi (hQ' _ (by omega)) (by rw [h];simp)
 refine wv N a es c ad Q fun _=>?_
 repeat' first|with_reducible intro _|simp only[Y1,Y2,Y3,Y4]|with_reducible refine X ?_ ?_|refine⟨_,_,_,rfl,?_⟩|refine⟨_,rfl,?_⟩|refine And.intro (by first|omega|trivial|(show _=_;rfl)|(with_reducible constructor)<;>first|omega|trivial|rfl) ?_|refine hi _ _ ?_|fail
 exact Qb (hQ _ (by omega)) (qU _ l 0 (by omega)).symm
theorem zKQ:∀ (t:Ty) (d:D),t.Is d->vK 176 [.dg 2 d,.fn 177 []] t.form:=by
 refine Ty.ind fun k l ih d hd N Q hQ=>?_
 have hd':=hd
 obtain ⟨a,es,c,rfl,hlen,hes⟩:=Ty.is_mk.1 hd
 refine rv N _ Q fun _=>?_
 simp only [Ty.form,zBx] at hQ
 repeat' first|with_reducible intro _|simp only[Y1,Y2,Y3,Y4]|with_reducible refine X ?_ ?_|refine⟨_,_,_,rfl,?_⟩|refine⟨_,rfl,?_⟩|refine And.intro (by first|omega|trivial|(show _=_;rfl)|(with_reducible constructor)<;>first|omega|trivial|rfl) ?_|refine (zC8 _ _ hd') _ _ ?_|refine (zCT hes hlen _ (fun x hx d hd=>fun N Q hQ=>rE N d _ Q fun _ N1 hN1=>ih x hx d hd N1 _ fun N2 hN2 hle N3 hN3=>hQ N3 (by omega)) _ _) _ _ ?_|fail
 ·have h:zDk (Ty.mk k l).k (Ty.mk k l).as.length=true:=by assumption
  exact Qb (hQ _ (by omega)) (by simp only [Ty.k,Ty.as] at h;rw [h,Bool.and_true])
 ·rename_i h _ _
  exact Qb (hQ _ (by omega)) (by simp only [Ty.k,Ty.as] at h;rw [h,mu])
theorem v8 (t:Ty) (d:D) (hd:t.Is d) (hc:t.cnt<=1073741824):vK 114 [.dg 2 d] t.valid:=fun N Q hQ=>by
 refine pH N _ Q fun _=>?_
 repeat' first|with_reducible intro _|simp only[Y1,Y2,Y3,Y4]|with_reducible refine X ?_ ?_|refine⟨_,_,_,rfl,?_⟩|refine⟨_,rfl,?_⟩|refine And.intro (by first|omega|trivial|(show _=_;rfl)|(with_reducible constructor)<;>first|omega|trivial|rfl) ?_|refine (zAN t d hd hc) _ _ ?_|refine (pO t d hd hc) _ _ ?_|refine (zKQ t d hd) _ _ ?_|fail
 ·refine Qb (hQ _ (by omega)) ?_
  have h1:t.cnt<=30:=by omega
  have h2:t.dep<=8:=by omega
  simp [Ty.valid, *]
 ·refine Qb (hQ _ (by omega)) ?_
  have h2:¬t.dep<=8:=by omega
  simp [Ty.valid, *]
 ·refine Qb (hQ _ (by omega)) ?_
  have h1:¬t.cnt<=30:=by omega
  simp [Ty.valid, *]
theorem xY:∀ (t u:Ty) (d e:D),t.Is d->u.Is e->vK 33 [.dg 2 d,.dg 2 e] (zKl t u):=by
 refine Ty.ind fun k l ih u d e hd he N Q hQ=>?_
 cases u with
 | mk k' l'=>
 obtain ⟨a,es,c,rfl,hlen,hes⟩:=Ty.is_mk.1 hd
 obtain ⟨a',es',c',rfl,hlen',hes'⟩:=Ty.is_mk.1 he
 have hl:=hes.len
 have hl':=hes'.len
 simp only [zKl] at hQ
 have hf:vK 98 [.sv a 2 es c,.sv a' 2 es' c',.fn 33 []] (um l l'):=fun N Q hQ=>by
  have key:l.length=l'.length->∀ (N':Nat),N<=N'->(∀ N'',N'<=N''->Q (um l (l'.drop 0)) N'')->zP Q N a' es' c' a es c es.length (0:Nat) N':=by
   intro hll
   refine up hes hlen (fun i xs=>∀ (N':Nat),N<=N'->(∀ N'',N'<=N''->Q (um xs (l'.drop i)) N'')->zP Q N a' es' c' a es c es.length i N') ?_ ?_
   ·intro i hlt hi N' hN' hQ'
    refine xN _ _ _ _ _ _ _ _ _ _ _ ?_
    repeat' first|with_reducible intro _|simp only[hlt,Y1,Y2,Y3,Y4]|with_reducible refine X ?_ ?_|refine⟨_,_,_,rfl,?_⟩|refine⟨_,rfl,?_⟩|refine And.intro (by first|omega|trivial|(show _=_;rfl)|(with_reducible constructor)<;>first|omega|trivial|rfl) ?_|fail
    refine Qb (hQ' _ (by assumption)) ?_
    rw [mG (by omega)]
    rfl
   ·intro i x xs hat _ ih2 N' hN' hQ'
    have hb:=hat.b
    have hi':i<l'.length:=by omega
    have hg:l'[i]?=some l'[i]:=oF hi'
    have hd':l'.drop i=l'[i]::l'.drop (i+1):=mR hi'
    refine xN _ _ _ _ _ _ _ _ _ _ _ ?_
    rw [hd'] at hQ'
    repeat' first|with_reducible intro _|simp only[hat.lt,hat.w,oJ,Y1,Y2,Y3,Y4]|with_reducible refine X ?_ ?_|refine⟨_,_,_,rfl,?_⟩|refine⟨_,rfl,?_⟩|refine And.intro (by first|omega|trivial|(show _=_;rfl)|(with_reducible constructor)<;>first|omega|trivial|rfl) ?_|refine (ih x hat.m _ _ _ hat.r (hes'.get hg)) _ _ ?_|fail
    ·exact Qb (hQ' _ (by omega)) (by simp [um, *])
    ·exact ih2 _ (by omega) fun N'' h=>Qb (hQ' N'' (by omega)) (by simp [um, *])
  refine vh N _ _ _ _ _ _ Q fun _ _=>?_
  repeat' first|with_reducible intro _|simp only[Y1,Y2,Y3,Y4]|with_reducible refine X ?_ ?_|refine⟨_,_,_,rfl,?_⟩|refine⟨_,rfl,?_⟩|refine And.intro (by first|omega|trivial|(show _=_;rfl)|(with_reducible constructor)<;>first|omega|trivial|rfl) ?_|fail
  ·exact Qb (hQ _ (by assumption)) (zCM (by omega))
  ·exact key (by omega) N (oD _) hQ
 refine zAx N _ _ Q fun _ _=>?_
 repeat' first|with_reducible intro _|simp only[Y1,Y2,Y3,Y4]|with_reducible refine X ?_ ?_|refine⟨_,_,_,rfl,?_⟩|refine⟨_,rfl,?_⟩|refine And.intro (by first|omega|trivial|(show _=_;rfl)|(with_reducible constructor)<;>first|omega|trivial|rfl) ?_|refine hf _ _ ?_|fail
 ·exact Qb (hQ _ (by omega)) (by simp [*])
 ·exact Qb (hQ _ (by omega)) (by simp [*])
theorem rQ (s:ByteArray):zBW 250 [.str s] (zFJ s):=fun N Q hQ=>by
 refine zD3 N s Q ?_
 repeat' first|with_reducible intro _|simp only[Y1,Y2,Y3,Y4]|with_reducible refine X ?_ ?_|refine⟨_,_,_,rfl,?_⟩|refine⟨_,rfl,?_⟩|refine And.intro (by first|omega|trivial|(show _=_;rfl)|(with_reducible constructor)<;>first|omega|trivial|rfl) ?_|fail
 all_goals (refine Qi (hQ _ (by assumption)) ?_;unfold zFJ;(repeat' split)<;>first | rfl | contradiction)
def arI (k:Int) (nm:ByteArray):Int:=
 if k=4 then zFJ nm else if k=5 then 3 else if k=7\/k=8 then 2 else if k=6\/k=9\/k=10\/k=11\/k=12\/k=13 then 1 else 0
theorem zHJ {k n:Int} {nm ot:ByteArray} {t0 t1 r0 r1 x:D}:zBW 227 [.dg 9 (.ag [.lit (.int .i64 k),.lit (.string nm),.lit (.string ot),.lit (.int .i64 n),t0,t1,r0,r1,x])] (arI k nm):=fun N Q hQ=>by
 refine zG6 N _ Q fun _=>?_
 repeat' first|with_reducible intro _|simp only[Y1,Y2,Y3,Y4]|with_reducible refine X ?_ ?_|refine⟨_,_,_,rfl,?_⟩|refine⟨_,rfl,?_⟩|refine And.intro (by first|omega|trivial|(show _=_;rfl)|(with_reducible constructor)<;>first|omega|trivial|rfl) ?_|refine (rQ _) _ _ ?_|fail
 all_goals (refine Qi (hQ _ (by omega)) ?_;simp [arI, *])
theorem zCO (n:Int):vK 238 [.int .i64 n] (inB n 0 10006):=fun N Q hQ=>by
 refine zCR N n Q ?_
 repeat' first|with_reducible intro _|simp only[Y1,Y2,Y3,Y4]|with_reducible refine X ?_ ?_|refine⟨_,_,_,rfl,?_⟩|refine⟨_,rfl,?_⟩|refine And.intro (by first|omega|trivial|(show _=_;rfl)|(with_reducible constructor)<;>first|omega|trivial|rfl) ?_|refine (yd _ _ _) _ _ ?_|fail
 exact hQ _ (by omega)
def zEd (k:Int) (nm ot:ByteArray) (n:Int) (ty re:Ty):Bool:=
 if k=1\/k=8 then yL nm else if k=2 then inB n 0 10006 else if k=3 then inB n 0 1 else if k=4 then decide (zFJ nm>0)
 else if k=6 then yL nm&&ty.valid else if k=9 then yL nm&&(yL ot&&(!decide (nm=ot)&&(ty.valid&&re.valid))) else inB k 1 13
theorem zDr {k n:Int} {nm ot:ByteArray} {ty re:Ty} {t0 t1 r0 r1 x:D} (h:Tm.Hd nm ot ty re t0 t1 r0 r1) (hc:ty.cnt<=1073741824) (hc2:re.cnt<=1073741824) :
  vK 228 [.dg 9 (.ag [.lit (.int .i64 k),.lit (.string nm),.lit (.string ot),.lit (.int .i64 n),t0,t1,r0,r1,x])] (zEd k nm ot n ty re):=fun N Q hQ=>by
 refine zDu N _ Q fun _=>?_
 repeat' first|with_reducible intro _|simp only[Y1,Y2,Y3,Y4]|with_reducible refine X ?_ ?_|refine⟨_,_,_,rfl,?_⟩|refine⟨_,rfl,?_⟩|refine And.intro (by first|omega|trivial|(show _=_;rfl)|(with_reducible constructor)<;>first|omega|trivial|rfl) ?_|refine (rQ _) _ _ ?_|refine (qC _ h.nm) _ _ ?_|refine (qC _ h.ot) _ _ ?_|refine (zCO _) _ _ ?_|refine (yd _ _ _) _ _ ?_|refine (v8 _ _ h.ty hc) _ _ ?_|refine (v8 _ _ h.re hc2) _ _ ?_|fail
 all_goals (refine Qb (hQ _ (by omega)) ?_;simp [zEd, *])
theorem pT (t:Ty):zKl t t=true:=(zJR t t).2 rfl
def zJ5 (k:Int) (nm ot:ByteArray) (n:Int) (ty re:Ty) (m:Int):Bool:=
 decide (m=arI k nm)&&(zEd k nm ot n ty re&&((decide (k=1\/k=8\/k=4\/k=6\/k=9)||decide (nm=bytes []))&&((decide (k=9)||decide (ot=bytes []))&&((decide (k=2\/k=3)||decide (n=0)) &&
  ((decide (k=6\/k=9)||zKl ty tZero)&&(decide (k=9)||zKl re tZero))))))
theorem zDq {k n:Int} {nm ot:ByteArray} {ty re:Ty} {t0 t1 r0 r1:D} {a:Option Addr} {es:List D} {c:Nat} (h:Tm.Hd nm ot ty re t0 t1 r0 r1) (hc:ty.cnt<=1073741824) (hc2:re.cnt<=1073741824) :
  vK 179 [.dg 9 (.ag [.lit (.int .i64 k),.lit (.string nm),.lit (.string ot),.lit (.int .i64 n),t0,t1,r0,r1,.sl a 9 es c])] (zJ5 k nm ot n ty re es.length):=fun N Q hQ=>by
 refine zGX N _ Q fun _=>?_
 repeat' first|with_reducible intro _|simp only[Y1,Y2,Y3,Y4]|with_reducible refine X ?_ ?_|refine⟨_,_,_,rfl,?_⟩|refine⟨_,rfl,?_⟩|refine And.intro (by first|omega|trivial|(show _=_;rfl)|(with_reducible constructor)<;>first|omega|trivial|rfl) ?_|refine zHJ _ _ ?_|refine (zDr h hc hc2) _ _ ?_|refine (xY ty tZero _ _ h.ty zKr) _ _ ?_|refine (xY re tZero _ _ h.re zKr) _ _ ?_|refine (xY ty ty _ _ h.ty h.ty) _ _ ?_|refine (xY re re _ _ h.re h.re) _ _ ?_|fail
 all_goals first | (exfalso;omega) | (refine Qb (hQ _ (by omega)) ?_;simp [zJ5,pT, *];done) | (refine Qb (hQ _ (by omega)) ?_;simp_all [zJ5,pT];done)
theorem zOo (t:Ty):zKl t tZero=t.zero:=by
 cases t with
 | mk k l => cases l<;>simp [zKl,tZero,um,Ty.zero,Ty.k,Ty.as]
             try omega
theorem zJz {t:Ty} (h:t.zero=true):t.valid=false:=by
 cases t with
 | mk k l=>
   simp only [Ty.zero,Ty.k,Ty.as,oL,nz] at h
   simp [Ty.valid,Ty.form,zDk,h.1]
theorem zRz (n:Int):inB n 0 0=decide (n=0):=by
 rw [mE,xz,mA];omega
theorem zp (t:Ty) (b:Bool):(!t.valid&&(t.zero&&b))=(t.zero&&b):=by
 cases h:t.zero with
 | false=>simp
 | true=>rw [zJz h];simp
theorem zNa (k:Int) (nm ot:ByteArray) (n:Int) (ty re:Ty) (m:Int) (hm:0<=m):zJ5 k nm ot n ty re m=(zJ k nm ot n ty re&&m==zDY k nm):=by
 by_cases hk:k=1\/k=2\/k=3\/k=4\/k=5\/k=6\/k=7\/k=8\/k=9\/k=10\/k=11\/k=12\/k=13
 ·rw [zRB m]
  have b5:inB 5 1 13=true:=rfl
  have b7:inB 7 1 13=true:=rfl
  have b10:inB 10 1 13=true:=rfl
  have b11:inB 11 1 13=true:=rfl
  have b12:inB 12 1 13=true:=rfl
  have b13:inB 13 1 13=true:=rfl
  rcases hk with rfl | rfl | rfl | rfl | rfl | rfl | rfl | rfl | rfl | rfl | rfl | rfl | rfl
  all_goals
   simp [zJ5,arI,zEd,zJ,sN,xA,zDY,zOo,zRz,zp,b5,b7,b10,b11,b12,b13]
   try (rw [mE];simp [and_comm,and_left_comm,and_assoc])
 ·have h1:zDY k nm = -1:=by
   unfold zDY;rw [if_neg (by omega),if_neg (by omega),if_neg (by omega),if_neg (by omega),if_neg (by omega)]
  have h2:inB k 1 13=false:=by
   cases h:inB k 1 13 with
   | false=>rfl
   | true=>have:=xz.1 h;omega
  have h3:zEd k nm ot n ty re=false:=by
   unfold zEd;rw [if_neg (by omega),if_neg (by omega),if_neg (by omega),if_neg (by omega),if_neg (by omega),if_neg (by omega),h2]
  have h4:(m==zDY k nm)=false:=by rw [h1,zRB];exact mT (by omega)
  rw [h4,zJ5,h3]
  simp
theorem zMr {k n:Int} {nm ot:ByteArray} {ty re:Ty} {t0 t1 r0 r1:D} {a:Option Addr} {es:List D} {c:Nat} (h:Tm.Hd nm ot ty re t0 t1 r0 r1) (hc:ty.cnt<=1073741824) (hc2:re.cnt<=1073741824) :
  vK 179 [.dg 9 (.ag [.lit (.int .i64 k),.lit (.string nm),.lit (.string ot),.lit (.int .i64 n),t0,t1,r0,r1,.sl a 9 es c])] (zJ k nm ot n ty re&&(es.length:Int)==zDY k nm):=by
 rw [<-zNa _ _ _ _ _ _ _ (by omega)]
 exact zDq h hc hc2
theorem zG2:∀ l:List Tm,ut l=!(l.any fun x=>!x.ok)
 | []=>rfl
 | t::ts=>by simp only [ut,List.any_cons,zG2 ts];cases t.ok<;>simp
theorem zCA {p:Tm->Bool} {l:List Tm} {es:List D} (h:All2 Tm.Is l es) (hlen:es.length<=4611686018427387904) (ad:Addr) (hp:∀ x∈l,∀ d,x.Is d->vK 189 [.dg 9 d,.pd ad 0 (.fn 179 [])] (p x)) (a:Option Addr) (c:Nat) :
  vK 188 [.sv a 9 es c,.fn 189 [.pd ad 0 (.fn 179 [])]] (l.any p):=fun N Q hQ=>by
 have hi:zBW 236 [.sv a 9 es c,.fn 189 [.pd ad 0 (.fn 179 [])]] (zBQ p l 0):=fun N Q hQ=>by
  refine vn N a es c ad Q fun _=>?_
  refine up h hlen (fun i xs=>∀ (N':Nat),N<=N'->(∀ N'',N'<=N''->Q (zBQ p xs i) N'')->zm Q N a es c ad es.length i N') ?_ ?_ N (oD _) hQ
  ·intro i hlt _ N' hN' hQ'
   refine xO _ _ _ _ _ _ _ _ _ ?_
   repeat' first|with_reducible intro _|simp only[hlt,Y1,Y2,Y3,Y4]|with_reducible refine X ?_ ?_|refine⟨_,_,_,rfl,?_⟩|refine⟨_,rfl,?_⟩|refine And.intro (by first|omega|trivial|(show _=_;rfl)|(with_reducible constructor)<;>first|omega|trivial|rfl) ?_|fail
   exact hQ' _ (by omega)
  ·intro i x xs hat _ ih2 N' hN' hQ'
   have hb:=hat.b
   simp only [zBQ] at hQ'
   refine xO _ _ _ _ _ _ _ _ _ ?_
   repeat' first|with_reducible intro _|simp only[hat.lt,hat.w,oJ,Y1,Y2,Y3,Y4]|with_reducible refine X ?_ ?_|refine⟨_,_,_,rfl,?_⟩|refine⟨_,rfl,?_⟩|refine And.intro (by first|omega|trivial|(show _=_;rfl)|(with_reducible constructor)<;>first|omega|trivial|rfl) ?_|refine (hp x hat.m _ hat.r) _ _ ?_|fail
   ·exact Qi (hQ' _ (by omega)) (by rw [if_pos (by assumption)])
   ·rename_i h;exact ih2 _ (by omega) fun N'' h2=>Qi (hQ' _ (by omega)) (by rw [h];simp)
 refine wz N a es c ad Q fun _=>?_
 repeat' first|with_reducible intro _|simp only[Y1,Y2,Y3,Y4]|with_reducible refine X ?_ ?_|refine⟨_,_,_,rfl,?_⟩|refine⟨_,rfl,?_⟩|refine And.intro (by first|omega|trivial|(show _=_;rfl)|(with_reducible constructor)<;>first|omega|trivial|rfl) ?_|refine hi _ _ ?_|fail
 exact Qb (hQ _ (by omega)) (qU _ l 0 (by omega)).symm
theorem zJ6:∀ (t:Tm) (d:D),t.Is d->t.cnt<=1073741824->vK 133 [.dg 9 d,.fn 179 []] t.ok:=by
 refine Tm.ind fun k nm ot n ty re l ih d hd hc N Q hQ=>?_
 obtain ⟨t0,t1,r0,r1,a,es,c,rfl,hh,hlen,hes⟩:=Tm.is_mk.1 hd
 have hl:=hes.len
 simp only [Tm.cnt] at hc
 refine pF N _ Q fun _=>?_
 simp only [Tm.ok,zG2,<-hl] at hQ
 repeat' first|with_reducible intro _|simp only[Y1,Y2,Y3,Y4]|with_reducible refine X ?_ ?_|refine⟨_,_,_,rfl,?_⟩|refine⟨_,rfl,?_⟩|refine And.intro (by first|omega|trivial|(show _=_;rfl)|(with_reducible constructor)<;>first|omega|trivial|rfl) ?_|refine (zMr hh (by omega) (by omega)) _ _ ?_|refine (zCA hes hlen _ (fun x hx d hd=>fun N Q hQ=>rG N d _ Q fun _ N1 hN1=>ih x hx d hd (by have:=wc hx;omega) N1 _ fun N2 hN2 hle N3 hN3=>hQ N3 (by omega)) _ _) _ _ ?_|fail
 ·have h:(zJ k nm ot n ty re&&(es.length:Int)==zDY k nm)=true:=by assumption
  exact Qb (hQ _ (by omega)) (by rw [h,Bool.and_true])
 ·have h:(zJ k nm ot n ty re&&(es.length:Int)==zDY k nm)=false:=by assumption
  exact Qb (hQ _ (by omega)) (by rw [h,mu])
theorem wN (t:Tm) (d:D) (hd:t.Is d) (hc:t.cnt<=1073741824):vK 119 [.dg 9 d] t.ok:=fun N Q hQ=>by
 refine zFM N _ Q fun _=>?_
 repeat' first|with_reducible intro _|simp only[Y1,Y2,Y3,Y4]|with_reducible refine X ?_ ?_|refine⟨_,_,_,rfl,?_⟩|refine⟨_,rfl,?_⟩|refine And.intro (by first|omega|trivial|(show _=_;rfl)|(with_reducible constructor)<;>first|omega|trivial|rfl) ?_|refine (zJ6 t d hd hc) _ _ ?_|fail
 exact hQ _ (by omega)
theorem zIp {k n m:Int} {c1 c2 c4 c5 c6 c7 c8:D} (h:0<=m/\m<=2):zBW 207 [.dg 9 (.ag [.lit (.int .i64 k),c1,c2,.lit (.int .i64 n),c4,c5,c6,c7,c8]),.int .i64 m] (xC k m):=fun N Q hQ=>by
 refine tN N _ m Q fun _=>?_
 rw [i64_in (m+1) (by omega),i64_in (m - 1) (by omega)]
 repeat' first|with_reducible intro _|simp only[Y1,Y2,Y3,Y4]|with_reducible refine X ?_ ?_|refine⟨_,_,_,rfl,?_⟩|refine⟨_,rfl,?_⟩|refine And.intro (by first|omega|trivial|(show _=_;rfl)|(with_reducible constructor)<;>first|omega|trivial|rfl) ?_|fail
 all_goals (refine Qi (hQ _ (by omega)) ?_;simp [xC, *])
theorem zAo (d:D) (m:Int):vK 164 [.dg 9 d,.int .i64 m] (inB m 0 2):=fun N Q hQ=>by
 refine zAa N _ m Q fun _=>?_
 repeat' first|with_reducible intro _|simp only[Y1,Y2,Y3,Y4]|with_reducible refine X ?_ ?_|refine⟨_,_,_,rfl,?_⟩|refine⟨_,rfl,?_⟩|refine And.intro (by first|omega|trivial|(show _=_;rfl)|(with_reducible constructor)<;>first|omega|trivial|rfl) ?_|refine (yd _ _ _) _ _ ?_|fail
 exact hQ _ (by omega)
theorem zOH:∀ (t:Tm) (d:D),t.Is d->∀ m:Int,vK 163 [.dg 9 d,.int .i64 m,.fn 164 []] (t.lev m):=by
 refine Tm.ind fun k nm ot n ty re l ih d hd m N Q hQ=>?_
 obtain ⟨t0,t1,r0,r1,a,es,c,rfl,hh,hlen,hes⟩:=Tm.is_mk.1 hd
 have hl:=hes.len
 refine zBT N _ m Q fun _=>?_
 cases hin:inB m 0 2 with
 | false=>
   repeat' first|with_reducible intro _|simp only[hin,Y1,Y2,Y3,Y4]|with_reducible refine X ?_ ?_|refine⟨_,_,_,rfl,?_⟩|refine⟨_,rfl,?_⟩|refine And.intro (by first|omega|trivial|(show _=_;rfl)|(with_reducible constructor)<;>first|omega|trivial|rfl) ?_|refine (zAo _ _) _ _ ?_|fail
   exact Qb (hQ _ (by omega)) (by simp [Tm.lev,hin])
 | true=>
   have hb:=xz.1 hin
   have key:=up hes hlen (fun i xs=>∀ (N':Nat),N<=N'->(∀ N'',N'<=N''->Q (t6 xs (xC k m)) N'')->xj Q N m a es c es.length i (.ag [.lit (.int .i64 k),.lit (.string nm),.lit (.string ot),.lit (.int .i64 n),t0,t1,r0,r1,.sl a 9 es c]) N') ?_ ?_
   ·repeat' first|with_reducible intro _|simp only[hin,Y1,Y2,Y3,Y4]|with_reducible refine X ?_ ?_|refine⟨_,_,_,rfl,?_⟩|refine⟨_,rfl,?_⟩|refine And.intro (by first|omega|trivial|(show _=_;rfl)|(with_reducible constructor)<;>first|omega|trivial|rfl) ?_|refine (zAo _ _) _ _ ?_|fail
    exact key _ (by omega) fun N'' h=>Qb (hQ N'' (by omega)) (by simp [Tm.lev,hin])
   ·intro i hlt _ N' hN' hQ'
    refine sD _ _ _ _ _ _ _ _ _ _ ?_
    repeat' first|with_reducible intro _|simp only[hlt,Y1,Y2,Y3,Y4]|with_reducible refine X ?_ ?_|refine⟨_,_,_,rfl,?_⟩|refine⟨_,rfl,?_⟩|refine And.intro (by first|omega|trivial|(show _=_;rfl)|(with_reducible constructor)<;>first|omega|trivial|rfl) ?_|fail
    exact Qb (hQ' _ (by omega)) (by simp [t6])
   ·intro i x xs hat _ ih2 N' hN' hQ'
    have hb2:=hat.b
    refine sD _ _ _ _ _ _ _ _ _ _ ?_
    repeat' first|with_reducible intro _|simp only[hat.lt,hat.w,oJ,Y1,Y2,Y3,Y4]|with_reducible refine X ?_ ?_|refine⟨_,_,_,rfl,?_⟩|refine⟨_,rfl,?_⟩|refine And.intro (by first|omega|trivial|(show _=_;rfl)|(with_reducible constructor)<;>first|omega|trivial|rfl) ?_|refine (zIp hb) _ _ ?_|refine (ih x hat.m _ hat.r _) _ _ ?_|fail
    ·refine Qb (hQ' _ (by omega)) ?_;simp [t6, *]
    ·exact ih2 _ (by omega) fun N'' h=>Qb (hQ' N'' (by omega)) (by simp [t6, *])
theorem sS (t:Tm) (d:D) (hd:t.Is d) (hc:t.cnt<=1073741824) (m:Int):vK 94 [.dg 9 d,.int .i64 m] (zB9 t m):=fun N Q hQ=>by
 refine zCI N _ m Q fun _=>?_
 repeat' first|with_reducible intro _|simp only[Y1,Y2,Y3,Y4]|with_reducible refine X ?_ ?_|refine⟨_,_,_,rfl,?_⟩|refine⟨_,rfl,?_⟩|refine And.intro (by first|omega|trivial|(show _=_;rfl)|(with_reducible constructor)<;>first|omega|trivial|rfl) ?_|refine (wN t d hd hc) _ _ ?_|refine (zOH t d hd m) _ _ ?_|fail
 all_goals (refine Qb (hQ _ (by omega)) ?_;simp [zB9, *])
theorem zQJ:∀ (t:Ty) (d:D),t.Is d->t.cnt<=1073741824->zPr 104 [.dg 2 d] t:=by
 refine Ty.ind fun k l ih d hd hc N Q hQ=>?_
 obtain ⟨a,es,c,rfl,hlen,hes⟩:=Ty.is_mk.1 hd
 have hl:=hes.len
 simp only [Ty.cnt] at hc
 have hlc:=rk l
 refine zC3 N _ Q fun _=>⟨_,rfl,_,_,_,rfl,?_⟩
 have key:=up hes hlen (fun i xs=>∀ (N':Nat),N<=N'->(i=0->we Q N a es c es.length i 0 none [] 0 k none [] 0 N')/\∀ (m q:Nat) (r:List D),m=r.length->All2 Ty.Is (l.take i) r->OwnL N N' r ->
  yP Q N a es c es.length i 0 none [] 0 k m q r q N') ?_ ?_
 ·exact (key N (oD _)).1 rfl
 ·intro i hlt hi N' hN'
  refine ⟨fun h0=>uf _ _ _ _ _ _ _ _ _ _ _ _ _ _ _ _ ?_,fun m q r hm hr ho=>w4 _ _ _ _ _ _ _ _ _ _ _ _ _ _ _ _ _ ?_⟩
  ·repeat' first|with_reducible intro _|simp only[hlt,Y1,Y2,Y3,Y4]|with_reducible refine X ?_ ?_|refine⟨_,_,_,rfl,?_⟩|refine⟨_,rfl,?_⟩|refine And.intro (by first|omega|trivial|(show _=_;rfl)|(with_reducible constructor)<;>first|omega|trivial|rfl) ?_|fail
   have:l=[]:=oa (by omega)
   subst this
   exact hQ _ _ (by omega) (xE _) zGN
  ·repeat' first|with_reducible intro _|simp only[hlt,Y1,Y2,Y3,Y4]|with_reducible refine X ?_ ?_|refine⟨_,_,_,rfl,?_⟩|refine⟨_,rfl,?_⟩|refine And.intro (by first|omega|trivial|(show _=_;rfl)|(with_reducible constructor)<;>first|omega|trivial|rfl) ?_|fail
   rename_i a' N3 hN3 hf N4 hN4
   rw [nB (by omega)] at hr
   exact hQ _ _ (by omega) (Ty.is_mk.2 ⟨_,_,_,rfl,by have:=hr.len;omega,hr⟩) (zEP (yu (xT ((zEN ho hf (by omega)).mono (oD _) hN4))))
 ·intro i x xs hat _ ih2 N' hN'
  have hb:=hat.b
  have hxc:=wd hat.m
  refine ⟨fun h0=>uf _ _ _ _ _ _ _ _ _ _ _ _ _ _ _ _ ?_,fun m q r hm hr ho=>w4 _ _ _ _ _ _ _ _ _ _ _ _ _ _ _ _ _ ?_⟩
  ·repeat' first|with_reducible intro _|simp only[hat.lt,hat.w,oJ,Y1,Y2,Y3,Y4]|with_reducible refine X ?_ ?_|refine⟨_,_,_,rfl,?_⟩|refine⟨_,rfl,?_⟩|refine And.intro (by first|omega|trivial|(show _=_;rfl)|(with_reducible constructor)<;>first|omega|trivial|rfl) ?_|refine (ih x hat.m _ hat.r (by omega)) _ _ ?_|fail
   rename_i N2 hN2 d' N3 hN3 hx hox hle hbel
   subst h0
   exact ⟨by unfold zB;simp,fun c2=>(ih2 _ (by omega)).2 _ _ _ rfl (by rw [wt hat.g];exact ⟨_,_,rfl,hx,rfl⟩) (xT (hox.mono (by omega) (oD _)))⟩
  ·repeat' first|with_reducible intro _|simp only[hat.lt,hat.w,oJ,Y1,Y2,Y3,Y4]|with_reducible refine X ?_ ?_|refine⟨_,_,_,rfl,?_⟩|refine⟨_,rfl,?_⟩|refine And.intro (by first|omega|trivial|(show _=_;rfl)|(with_reducible constructor)<;>first|omega|trivial|rfl) ?_|refine (ih x hat.m _ hat.r (by omega)) _ _ ?_|fail
   rename_i N2 hN2 d' N3 hN3 hx hox hle hbel
   have hrl:=hr.len
   have hli:(l.take i).length=i:=by rw [nH];omega
   refine ⟨by unfold zB;simp only [oH,mc];omega,fun c2=>?_⟩
   exact (ih2 _ (by omega)).2 _ _ _ rfl (by rw [wt hat.g];exact hr.snoc hx) (wb (ho.mono (oD _) hN2) (xT hox) (by omega) hN3)
theorem vU {a:Option Addr} {z c:Nat} {es:List D}:∀ x∈(D.sl a z es c).foot,x∈zE es\/∃ ad,a=some ad/\x=ad.block:=by
 intro x hx
 cases a with
 | none=>simp only [D.foot] at hx;exact .inl hx
 | some ad=>
   simp only [D.foot] at hx
   split at hx
   ·simp at hx
   ·rcases oG.1 hx with rfl | hx
    ·exact .inr ⟨ad,rfl,rfl⟩
    ·exact .inl hx
theorem wC {bs:List (Option Addr)} {N N':Nat} {d:D} (hb:ww N bs) (ho:Own N N' d):Off bs d:=fun a ha ad had hm=>by
 have:=hb a ha ad had
 have:=ho.lo _ hm
 omega
mutual
def Tm.sz:Tm->Nat
 | .mk _ _ _ _ _ _ l=>1+za l
def za:List Tm->Nat
 | []=>0
 | t::ts=>t.sz+za ts
end
mutual
def Tm.dp:Tm->Nat
 | .mk _ _ _ _ _ _ l=>t7 l+1
def t7:List Tm->Nat
 | []=>0
 | t::ts=>max t.dp (t7 ts)
end
mutual
theorem Tm.sz_cnt:∀ t:Tm,t.sz<=t.cnt
 | .mk _ _ _ _ ty re l=>by simp only [Tm.sz,Tm.cnt];have:=zHm l;omega
theorem zHm:∀ l:List Tm,za l<=zI l
 | []=>oD _
 | t::ts=>by simp only [za,zI];have:=t.sz_cnt;have:=zHm ts;omega
end
mutual
theorem Tm.dp_cnt:∀ t:Tm,t.dp<=t.cnt
 | .mk _ _ _ _ ty re l=>by simp only [Tm.dp,Tm.cnt];have:=zBu l;omega
theorem zBu:∀ l:List Tm,t7 l<=zI l
 | []=>oD _
 | t::ts=>by simp only [t7,zI];have:=t.dp_cnt;have:=zBu ts;omega
end
/-- one form of a body's nodes -/
def zRA (k:Int):Bool:=inB k 1 5||k==8
mutual
def Tm.isB:Tm->Bool
 | .mk k _ _ _ _ _ l=>zRu l&&zRA k
def zRu:List Tm->Bool
 | []=>true
 | t::ts=>t.isB&&zRu ts
end
def Tm.vd (t:Tm):Bool:=decide (t.sz<=80)&&decide (t.dp<=20)&&t.ok
theorem qL:∀ (t:Tm) (d:D),t.Is d->∀ n:Int,0<=n->n<=1000->zBW 170 [.dg 9 d,.int .i64 n] (if (t.sz:Int)<=n then n - t.sz else -1):=by
 refine Tm.ind fun k nm ot n0 ty re l ih d hd n hn0 hn1 N Q hQ=>?_
 obtain ⟨t0,t1,r0,r1,a,es,c,rfl,hh,hlen,hes⟩:=Tm.is_mk.1 hd
 refine zFt N _ n Q fun _=>?_
 have key:=up hes hlen (fun i xs=>∀ (m:Int) (N':Nat),N<=N' -> -1<=m->m<=1000->(∀ N'',N'<=N''->Q (if m<0 then -1 else if (za xs:Int)<=m then m - za xs else -1) N'') ->
  wA Q N m i (.ag [.lit (.int .i64 k),.lit (.string nm),.lit (.string ot),.lit (.int .i64 n0),t0,t1,r0,r1,.sl a 9 es c]) N') ?_ ?_
 ·rw [i64_in _ (by omega)]
  refine key (n - 1) N (oD _) (by omega) (by omega) fun N' hN'=>Qi (hQ N' hN') ?_
  simp only [Tm.sz]
  (repeat' split)<;>omega
 ·intro i hlt _ m N' hN' h1 h2 hQ'
  refine t8 _ _ _ _ _ _ ?_
  repeat' first|with_reducible intro _|simp only[hlt,Y1,Y2,Y3,Y4]|with_reducible refine X ?_ ?_|refine⟨_,_,_,rfl,?_⟩|refine⟨_,rfl,?_⟩|refine And.intro (by first|omega|trivial|(show _=_;rfl)|(with_reducible constructor)<;>first|omega|trivial|rfl) ?_|fail
  refine Qi (hQ' _ (by assumption)) ?_
  simp only [za]
  (repeat' split)<;>omega
 ·intro i x xs hat _ ih2 m N' hN' h1 h2 hQ'
  have hb:=hat.b
  refine t8 _ _ _ _ _ _ ?_
  repeat' first|with_reducible intro _|simp only[hat.lt,hat.w,oJ,Y1,Y2,Y3,Y4]|with_reducible refine X ?_ ?_|refine⟨_,_,_,rfl,?_⟩|refine⟨_,rfl,?_⟩|refine And.intro (by first|omega|trivial|(show _=_;rfl)|(with_reducible constructor)<;>first|omega|trivial|rfl) ?_|refine (ih x hat.m _ hat.r m (by omega) (by omega)) _ _ ?_|fail
  ·refine ih2 _ _ (by omega) (by split<;>omega) (by split<;>omega) fun N'' hN''=>Qi (hQ' N'' (by omega)) ?_
   simp only [za]
   (repeat' split)<;>omega
  ·refine Qi (hQ' _ (by assumption)) ?_
   rw [if_pos (by omega)]
   omega
theorem zD2:∀ (t:Tm) (d:D),t.Is d->t.cnt<=1073741824->zBW 171 [.dg 9 d] t.dp:=by
 refine Tm.ind fun k nm ot n0 ty re l ih d hd hc N Q hQ=>?_
 obtain ⟨t0,t1,r0,r1,a,es,c,rfl,hh,hlen,hes⟩:=Tm.is_mk.1 hd
 refine zDa N _ Q fun _=>?_
 simp only [Tm.cnt] at hc
 have hdl:=zBu l
 have key:=up hes hlen (fun i xs=>∀ (m:Nat) (N':Nat),N<=N'->max m (t7 xs)=t7 l->xZ Q N (m:Int) i (.ag [.lit (.int .i64 k),.lit (.string nm),.lit (.string ot),.lit (.int .i64 n0),t0,t1,r0,r1,.sl a 9 es c]) N') ?_ ?_
 ·exact key 0 N (oD _) (by omega)
 ·intro i hlt _ m N' hN' hm
  simp only [t7] at hm
  refine tM _ _ _ _ _ _ ?_
  repeat' first|with_reducible intro _|simp only[hlt,Y1,Y2,Y3,Y4]|with_reducible refine X ?_ ?_|refine⟨_,_,_,rfl,?_⟩|refine⟨_,rfl,?_⟩|refine And.intro (by first|omega|trivial|(show _=_;rfl)|(with_reducible constructor)<;>first|omega|trivial|rfl) ?_|fail
  rw [i64_in _ (by omega)]
  refine Qi (hQ _ (oS hN' (by assumption))) ?_
  simp only [Tm.dp]
  omega
 ·intro i x xs hat _ ih2 m N' hN' hm
  have hb:=hat.b
  have hxc:=wc hat.m
  simp only [t7] at hm
  refine tM _ _ _ _ _ _ ?_
  repeat' first|with_reducible intro _|simp only[hat.lt,hat.w,oJ,Y1,Y2,Y3,Y4]|with_reducible refine X ?_ ?_|refine⟨_,_,_,rfl,?_⟩|refine⟨_,rfl,?_⟩|refine And.intro (by first|omega|trivial|(show _=_;rfl)|(with_reducible constructor)<;>first|omega|trivial|rfl) ?_|refine (ih x hat.m _ hat.r (by omega)) _ _ ?_|refine (zAp _ _) _ _ ?_|fail
  have e:max (m:Int) (x.dp:Int)=((max m x.dp:Nat):Int):=by omega
  rw [e]
  exact ih2 _ _ (by omega) (by omega)
theorem pY (t:Tm) (d:D) (hd:t.Is d) (hc:t.cnt<=1073741824):vK 106 [.dg 9 d] t.vd:=fun N Q hQ=>by
 refine qK N _ Q fun _=>?_
 by_cases h80:t.sz<=80
 ·have h1:((t.sz:Int)<=80):=by omega
  repeat' first|with_reducible intro _|simp only[if_pos h1,Y1,Y2,Y3,Y4]|with_reducible refine X ?_ ?_|refine⟨_,_,_,rfl,?_⟩|refine⟨_,rfl,?_⟩|refine And.intro (by first|omega|trivial|(show _=_;rfl)|(with_reducible constructor)<;>first|omega|trivial|rfl) ?_|refine (qL t d hd _ (by omega) (by omega)) _ _ ?_|refine (zD2 t d hd hc) _ _ ?_|refine (vD t d hd hc) _ _ ?_|fail
  all_goals first | omega | skip
  ·have h8:t.dp<=20:=by omega
   refine Qb (hQ _ (by omega)) ?_;simp [Tm.vd, *]
  ·have h8:¬t.dp<=20:=by omega
   refine Qb (hQ _ (by omega)) ?_;simp [Tm.vd, *]
 ·have h1:¬((t.sz:Int)<=80):=by omega
  repeat' first|with_reducible intro _|simp only[if_neg h1,Y1,Y2,Y3,Y4]|with_reducible refine X ?_ ?_|refine⟨_,_,_,rfl,?_⟩|refine⟨_,rfl,?_⟩|refine And.intro (by first|omega|trivial|(show _=_;rfl)|(with_reducible constructor)<;>first|omega|trivial|rfl) ?_|refine (qL t d hd _ (by omega) (by omega)) _ _ ?_|fail
  all_goals first | omega | skip
  refine Qb (hQ _ (by omega)) ?_;simp [Tm.vd, *]
theorem yg (l:List ByteArray) (hl:l.length<=4611686018427387904) (a:Option Addr) (c:Nat) (s:ByteArray):zBW 22 [.sv a 0 (zA l) c,.str s] (zBQ (fun x=>decide (x=s)) l 0):=fun N Q hQ=>by
 have hes:=yx l
 have hlen:(zA l).length<=4611686018427387904:=by rw [hes.len];exact hl
 refine zDj N a _ c s Q fun _=>?_
 refine up hes hlen (fun i xs=>∀ (N':Nat),N<=N'->(∀ N'',N'<=N''->Q (zBQ (fun x=>decide (x=s)) xs i) N'')->xS Q N a (zA l) c s i N') ?_ ?_ N (oD _) hQ
 ·intro i hlt _ N' hN' hQ'
  refine tA _ _ _ _ _ _ _ _ ?_
  repeat' first|with_reducible intro _|simp only[hlt,Y1,Y2,Y3,Y4]|with_reducible refine X ?_ ?_|refine⟨_,_,_,rfl,?_⟩|refine⟨_,rfl,?_⟩|refine And.intro (by first|omega|trivial|(show _=_;rfl)|(with_reducible constructor)<;>first|omega|trivial|rfl) ?_|fail
  exact hQ' _ (by omega)
 ·intro i x xs hat _ ih2 N' hN' hQ'
  have hb:=hat.b
  have hr:=hat.r
  simp only [zBQ] at hQ'
  refine tA _ _ _ _ _ _ _ _ ?_
  repeat' first|with_reducible intro _|simp only[hat.lt,hat.w,oJ,hr,Y1,Y2,Y3,Y4]|with_reducible refine X ?_ ?_|refine⟨_,_,_,rfl,?_⟩|refine⟨_,rfl,?_⟩|refine And.intro (by first|omega|trivial|(show _=_;rfl)|(with_reducible constructor)<;>first|omega|trivial|rfl) ?_|fail
  ·rename_i h _ _;subst h;exact Qi (hQ' _ (by omega)) (by simp)
  ·rename_i h;exact ih2 _ hN' fun N'' h2=>Qi (hQ' _ h2) (by rw [if_neg (by simpa using h)];simp)
theorem wX (l:List ByteArray) (s:ByteArray):zA l++[.lit (.string s)]=zA (l++[s]):=by simp [zA]
theorem zH (l:List ByteArray):(zA l).length=l.length:=by simp [zA]
end Go.Proofs.YtkdjhkfiolhkiaaGreat
