/- Parameters: what they are; the laws' sizes, copies, equality and marks on them. -/
import Derived.Test.YtlahkdflngobiaaGreatDoorA4
import Derived.Test.YtlahkdflngobiaaGreatDoorKa
import Derived.Test.YtlahkdflngobiaaGreatDoorA3
import Derived.Test.YtlahkdflngobiaaGreatDoorKi
set_option linter.unusedVariables false
set_option linter.unusedSimpArgs false
namespace Go.Proofs.YtlahkdflngobiaaGreatDoor
open Go Go.Proofs Go.Proofs.Tryz Go.IntWalk
structure Pm where
 nm:ByteArray
 ty:Ty
 dy:Bool
def Pm.Is (g:Pm) (d:D):Prop:=∃ t0 t1,d=.ag [.t g.nm,t0,t1,.lit (.bool g.dy)]/\g.nm.size<=4611686018427387904/\g.ty.Is (.ag [t0,t1])
structure Pms (g:List Pm) (es:List D):Prop where
 len:es.length<=4611686018427387904
 all:All2 Pm.Is g es
theorem yd (n a b:Int):uN 99 [.j n,.j a,.j b] (inB n a b):=λN Q I=>by
 refine zJj N n a b Q ?_
 repeat' first|with_reducible intro _|simp only[Y1,Y2,Y3,Y4]|with_reducible refine X ?_ ?_|refine⟨_,_,_,rfl,?_⟩|refine⟨_,rfl,?_⟩|refine And.intro (by first|omega|trivial|(show _=_;rfl)|(with_reducible constructor)<;>first|omega|trivial|rfl) ?_|fail
 all_goals simpa [inB, *] using I _ (by omega)
def s8 {α:Type} (p:α->Bool):List α->Int->Int
 | [],_ => -1
 | x::xs,i=>if p x then i else s8 p xs (i+1)
theorem wb {α:Type} (p:α->Bool):∀ (l:List α) (i:Int),0<=i->decide (s8 p l i≥0)=l.any p
 | [],i,h=>by simp [s8]
 | x::xs,i,h=>by
   have I:=wb p xs (i+1) (by omega)
   rw [nP,nf] at I ⊢
   simp only [s8,mW,nk]
   by_cases J:p x=true
   ·simp only [J,mf,true_or,iff_true];exact h
   ·simpa [J] using I
/-- a row of words -/
def zA (l:List ByteArray):List D:=l.map λs=>.t s
theorem xk:∀ l:List ByteArray,All2 (λs d=>d=.t s) l (zA l)
 | []=>rfl
 | s::l=>⟨_,_,rfl,rfl,xk l⟩
theorem zGZ (l:List ByteArray) (hl:l.length<=4611686018427387904) (a:Option Addr) (c:Nat) (s:ByteArray):zAO 158 [.sv a 0 (zA l) c,.str s] (s8 (λx=>decide (s=x)) l 0):=λN Q hQ=>by
 have O:=xk l
 have hlen:(zA l).length<=4611686018427387904:=by rw [O.len];exact hl
 refine zBI N a _ c s Q λ_=>?_
 refine up O hlen (λi xs=>∀ (N':Nat),N<=N'->(∀ N'',N'<=N''->Q (s8 (λx=>decide (s=x)) xs i) N'')->y4 Q N a (zA l) c s ((zA l).length:Int) i N') ?_ ?_ N (oB _) hQ
 ·intro i ab _ N' aa I
  refine uf _ _ _ _ _ _ _ _ _ ?_
  repeat' first|with_reducible intro _|simp only[ab,Y1,Y2,Y3,Y4]|with_reducible refine X ?_ ?_|refine⟨_,_,_,rfl,?_⟩|refine⟨_,rfl,?_⟩|refine And.intro (by first|omega|trivial|(show _=_;rfl)|(with_reducible constructor)<;>first|omega|trivial|rfl) ?_|fail
  exact I _ (by omega)
 ·intro i x xs J _ ac N' aa I
  have hb:=J.b
  have hr:=J.r
  simp only [s8] at I
  refine uf _ _ _ _ _ _ _ _ _ ?_
  repeat' first|with_reducible intro _|simp only[J.lt,J.w,oK,hr,Y1,Y2,Y3,Y4]|with_reducible refine X ?_ ?_|refine⟨_,_,_,rfl,?_⟩|refine⟨_,rfl,?_⟩|refine And.intro (by first|omega|trivial|(show _=_;rfl)|(with_reducible constructor)<;>first|omega|trivial|rfl) ?_|fail
  ·rename_i h _ _;subst h;exact Qi (I _ (by omega)) (by simp)
  ·rename_i h;exact ac _ aa λN'' h2=>Qi (I _ h2) (by rw [if_neg (by simpa using h)];simp)
theorem xw (l:List ByteArray) (I:l.length<=4611686018427387904) (a:Option Addr) (c:Nat) (s:ByteArray):uN 117 [.sv a 0 (zA l) c,.str s] (l.any λx=>decide (s=x)):=λN Q J=>by
 refine qi N a _ c s Q λ_=>?_
 repeat' first|with_reducible intro _|simp only[Y1,Y2,Y3,Y4]|with_reducible refine X ?_ ?_|refine⟨_,_,_,rfl,?_⟩|refine⟨_,rfl,?_⟩|refine And.intro (by first|omega|trivial|(show _=_;rfl)|(with_reducible constructor)<;>first|omega|trivial|rfl) ?_|refine (zGZ l I a c s) _ _ ?_|fail
 exact Qb (J _ (by omega)) (wb _ l 0 (by omega)).symm
theorem tI (s:ByteArray) (hs:s.size<=4611686018427387904):uN 135 [.str s] (rE s):=λN Q hQ=>by
 refine zJD N s Q ?_
 have key:=upN hs (λi=>∀ N',N<=N'->(∀ N'',N'<=N''->Q (sY s i&&zH3 s) N'')->xV Q N s (s.size:Int) i N') ?_ ?_
 ·exact key N (oB _) hQ
 ·intro J N' O I
  have hc:=xw [bytes [105,102],bytes [108,101,116],bytes [108,105,102,116],bytes [114,101,99],bytes [114,117,110]] (by simp)
  simp only [zA,List.map] at hc
  refine pX _ _ _ _ _ _ ?_
  repeat' first|with_reducible intro _|simp only[J,Y1,Y2,Y3,Y4]|with_reducible refine X ?_ ?_|refine⟨_,_,_,rfl,?_⟩|refine⟨_,rfl,?_⟩|refine And.intro (by first|omega|trivial|(show _=_;rfl)|(with_reducible constructor)<;>first|omega|trivial|rfl) ?_|refine (yd _ _ _) _ _ ?_|refine (hc _ _ _) _ _ ?_|fail
  all_goals (refine Qb (I _ (by omega)) ?_;rw [zDn])
  ·simp only [zH3,mW,List.any_nil,Bool.or_false, *]
   cases decide (s=bytes [105,102])<;>cases decide (s=bytes [108,101,116])<;>cases decide (s=bytes [108,105,102,116])<;>cases decide (s=bytes [114,101,99])<;>cases decide (s=bytes [114,117,110])<;>rfl
  ·simp [zH3, *]
 ·intro i hi J hw aa N' O I
  refine pX _ _ _ _ _ _ ?_
  rw [zCS hi] at I
  repeat' first|with_reducible intro _|simp only[J,hw,oK,Y1,Y2,Y3,Y4]|with_reducible refine X ?_ ?_|refine⟨_,_,_,rfl,?_⟩|refine⟨_,rfl,?_⟩|refine And.intro (by first|omega|trivial|(show _=_;rfl)|(with_reducible constructor)<;>first|omega|trivial|rfl) ?_|fail
  all_goals first
   | (refine Qb (I _ (by omega)) ?_;unfold zHz zDx;simp only [*];simp;done)
   | (refine aa _ (by omega) λN'' h=>Qb (I N'' (by omega)) ?_;unfold zHz zDx;simp only [*];simp;done)
theorem zDN:∀ (t:Ty) (d:D),t.Is d->t.cnt<=1073741824->zAO 195 [.dg 2 d] t.cnt:=by
 refine Ty.ind λk l ih d hd hc N Q hQ=>?_
 obtain ⟨a,es,c,rfl,hlen,J⟩:=Ty.is_mk.1 hd
 simp only [Ty.cnt] at hc
 refine zDX N _ Q λ_=>⟨_,_,_,rfl,?_⟩
 refine up J hlen (λi xs=>∀ (m:Nat) (N':Nat),N<=N'->m+zV xs=1+zV l->xb Q N m a es c es.length i N') ?_ ?_ 1 N (oB _) rfl
 ·intro i O _ m N' aa hm
  refine tc _ _ _ _ _ _ _ _ _ ?_
  simp only [zV] at hm
  repeat' first|with_reducible intro _|simp only[O,Y1,Y2,Y3,Y4]|with_reducible refine X ?_ ?_|refine⟨_,_,_,rfl,?_⟩|refine⟨_,rfl,?_⟩|refine And.intro (by first|omega|trivial|(show _=_;rfl)|(with_reducible constructor)<;>first|omega|trivial|rfl) ?_|fail
  exact Qi (hQ _ (by omega)) (by simp only [Ty.cnt];omega)
 ·intro i x xs I _ ab m N' aa hm
  have hb:=I.b
  have ac:=vE I.m
  simp only [zV] at hm
  refine tc _ _ _ _ _ _ _ _ _ ?_
  repeat' first|with_reducible intro _|simp only[I.lt,I.w,oK,Y1,Y2,Y3,Y4]|with_reducible refine X ?_ ?_|refine⟨_,_,_,rfl,?_⟩|refine⟨_,rfl,?_⟩|refine And.intro (by first|omega|trivial|(show _=_;rfl)|(with_reducible constructor)<;>first|omega|trivial|rfl) ?_|refine (ih x I.m _ I.r (by omega)) _ _ ?_|fail
  rw [i64_in _ (by omega)]
  exact ab (m+x.cnt) _ (by omega) (by omega)
theorem zBc:∀ (t:Ty) (d:D),t.Is d->t.cnt<=1073741824->zAO 196 [.dg 2 d] t.dep:=by
 refine Ty.ind λk l ih d hd hc N Q hQ=>?_
 obtain ⟨a,es,c,rfl,hlen,J⟩:=Ty.is_mk.1 hd
 simp only [Ty.cnt] at hc
 have ac:=zAT l
 refine zCZ N _ Q λ_=>⟨_,_,_,rfl,?_⟩
 refine up J hlen (λi xs=>∀ (m:Nat) (N':Nat),N<=N'->max m (sx xs)=sx l->xI Q N m a es c es.length i N') ?_ ?_ 0 N (oB _) (by omega)
 ·intro i O _ m N' aa hm
  refine tC _ _ _ _ _ _ _ _ _ ?_
  simp only [sx] at hm
  repeat' first|with_reducible intro _|simp only[O,Y1,Y2,Y3,Y4]|with_reducible refine X ?_ ?_|refine⟨_,_,_,rfl,?_⟩|refine⟨_,rfl,?_⟩|refine And.intro (by first|omega|trivial|(show _=_;rfl)|(with_reducible constructor)<;>first|omega|trivial|rfl) ?_|fail
  rw [i64_in _ (by omega)]
  exact Qi (hQ _ (by omega)) (by simp only [Ty.dep];omega)
 ·intro i x xs I _ ab m N' aa hm
  have hb:=I.b
  have ae:=vE I.m
  simp only [sx] at hm
  refine tC _ _ _ _ _ _ _ _ _ ?_
  repeat' first|with_reducible intro _|simp only[I.lt,I.w,oK,Y1,Y2,Y3,Y4]|with_reducible refine X ?_ ?_|refine⟨_,_,_,rfl,?_⟩|refine⟨_,rfl,?_⟩|refine And.intro (by first|omega|trivial|(show _=_;rfl)|(with_reducible constructor)<;>first|omega|trivial|rfl) ?_|refine (ih x I.m _ I.r (by omega)) _ _ ?_|fail
  have e:(if (x.dep:Int)>(m:Int) then (x.dep:Int) else (m:Int))=((max m x.dep:Nat):Int):=by split<;>omega
  rw [e]
  exact ab _ _ (by omega) (by omega)
theorem zFK (t:Ty) (d:D) (hd:t.Is d):uN 198 [.dg 2 d] (zAj t.k t.as.length):=λN Q J=>by
 cases t with
 | mk k l=>
 obtain ⟨a,es,c,rfl,hlen,O⟩:=Ty.is_mk.1 hd
 have hl:=O.len
 simp only [Ty.k,Ty.as] at J
 refine zAe N _ Q λ_=>?_
 cases I:inB k 1 4 with
 | false=>
   repeat' first|with_reducible intro _|simp only[I,Y1,Y2,Y3,Y4]|with_reducible refine X ?_ ?_|refine⟨_,_,_,rfl,?_⟩|refine⟨_,rfl,?_⟩|refine And.intro (by first|omega|trivial|(show _=_;rfl)|(with_reducible constructor)<;>first|omega|trivial|rfl) ?_|refine (yd _ _ _) _ _ ?_|fail
   refine Qb (J _ (by omega)) ?_
   have:¬(1<=k/\k<=4):=λh=>by rw [wl.2 h] at I;cases I
   unfold zAj
   rw [if_neg (by omega),if_neg (by omega),if_neg (by omega)]
 | true=>
   have hb:=wl.1 I
   have w0:IntKind.i64.wrap 0=0:=rfl
   have w1:IntKind.i64.wrap 1=1:=rfl
   have w2:IntKind.i64.wrap 2=2:=rfl
   have w3:IntKind.i64.wrap 3=3:=rfl
   have hk:k=1\/k=2\/k=3\/k=4:=by omega
   rcases hk with rfl | rfl | rfl | rfl
   all_goals
    repeat' first|with_reducible intro _|simp only[I,w0,w1,w2,w3,Y1,Y2,Y3,Y4]|with_reducible refine X ?_ ?_|refine⟨_,_,_,rfl,?_⟩|refine⟨_,rfl,?_⟩|refine And.intro (by first|omega|trivial|(show _=_;rfl)|(with_reducible constructor)<;>first|omega|trivial|rfl) ?_|refine (yd _ _ _) _ _ ?_|fail
    refine Qb (J _ (by omega)) ?_
    simp [zAj,hl]
theorem zGX:∀ l:List Ty,sf l=!(l.any λx=>!x.form)
 | []=>rfl
 | t::I=>by simp only [sf,mW,zGX I];cases t.form<;>simp
theorem zFJ {p:Ty->Bool} {l:List Ty} {es:List D} (h:All2 Ty.Is l es) (hlen:es.length<=4611686018427387904) (ad:Addr) (hp:∀ x∈l,∀ d,x.Is d->uN 218 [.dg 2 d,.pd ad 0 (.fn 198 [])] (p x)) (a:Option Addr) (c:Nat) :
  uN 217 [.sv a 2 es c,.fn 218 [.pd ad 0 (.fn 198 [])]] (l.any p):=λN Q O=>by
 have hi:zAO 227 [.sv a 2 es c,.fn 218 [.pd ad 0 (.fn 198 [])]] (s8 p l 0):=λN Q O=>by
  refine sC N a es c ad Q λ_=>?_
  refine up h hlen (λi xs=>∀ (N':Nat),N<=N'->(∀ N'',N'<=N''->Q (s8 p xs i) N'')->yQ Q N a es c ad es.length i N') ?_ ?_ N (oB _) O
  ·intro i aa _ N' ab I
   refine wv _ _ _ _ _ _ _ _ _ ?_
   repeat' first|with_reducible intro _|simp only[aa,Y1,Y2,Y3,Y4]|with_reducible refine X ?_ ?_|refine⟨_,_,_,rfl,?_⟩|refine⟨_,rfl,?_⟩|refine And.intro (by first|omega|trivial|(show _=_;rfl)|(with_reducible constructor)<;>first|omega|trivial|rfl) ?_|fail
   exact I _ (by omega)
  ·intro i x xs J _ ac N' ab I
   have hb:=J.b
   simp only [s8] at I
   refine wv _ _ _ _ _ _ _ _ _ ?_
   repeat' first|with_reducible intro _|simp only[J.lt,J.w,oK,Y1,Y2,Y3,Y4]|with_reducible refine X ?_ ?_|refine⟨_,_,_,rfl,?_⟩|refine⟨_,rfl,?_⟩|refine And.intro (by first|omega|trivial|(show _=_;rfl)|(with_reducible constructor)<;>first|omega|trivial|rfl) ?_|refine (hp x J.m _ J.r) _ _ ?_|fail
   ·exact Qi (I _ (by omega)) (by rw [if_pos (by assumption)])
   ·rename_i h;exact ac _ (by omega) λN'' h2=>Qi (I _ (by omega)) (by rw [h];simp)
 refine ux N a es c ad Q λ_=>?_
 repeat' first|with_reducible intro _|simp only[Y1,Y2,Y3,Y4]|with_reducible refine X ?_ ?_|refine⟨_,_,_,rfl,?_⟩|refine⟨_,rfl,?_⟩|refine And.intro (by first|omega|trivial|(show _=_;rfl)|(with_reducible constructor)<;>first|omega|trivial|rfl) ?_|refine hi _ _ ?_|fail
 exact Qb (O _ (by omega)) (wb _ l 0 (by omega)).symm
theorem zOQ:∀ (t:Ty) (d:D),t.Is d->uN 197 [.dg 2 d,.fn 198 []] t.form:=by
 refine Ty.ind λk l ih d hd N Q I=>?_
 have J:=hd
 obtain ⟨a,es,c,rfl,hlen,O⟩:=Ty.is_mk.1 hd
 refine zB3 N _ Q λ_=>?_
 simp only [Ty.form,zGX] at I
 repeat' first|with_reducible intro _|simp only[Y1,Y2,Y3,Y4]|with_reducible refine X ?_ ?_|refine⟨_,_,_,rfl,?_⟩|refine⟨_,rfl,?_⟩|refine And.intro (by first|omega|trivial|(show _=_;rfl)|(with_reducible constructor)<;>first|omega|trivial|rfl) ?_|refine (zFK _ _ J) _ _ ?_|refine (zFJ O hlen _ (λx hx d hd=>λN Q I=>zAb N d _ Q λ_ N1 aa=>ih x hx d hd N1 _ λN2 ab ac N3 ae=>I N3 (by omega)) _ _) _ _ ?_|fail
 ·have h:zAj (Ty.mk k l).k (Ty.mk k l).as.length=true:=by assumption
  exact Qb (I _ (by omega)) (by simp only [Ty.k,Ty.as] at h;rw [h,Bool.and_true])
 ·rename_i h _ _
  exact Qb (I _ (by omega)) (by simp only [Ty.k,Ty.as] at h;rw [h,md])
theorem wN (t:Ty) (d:D) (hd:t.Is d) (hc:t.cnt<=1073741824):uN 173 [.dg 2 d] t.valid:=λN Q I=>by
 refine zB8 N _ Q λ_=>?_
 repeat' first|with_reducible intro _|simp only[Y1,Y2,Y3,Y4]|with_reducible refine X ?_ ?_|refine⟨_,_,_,rfl,?_⟩|refine⟨_,rfl,?_⟩|refine And.intro (by first|omega|trivial|(show _=_;rfl)|(with_reducible constructor)<;>first|omega|trivial|rfl) ?_|refine (zDN t d hd hc) _ _ ?_|refine (zBc t d hd hc) _ _ ?_|refine (zOQ t d hd) _ _ ?_|fail
 ·refine Qb (I _ (by omega)) ?_
  have J:t.cnt<=30:=by omega
  have O:t.dep<=8:=by omega
  simp [Ty.valid, *]
 ·refine Qb (I _ (by omega)) ?_
  have O:¬t.dep<=8:=by omega
  simp [Ty.valid, *]
 ·refine Qb (I _ (by omega)) ?_
  have J:¬t.cnt<=30:=by omega
  simp [Ty.valid, *]
theorem zY:∀ (t u:Ty) (d e:D),t.Is d->u.Is e->uN 103 [.dg 2 d,.dg 2 e] (sn t u):=by
 refine Ty.ind λk l ih u d e hd he N Q hQ=>?_
 cases u with
 | mk k' O=>
 obtain ⟨a,es,c,rfl,hlen,ac⟩:=Ty.is_mk.1 hd
 obtain ⟨a',ab,c',rfl,ah,aa⟩:=Ty.is_mk.1 he
 have hl:=ac.len
 have am:=aa.len
 simp only [sn] at hQ
 have hf:uN 143 [.sv a 2 es c,.sv a' 2 ab c',.fn 103 []] (rm l O):=λN Q hQ=>by
  have key:l.length=O.length->∀ (N':Nat),N<=N'->(∀ N'',N'<=N''->Q (rm l (O.drop 0)) N'')->zo Q N a' ab c' a es c es.length (0:Nat) N':=by
   intro ao
   refine up ac hlen (λi xs=>∀ (N':Nat),N<=N'->(∀ N'',N'<=N''->Q (rm xs (O.drop i)) N'')->zo Q N a' ab c' a es c es.length i N') ?_ ?_
   ·intro i ai hi N' aj I
    refine wq _ _ _ _ _ _ _ _ _ _ _ ?_
    repeat' first|with_reducible intro _|simp only[ai,Y1,Y2,Y3,Y4]|with_reducible refine X ?_ ?_|refine⟨_,_,_,rfl,?_⟩|refine⟨_,rfl,?_⟩|refine And.intro (by first|omega|trivial|(show _=_;rfl)|(with_reducible constructor)<;>first|omega|trivial|rfl) ?_|fail
    refine Qb (I _ (by assumption)) ?_
    rw [mA (by omega)]
    rfl
   ·intro i x xs J _ ak N' aj I
    have hb:=J.b
    have ae:i<O.length:=by omega
    have hg:O[i]?=some O[i]:=oF ae
    have al:O.drop i=O[i]::O.drop (i+1):=mG ae
    refine wq _ _ _ _ _ _ _ _ _ _ _ ?_
    rw [al] at I
    repeat' first|with_reducible intro _|simp only[J.lt,J.w,oK,Y1,Y2,Y3,Y4]|with_reducible refine X ?_ ?_|refine⟨_,_,_,rfl,?_⟩|refine⟨_,rfl,?_⟩|refine And.intro (by first|omega|trivial|(show _=_;rfl)|(with_reducible constructor)<;>first|omega|trivial|rfl) ?_|refine (ih x J.m _ _ _ J.r (aa.get hg)) _ _ ?_|fail
    ·exact Qb (I _ (by omega)) (by simp [rm, *])
    ·exact ak _ (by omega) λN'' h=>Qb (I N'' (by omega)) (by simp [rm, *])
  refine t6 N _ _ _ _ _ _ Q λ_ _=>?_
  repeat' first|with_reducible intro _|simp only[Y1,Y2,Y3,Y4]|with_reducible refine X ?_ ?_|refine⟨_,_,_,rfl,?_⟩|refine⟨_,rfl,?_⟩|refine And.intro (by first|omega|trivial|(show _=_;rfl)|(with_reducible constructor)<;>first|omega|trivial|rfl) ?_|fail
  ·exact Qb (hQ _ (by assumption)) (zFA (by omega))
  ·exact key (by omega) N (oB _) hQ
 refine zEO N _ _ Q λ_ _=>?_
 repeat' first|with_reducible intro _|simp only[Y1,Y2,Y3,Y4]|with_reducible refine X ?_ ?_|refine⟨_,_,_,rfl,?_⟩|refine⟨_,rfl,?_⟩|refine And.intro (by first|omega|trivial|(show _=_;rfl)|(with_reducible constructor)<;>first|omega|trivial|rfl) ?_|refine hf _ _ ?_|fail
 ·exact Qb (hQ _ (by omega)) (by simp [*])
 ·exact Qb (hQ _ (by omega)) (by simp [*])
theorem ru (t:Ty) (d:D) (hd:t.Is d):uN 136 [.dg 2 d] t.base:=λN Q O=>by
 cases t with
 | mk k l=>
 obtain ⟨a,es,c,rfl,hlen,I⟩:=Ty.is_mk.1 hd
 have hl:=I.len
 have J:inB k 1 2=(k==1||k==2):=by
  rw [nP,wl]
  simp
  omega
 refine zJU N _ Q λ_=>?_
 repeat' first|with_reducible intro _|simp only[Y1,Y2,Y3,Y4]|with_reducible refine X ?_ ?_|refine⟨_,_,_,rfl,?_⟩|refine⟨_,rfl,?_⟩|refine And.intro (by first|omega|trivial|(show _=_;rfl)|(with_reducible constructor)<;>first|omega|trivial|rfl) ?_|refine (yd _ _ _) _ _ ?_|fail
 all_goals (rename_i h _ _;rw [J] at h;exact Qb (O _ (by omega)) (by simp only [Ty.base,Ty.k,Ty.as,h,hl];simp))
theorem zA2 (s:ByteArray):zAO 215 [.str s] (zJx s):=λN Q I=>by
 refine zG4 N s Q ?_
 repeat' first|with_reducible intro _|simp only[Y1,Y2,Y3,Y4]|with_reducible refine X ?_ ?_|refine⟨_,_,_,rfl,?_⟩|refine⟨_,rfl,?_⟩|refine And.intro (by first|omega|trivial|(show _=_;rfl)|(with_reducible constructor)<;>first|omega|trivial|rfl) ?_|fail
 all_goals (refine Qi (I _ (by assumption)) ?_;unfold zJx;(repeat' split)<;>first | rfl | contradiction)
def arI (k:Int) (nm:ByteArray):Int:=
 if k=4 then zJx nm else if k=5 then 3 else if k=7\/k=8 then 2 else if k=6\/k=9\/k=10\/k=11\/k=12\/k=13 then 1 else 0
theorem zK1 {k n:Int} {nm ot:ByteArray} {t0 t1 r0 r1 x:D}:zAO 192 [.dg 9 (.ag [.j k,.t nm,.t ot,.j n,t0,t1,r0,r1,x])] (arI k nm):=λN Q I=>by
 refine zK0 N _ Q λ_=>?_
 repeat' first|with_reducible intro _|simp only[Y1,Y2,Y3,Y4]|with_reducible refine X ?_ ?_|refine⟨_,_,_,rfl,?_⟩|refine⟨_,rfl,?_⟩|refine And.intro (by first|omega|trivial|(show _=_;rfl)|(with_reducible constructor)<;>first|omega|trivial|rfl) ?_|refine (zA2 _) _ _ ?_|fail
 all_goals (refine Qi (I _ (by omega)) ?_;simp [arI, *])
theorem zFu (n:Int):uN 216 [.j n] (inB n 0 10006):=λN Q I=>by
 refine zFZ N n Q ?_
 repeat' first|with_reducible intro _|simp only[Y1,Y2,Y3,Y4]|with_reducible refine X ?_ ?_|refine⟨_,_,_,rfl,?_⟩|refine⟨_,rfl,?_⟩|refine And.intro (by first|omega|trivial|(show _=_;rfl)|(with_reducible constructor)<;>first|omega|trivial|rfl) ?_|refine (yd _ _ _) _ _ ?_|fail
 exact I _ (by omega)
def zHT (k:Int) (nm ot:ByteArray) (n:Int) (ty re:Ty):Bool:=
 if k=1\/k=8 then rE nm else if k=2 then inB n 0 10006 else if k=3 then inB n 0 1 else if k=4 then decide (zJx nm>0)
 else if k=6 then rE nm&&ty.valid else if k=9 then rE nm&&(rE ot&&(!decide (nm=ot)&&(ty.valid&&re.valid))) else inB k 1 13
theorem zHM {k n:Int} {nm ot:ByteArray} {ty re:Ty} {t0 t1 r0 r1 x:D} (h:Tm.Hd nm ot ty re t0 t1 r0 r1) (hc:ty.cnt<=1073741824) (I:re.cnt<=1073741824) :
  uN 193 [.dg 9 (.ag [.j k,.t nm,.t ot,.j n,t0,t1,r0,r1,x])] (zHT k nm ot n ty re):=λN Q J=>by
 refine zHD N _ Q λ_=>?_
 repeat' first|with_reducible intro _|simp only[Y1,Y2,Y3,Y4]|with_reducible refine X ?_ ?_|refine⟨_,_,_,rfl,?_⟩|refine⟨_,rfl,?_⟩|refine And.intro (by first|omega|trivial|(show _=_;rfl)|(with_reducible constructor)<;>first|omega|trivial|rfl) ?_|refine (zA2 _) _ _ ?_|refine (tI _ h.nm) _ _ ?_|refine (tI _ h.ot) _ _ ?_|refine (zFu _) _ _ ?_|refine (yd _ _ _) _ _ ?_|refine (wN _ _ h.ty hc) _ _ ?_|refine (wN _ _ h.re I) _ _ ?_|fail
 all_goals (refine Qb (J _ (by omega)) ?_;simp [zHT, *])
theorem zKk (t:Ty):sn t t=true:=(rx t t).2 rfl
def zOR (k:Int) (nm ot:ByteArray) (n:Int) (ty re:Ty) (m:Int):Bool:=
 decide (m=arI k nm)&&(zHT k nm ot n ty re&&((decide (k=1\/k=8\/k=4\/k=6\/k=9)||decide (nm=bytes []))&&((decide (k=9)||decide (ot=bytes []))&&((decide (k=2\/k=3)||decide (n=0)) &&
  ((decide (k=6\/k=9)||sn ty tZero)&&(decide (k=9)||sn re tZero))))))
theorem zG0 {k n:Int} {nm ot:ByteArray} {ty re:Ty} {t0 t1 r0 r1:D} {a:Option Addr} {es:List D} {c:Nat} (h:Tm.Hd nm ot ty re t0 t1 r0 r1) (hc:ty.cnt<=1073741824) (I:re.cnt<=1073741824) :
  uN 170 [.dg 9 (.ag [.j k,.t nm,.t ot,.j n,t0,t1,r0,r1,.sl a 9 es c])] (zOR k nm ot n ty re es.length):=λN Q J=>by
 refine zJA N _ Q λ_=>?_
 repeat' first|with_reducible intro _|simp only[Y1,Y2,Y3,Y4]|with_reducible refine X ?_ ?_|refine⟨_,_,_,rfl,?_⟩|refine⟨_,rfl,?_⟩|refine And.intro (by first|omega|trivial|(show _=_;rfl)|(with_reducible constructor)<;>first|omega|trivial|rfl) ?_|refine zK1 _ _ ?_|refine (zHM h hc I) _ _ ?_|refine (zY ty tZero _ _ h.ty xg) _ _ ?_|refine (zY re tZero _ _ h.re xg) _ _ ?_|refine (zY ty ty _ _ h.ty h.ty) _ _ ?_|refine (zY re re _ _ h.re h.re) _ _ ?_|fail
 all_goals first | (exfalso;omega) | (refine Qb (J _ (by omega)) ?_;simp [zOR,zKk, *];done) | (refine Qb (J _ (by omega)) ?_;simp_all [zOR,zKk];done)
theorem zTM (t:Ty):sn t tZero=t.zero:=by
 cases t with
 | mk k l => cases l<;>simp [sn,tZero,rm,Ty.zero,Ty.k,Ty.as]
             try omega
theorem zOm {t:Ty} (h:t.zero=true):t.valid=false:=by
 cases t with
 | mk k l=>
   simp only [Ty.zero,Ty.k,Ty.as,oL,mE] at h
   simp [Ty.valid,Ty.form,zAj,h.1]
theorem zWE (n:Int):inB n 0 0=decide (n=0):=by
 rw [nP,wl,nf];omega
theorem zp (t:Ty) (b:Bool):(!t.valid&&(t.zero&&b))=(t.zero&&b):=by
 cases h:t.zero with
 | false=>simp
 | true=>rw [zOm h];simp
theorem zRu (k:Int) (nm ot:ByteArray) (n:Int) (ty re:Ty) (m:Int) (hm:0<=m):zOR k nm ot n ty re m=(yf k nm ot n ty re&&m==zGm k nm):=by
 by_cases hk:k=1\/k=2\/k=3\/k=4\/k=5\/k=6\/k=7\/k=8\/k=9\/k=10\/k=11\/k=12\/k=13
 ·rw [zVj m]
  have b5:inB 5 1 13=true:=rfl
  have b7:inB 7 1 13=true:=rfl
  have I:inB 10 1 13=true:=rfl
  have J:inB 11 1 13=true:=rfl
  have O:inB 12 1 13=true:=rfl
  have aa:inB 13 1 13=true:=rfl
  rcases hk with rfl | rfl | rfl | rfl | rfl | rfl | rfl | rfl | rfl | rfl | rfl | rfl | rfl
  all_goals
   simp [zOR,arI,zHT,yf,zGf,zDd,zGm,zTM,zWE,zp,b5,b7,I,J,O,aa]
   try (rw [nP];simp [and_comm,and_left_comm,and_assoc])
 ·have h1:zGm k nm = -1:=by
   unfold zGm;rw [if_neg (by omega),if_neg (by omega),if_neg (by omega),if_neg (by omega),if_neg (by omega)]
  have h2:inB k 1 13=false:=by
   cases h:inB k 1 13 with
   | false=>rfl
   | true=>have:=wl.1 h;omega
  have h3:zHT k nm ot n ty re=false:=by
   unfold zHT;rw [if_neg (by omega),if_neg (by omega),if_neg (by omega),if_neg (by omega),if_neg (by omega),if_neg (by omega),h2]
  have h4:(m==zGm k nm)=false:=by rw [h1,zVj];exact mM (by omega)
  rw [h4,zOR,h3]
  simp
theorem zSG {k n:Int} {nm ot:ByteArray} {ty re:Ty} {t0 t1 r0 r1:D} {a:Option Addr} {es:List D} {c:Nat} (h:Tm.Hd nm ot ty re t0 t1 r0 r1) (hc:ty.cnt<=1073741824) (I:re.cnt<=1073741824) :
  uN 170 [.dg 9 (.ag [.j k,.t nm,.t ot,.j n,t0,t1,r0,r1,.sl a 9 es c])] (yf k nm ot n ty re&&(es.length:Int)==zGm k nm):=by
 rw [<-zRu _ _ _ _ _ _ _ (by omega)]
 exact zG0 h hc I
theorem zKU:∀ l:List Tm,zBO l=!(l.any λx=>!x.ok)
 | []=>rfl
 | t::I=>by simp only [zBO,mW,zKU I];cases t.ok<;>simp
theorem zE4 {p:Tm->Bool} {l:List Tm} {es:List D} (h:All2 Tm.Is l es) (hlen:es.length<=4611686018427387904) (ad:Addr) (hp:∀ x∈l,∀ d,x.Is d->uN 134 [.dg 9 d,.pd ad 0 (.fn 170 [])] (p x)) (a:Option Addr) (c:Nat) :
  uN 62 [.sv a 9 es c,.fn 134 [.pd ad 0 (.fn 170 [])]] (l.any p):=λN Q O=>by
 have hi:zAO 105 [.sv a 9 es c,.fn 134 [.pd ad 0 (.fn 170 [])]] (s8 p l 0):=λN Q O=>by
  refine sD N a es c ad Q λ_=>?_
  refine up h hlen (λi xs=>∀ (N':Nat),N<=N'->(∀ N'',N'<=N''->Q (s8 p xs i) N'')->yR Q N a es c ad es.length i N') ?_ ?_ N (oB _) O
  ·intro i aa _ N' ab I
   refine wr _ _ _ _ _ _ _ _ _ ?_
   repeat' first|with_reducible intro _|simp only[aa,Y1,Y2,Y3,Y4]|with_reducible refine X ?_ ?_|refine⟨_,_,_,rfl,?_⟩|refine⟨_,rfl,?_⟩|refine And.intro (by first|omega|trivial|(show _=_;rfl)|(with_reducible constructor)<;>first|omega|trivial|rfl) ?_|fail
   exact I _ (by omega)
  ·intro i x xs J _ ac N' ab I
   have hb:=J.b
   simp only [s8] at I
   refine wr _ _ _ _ _ _ _ _ _ ?_
   repeat' first|with_reducible intro _|simp only[J.lt,J.w,oK,Y1,Y2,Y3,Y4]|with_reducible refine X ?_ ?_|refine⟨_,_,_,rfl,?_⟩|refine⟨_,rfl,?_⟩|refine And.intro (by first|omega|trivial|(show _=_;rfl)|(with_reducible constructor)<;>first|omega|trivial|rfl) ?_|refine (hp x J.m _ J.r) _ _ ?_|fail
   ·exact Qi (I _ (by omega)) (by rw [if_pos (by assumption)])
   ·rename_i h;exact ac _ (by omega) λN'' h2=>Qi (I _ (by omega)) (by rw [h];simp)
 refine uu N a es c ad Q λ_=>?_
 repeat' first|with_reducible intro _|simp only[Y1,Y2,Y3,Y4]|with_reducible refine X ?_ ?_|refine⟨_,_,_,rfl,?_⟩|refine⟨_,rfl,?_⟩|refine And.intro (by first|omega|trivial|(show _=_;rfl)|(with_reducible constructor)<;>first|omega|trivial|rfl) ?_|refine hi _ _ ?_|fail
 exact Qb (O _ (by omega)) (wb _ l 0 (by omega)).symm
theorem zOX:∀ (t:Tm) (d:D),t.Is d->t.cnt<=1073741824->uN 97 [.dg 9 d,.fn 170 []] t.ok:=by
 refine Tm.ind λk nm ot n ty re l ih d hd hc N Q I=>?_
 obtain ⟨t0,t1,r0,r1,a,es,c,rfl,hh,hlen,J⟩:=Tm.is_mk.1 hd
 have hl:=J.len
 simp only [Tm.cnt] at hc
 refine zBy N _ Q λ_=>?_
 simp only [Tm.ok,zKU,<-hl] at I
 repeat' first|with_reducible intro _|simp only[Y1,Y2,Y3,Y4]|with_reducible refine X ?_ ?_|refine⟨_,_,_,rfl,?_⟩|refine⟨_,rfl,?_⟩|refine And.intro (by first|omega|trivial|(show _=_;rfl)|(with_reducible constructor)<;>first|omega|trivial|rfl) ?_|refine (zSG hh (by omega) (by omega)) _ _ ?_|refine (zE4 J hlen _ (λx O d hd=>λN Q I=>zAd N d _ Q λ_ N1 aa=>ih x O d hd (by have:=zu O;omega) N1 _ λN2 ab ac N3 ae=>I N3 (by omega)) _ _) _ _ ?_|fail
 ·have h:(yf k nm ot n ty re&&(es.length:Int)==zGm k nm)=true:=by assumption
  exact Qb (I _ (by omega)) (by rw [h,Bool.and_true])
 ·have h:(yf k nm ot n ty re&&(es.length:Int)==zGm k nm)=false:=by assumption
  exact Qb (I _ (by omega)) (by rw [h,md])
theorem zBo (t:Tm) (d:D) (hd:t.Is d) (hc:t.cnt<=1073741824):uN 138 [.dg 9 d] t.ok:=λN Q I=>by
 refine zJa N _ Q λ_=>?_
 repeat' first|with_reducible intro _|simp only[Y1,Y2,Y3,Y4]|with_reducible refine X ?_ ?_|refine⟨_,_,_,rfl,?_⟩|refine⟨_,rfl,?_⟩|refine And.intro (by first|omega|trivial|(show _=_;rfl)|(with_reducible constructor)<;>first|omega|trivial|rfl) ?_|refine (zOX t d hd hc) _ _ ?_|fail
 exact I _ (by omega)
theorem zL2 {k n m:Int} {c1 I J O c6 c7 c8:D} (h:0<=m/\m<=2):zAO 199 [.dg 9 (.ag [.j k,c1,I,.j n,J,O,c6,c7,c8]),.j m] (ya k m):=λN Q hQ=>by
 refine zEU N _ m Q λ_=>?_
 rw [i64_in (m+1) (by omega),i64_in (m - 1) (by omega)]
 repeat' first|with_reducible intro _|simp only[Y1,Y2,Y3,Y4]|with_reducible refine X ?_ ?_|refine⟨_,_,_,rfl,?_⟩|refine⟨_,rfl,?_⟩|refine And.intro (by first|omega|trivial|(show _=_;rfl)|(with_reducible constructor)<;>first|omega|trivial|rfl) ?_|fail
 all_goals (refine Qi (hQ _ (by omega)) ?_;simp [ya, *])
theorem zD1 (d:D) (m:Int):uN 175 [.dg 9 d,.j m] (inB m 0 2):=λN Q I=>by
 refine zDE N _ m Q λ_=>?_
 repeat' first|with_reducible intro _|simp only[Y1,Y2,Y3,Y4]|with_reducible refine X ?_ ?_|refine⟨_,_,_,rfl,?_⟩|refine⟨_,rfl,?_⟩|refine And.intro (by first|omega|trivial|(show _=_;rfl)|(with_reducible constructor)<;>first|omega|trivial|rfl) ?_|refine (yd _ _ _) _ _ ?_|fail
 exact I _ (by omega)
theorem zSY:∀ (t:Tm) (d:D),t.Is d->∀ m:Int,uN 174 [.dg 9 d,.j m,.fn 175 []] (t.lev m):=by
 refine Tm.ind λk nm ot n ty re l ih d hd m N Q hQ=>?_
 obtain ⟨t0,t1,r0,r1,a,es,c,rfl,hh,hlen,aa⟩:=Tm.is_mk.1 hd
 have hl:=aa.len
 refine zEV N _ m Q λ_=>?_
 cases I:inB m 0 2 with
 | false=>
   repeat' first|with_reducible intro _|simp only[I,Y1,Y2,Y3,Y4]|with_reducible refine X ?_ ?_|refine⟨_,_,_,rfl,?_⟩|refine⟨_,rfl,?_⟩|refine And.intro (by first|omega|trivial|(show _=_;rfl)|(with_reducible constructor)<;>first|omega|trivial|rfl) ?_|refine (zD1 _ _) _ _ ?_|fail
   exact Qb (hQ _ (by omega)) (by simp [Tm.lev,I])
 | true=>
   have hb:=wl.1 I
   have key:=up aa hlen (λi xs=>∀ (N':Nat),N<=N'->(∀ N'',N'<=N''->Q (zAp xs (ya k m)) N'')->v7 Q N m a es c es.length i (.ag [.j k,.t nm,.t ot,.j n,t0,t1,r0,r1,.sl a 9 es c]) N') ?_ ?_
   ·repeat' first|with_reducible intro _|simp only[I,Y1,Y2,Y3,Y4]|with_reducible refine X ?_ ?_|refine⟨_,_,_,rfl,?_⟩|refine⟨_,rfl,?_⟩|refine And.intro (by first|omega|trivial|(show _=_;rfl)|(with_reducible constructor)<;>first|omega|trivial|rfl) ?_|refine (zD1 _ _) _ _ ?_|fail
    exact key _ (by omega) λN'' h=>Qb (hQ N'' (by omega)) (by simp [Tm.lev,I])
   ·intro i ab _ N' ac O
    refine pA _ _ _ _ _ _ _ _ _ _ ?_
    repeat' first|with_reducible intro _|simp only[ab,Y1,Y2,Y3,Y4]|with_reducible refine X ?_ ?_|refine⟨_,_,_,rfl,?_⟩|refine⟨_,rfl,?_⟩|refine And.intro (by first|omega|trivial|(show _=_;rfl)|(with_reducible constructor)<;>first|omega|trivial|rfl) ?_|fail
    exact Qb (O _ (by omega)) (by simp [zAp])
   ·intro i x xs J _ ae N' ac O
    have ah:=J.b
    refine pA _ _ _ _ _ _ _ _ _ _ ?_
    repeat' first|with_reducible intro _|simp only[J.lt,J.w,oK,Y1,Y2,Y3,Y4]|with_reducible refine X ?_ ?_|refine⟨_,_,_,rfl,?_⟩|refine⟨_,rfl,?_⟩|refine And.intro (by first|omega|trivial|(show _=_;rfl)|(with_reducible constructor)<;>first|omega|trivial|rfl) ?_|refine (zL2 hb) _ _ ?_|refine (ih x J.m _ J.r _) _ _ ?_|fail
    ·refine Qb (O _ (by omega)) ?_;simp [zAp, *]
    ·exact ae _ (by omega) λN'' h=>Qb (O N'' (by omega)) (by simp [zAp, *])
theorem pm (t:Tm) (d:D) (hd:t.Is d) (hc:t.cnt<=1073741824) (m:Int):uN 141 [.dg 9 d,.j m] (zMq t m):=λN Q I=>by
 refine zGT N _ m Q λ_=>?_
 repeat' first|with_reducible intro _|simp only[Y1,Y2,Y3,Y4]|with_reducible refine X ?_ ?_|refine⟨_,_,_,rfl,?_⟩|refine⟨_,rfl,?_⟩|refine And.intro (by first|omega|trivial|(show _=_;rfl)|(with_reducible constructor)<;>first|omega|trivial|rfl) ?_|refine (zBo t d hd hc) _ _ ?_|refine (zSY t d hd m) _ _ ?_|fail
 all_goals (refine Qb (I _ (by omega)) ?_;simp [zMq, *])
theorem zQL (x:Tg) (d:D) (hd:x.Is d) (hc:x.ty.cnt<=1073741824):uN 172 [.dg 4 d] (!x.ok):=λN Q I=>by
 obtain ⟨t0,t1,rfl,hs,J⟩:=hd
 refine zG5 N _ Q λ_=>?_
 repeat' first|with_reducible intro _|simp only[Y1,Y2,Y3,Y4]|with_reducible refine X ?_ ?_|refine⟨_,_,_,rfl,?_⟩|refine⟨_,rfl,?_⟩|refine And.intro (by first|omega|trivial|(show _=_;rfl)|(with_reducible constructor)<;>first|omega|trivial|rfl) ?_|refine (tI _ hs) _ _ ?_|refine (wN _ _ J hc) _ _ ?_|refine (yd _ _ _) _ _ ?_|fail
 all_goals (refine Qb (I _ (by omega)) ?_;simp [Tg.ok, *])
theorem zLM:∀ l:List Tg,zKG l=!(l.any λx=>!x.ok)
 | []=>rfl
 | t::I=>by simp only [zKG,mW,zLM I];cases t.ok<;>simp
theorem p5 {g:List Tg} {es:List D} (h:Ctx g es) (hc:∀ x∈g,x.ty.cnt<=1073741824) (a:Option Addr) (c:Nat):uN 140 [.sv a 4 es c] (zIl g):=fun N Q hQ=>by
 have hl:=h.all.len
 have hi:zAO 194 [.sv a 4 es c,.fn 172 []] (s8 (fun x=>!x.ok) g 0):=fun N Q hQ=>by
  refine tK N a es c Q fun _=>?_
  refine up h.all h.len (fun i xs=>∀ (N':Nat),N<=N'->(∀ N'',N'<=N''->Q (s8 (fun x=>!x.ok) xs i) N'')->zx Q N a es c es.length i N') ?_ ?_ N (oB _) hQ
  ·intro i hlt _ N' hN' hQ'
   refine wQ _ _ _ _ _ _ _ _ ?_
   repeat' first|with_reducible intro _|simp only[hlt,Y1,Y2,Y3,Y4]|with_reducible refine X ?_ ?_|refine⟨_,_,_,rfl,?_⟩|refine⟨_,rfl,?_⟩|refine And.intro (by first|omega|trivial|(show _=_;rfl)|(with_reducible constructor)<;>first|omega|trivial|rfl) ?_|fail
   exact hQ' _ (by omega)
  ·intro i x xs hat _ ih2 N' hN' hQ'
   have hb:=hat.b
   simp only [s8] at hQ'
   refine wQ _ _ _ _ _ _ _ _ ?_
   repeat' first|with_reducible intro _|simp only[hat.lt,hat.w,oK,Y1,Y2,Y3,Y4]|with_reducible refine X ?_ ?_|refine⟨_,_,_,rfl,?_⟩|refine⟨_,rfl,?_⟩|refine And.intro (by first|omega|trivial|(show _=_;rfl)|(with_reducible constructor)<;>first|omega|trivial|rfl) ?_|refine (zQL x _ hat.r (hc x hat.m)) _ _ ?_|fail
   all_goals first
    | exact Qi (hQ' _ (by omega)) (by rw [if_pos (by simp [*])])
    | exact ih2 _ (by omega) fun N'' h2=>Qi (hQ' _ (by omega)) (by rw [if_neg (by simp [*])];simp)
 have hcf:uN 171 [.sv a 4 es c,.fn 172 []] (g.any fun x=>!x.ok):=fun N Q hQ=>by
  refine uV N a es c Q fun _=>?_
  repeat' first|with_reducible intro _|simp only[Y1,Y2,Y3,Y4]|with_reducible refine X ?_ ?_|refine⟨_,_,_,rfl,?_⟩|refine⟨_,rfl,?_⟩|refine And.intro (by first|omega|trivial|(show _=_;rfl)|(with_reducible constructor)<;>first|omega|trivial|rfl) ?_|refine hi _ _ ?_|fail
  exact Qb (hQ _ (by omega)) (wb _ g 0 (by omega)).symm
 refine zLa N a es c Q fun _=>?_
 repeat' first|with_reducible intro _|simp only[Y1,Y2,Y3,Y4]|with_reducible refine X ?_ ?_|refine⟨_,_,_,rfl,?_⟩|refine⟨_,rfl,?_⟩|refine And.intro (by first|omega|trivial|(show _=_;rfl)|(with_reducible constructor)<;>first|omega|trivial|rfl) ?_|refine hcf _ _ ?_|fail
 ·exact Qb (hQ _ (by omega)) (by have:(g.length:Int)<=12:=by omega
                                 simp [zIl,zLM,this])
 ·exact Qb (hQ _ (by omega)) (by have:¬(g.length:Int)<=12:=by omega
                                 simp [zIl,this])
theorem zDe {g:List Tg} {es:List D} (h:Ctx g es) (a:Option Addr) (c:Nat) (s:ByteArray):zAO 201 [.sv a 4 es c,.str s] (yg g s):=λN Q hQ=>by
 have hl:=h.all.len
 have h1:=h.len
 refine zFL N a es c s Q λ_=>?_
 have key:=zVx h.all h.len (λm=>∀ (N':Nat),N<=N'->(∀ N'',N'<=N''->Q (tX g s (m+1).toNat) N'')->wZ Q N a es c s m N') ?_ ?_
 ·rw [i64_in _ (by omega)]
  exact key N (oB _) λN' J=>Qi (hQ N' J) (by rw [yg,<-hl];congr 1;omega)
 ·intro N' J I
  refine rH _ _ _ _ _ _ _ _ ?_
  repeat' first|with_reducible intro _|simp only[Y1,Y2,Y3,Y4]|with_reducible refine X ?_ ?_|refine⟨_,_,_,rfl,?_⟩|refine⟨_,rfl,?_⟩|refine And.intro (by first|omega|trivial|(show _=_;rfl)|(with_reducible constructor)<;>first|omega|trivial|rfl) ?_|fail
  ·omega
  ·exact I _ (by assumption)
 ·intro i x O aa hw ih N' J I
  have hb:=O.b
  obtain ⟨t0,t1,hd,hs,ht⟩:=O.r
  have e1:((i:Int)+1).toNat=i+1:=by omega
  have e2:((i:Int) - 1+1).toNat=i:=by omega
  rw [e1] at I
  simp only [tX,zJR O.g] at I
  rw [e2] at ih
  refine rH _ _ _ _ _ _ _ _ ?_
  repeat' first|with_reducible intro _|simp only[aa,hw,oK,hd,Y1,Y2,Y3,Y4]|with_reducible refine X ?_ ?_|refine⟨_,_,_,rfl,?_⟩|refine⟨_,rfl,?_⟩|refine And.intro (by first|omega|trivial|(show _=_;rfl)|(with_reducible constructor)<;>first|omega|trivial|rfl) ?_|fail
  ·rename_i hx _ _;exact Qi (I _ (by omega)) (by rw [if_pos hx])
  ·rename_i hx;exact ih _ (by omega) λN'' h=>Qi (I N'' (by omega)) (by rw [if_neg hx])
theorem zJF:∀ (t:Ty) (d:D),t.Is d->t.cnt<=1073741824->zEF 127 [.dg 2 d] t:=by
 refine Ty.ind λk l ih d hd hc N Q hQ=>?_
 obtain ⟨a,es,c,rfl,hlen,aa⟩:=Ty.is_mk.1 hd
 have hl:=aa.len
 simp only [Ty.cnt] at hc
 have al:=zBX l
 refine zF9 N _ Q λ_=>⟨_,rfl,_,_,_,rfl,?_⟩
 have key:=up aa hlen (λi xs=>∀ (N':Nat),N<=N'->(i=0->uT Q N a es c es.length i 0 none [] 0 k none [] 0 N')/\∀ (m q:Nat) (r:List D),m=r.length->All2 Ty.Is (l.take i) r->OwnL N N' r ->
  xF Q N a es c es.length i 0 none [] 0 k m q r q N') ?_ ?_
 ·exact (key N (oB _)).1 rfl
 ·intro i ab hi N' ai
  refine ⟨λh0=>rN _ _ _ _ _ _ _ _ _ _ _ _ _ _ _ _ ?_,λm q r hm hr ho=>tD _ _ _ _ _ _ _ _ _ _ _ _ _ _ _ _ _ ?_⟩
  ·repeat' first|with_reducible intro _|simp only[ab,Y1,Y2,Y3,Y4]|with_reducible refine X ?_ ?_|refine⟨_,_,_,rfl,?_⟩|refine⟨_,rfl,?_⟩|refine And.intro (by first|omega|trivial|(show _=_;rfl)|(with_reducible constructor)<;>first|omega|trivial|rfl) ?_|fail
   have:l=[]:=oO (by omega)
   subst this
   exact hQ _ _ (by omega) (wD _) ye
  ·repeat' first|with_reducible intro _|simp only[ab,Y1,Y2,Y3,Y4]|with_reducible refine X ?_ ?_|refine⟨_,_,_,rfl,?_⟩|refine⟨_,rfl,?_⟩|refine And.intro (by first|omega|trivial|(show _=_;rfl)|(with_reducible constructor)<;>first|omega|trivial|rfl) ?_|fail
   rename_i a' N3 J hf N4 aj
   rw [od (by omega)] at hr
   exact hQ _ _ (by omega) (Ty.is_mk.2 ⟨_,_,_,rfl,by have:=hr.len;omega,hr⟩) (zA5 (ze (yP ((qm ho hf (by omega)).mono (oB _) aj))))
 ·intro i x xs I _ ac N' ai
  have hb:=I.b
  have am:=vE I.m
  refine ⟨λh0=>rN _ _ _ _ _ _ _ _ _ _ _ _ _ _ _ _ ?_,λm q r hm hr ho=>tD _ _ _ _ _ _ _ _ _ _ _ _ _ _ _ _ _ ?_⟩
  ·repeat' first|with_reducible intro _|simp only[I.lt,I.w,oK,Y1,Y2,Y3,Y4]|with_reducible refine X ?_ ?_|refine⟨_,_,_,rfl,?_⟩|refine⟨_,rfl,?_⟩|refine And.intro (by first|omega|trivial|(show _=_;rfl)|(with_reducible constructor)<;>first|omega|trivial|rfl) ?_|refine (ih x I.m _ I.r (by omega)) _ _ ?_|fail
   rename_i N2 ae d' N3 J hx O ak ah
   subst h0
   exact ⟨by unfold zB;simp,λc2=>(ac _ (by omega)).2 _ _ _ rfl (by rw [xK I.g];exact ⟨_,_,rfl,hx,rfl⟩) (yP (O.mono (by omega) (oB _)))⟩
  ·repeat' first|with_reducible intro _|simp only[I.lt,I.w,oK,Y1,Y2,Y3,Y4]|with_reducible refine X ?_ ?_|refine⟨_,_,_,rfl,?_⟩|refine⟨_,rfl,?_⟩|refine And.intro (by first|omega|trivial|(show _=_;rfl)|(with_reducible constructor)<;>first|omega|trivial|rfl) ?_|refine (ih x I.m _ I.r (by omega)) _ _ ?_|fail
   rename_i N2 ae d' N3 J hx O ak ah
   have ao:=hr.len
   have aq:(l.take i).length=i:=by rw [o8];omega
   refine ⟨by unfold zB;simp only [oE,np];omega,λc2=>?_⟩
   exact (ac _ (by omega)).2 _ _ _ rfl (by rw [xK I.g];exact hr.snoc hx) (y7 (ho.mono (oB _) ae) (yP O) (by omega) J)
theorem zPq:zEF 202 [] tInt:=λN Q J=>zKD N Q λN' I=>J _ _ I (wD _) ye
theorem zI1:zEF 203 [] tBool:=λN Q J=>zIT N Q λN' I=>J _ _ I (wD _) ye
theorem zO1 (t u:Ty) (d e:D) (hd:t.Is d) (he:u.Is e) (I:t.cnt<=1073741824) (J:u.cnt<=1073741824):zEF 206 [.dg 2 d,.dg 2 e] (tH t u):=λN Q hQ=>by
 refine zJ7 N _ _ Q λ_ _=>?_
 repeat' first|with_reducible intro _|simp only[Y1,Y2,Y3,Y4]|with_reducible refine X ?_ ?_|refine⟨_,_,_,rfl,?_⟩|refine⟨_,rfl,?_⟩|refine And.intro (by first|omega|trivial|(show _=_;rfl)|(with_reducible constructor)<;>first|omega|trivial|rfl) ?_|refine (zJF t d hd I) _ _ ?_|refine (zJF u e he J) _ _ ?_|fail
 rename_i N1 O d1 N2 ae h1 o1 ah b1 N3 aa d2 N4 ab h2 o2 ai b2 a' N5 aj hf N6 ac
 exact hQ _ _ (by omega) (Ty.is_mk.2 ⟨_,_,_,rfl,by simp,_,_,rfl,h1,_,_,rfl,h2,rfl⟩)
  (zA5 (ze (yP ((qm (y7 ((yP o1).mono O aa) (yP o2) (by omega) ab) hf (by omega)).mono (oB _) ac))))
theorem zNG (t:Ty) (d:D) (hd:t.Is d) (I:t.cnt<=1073741824):zEF 220 [.dg 2 d] (zAk t):=λN Q hQ=>by
 refine zJK N _ Q λ_=>?_
 repeat' first|with_reducible intro _|simp only[Y1,Y2,Y3,Y4]|with_reducible refine X ?_ ?_|refine⟨_,_,_,rfl,?_⟩|refine⟨_,rfl,?_⟩|refine And.intro (by first|omega|trivial|(show _=_;rfl)|(with_reducible constructor)<;>first|omega|trivial|rfl) ?_|refine (zJF t d hd I) _ _ ?_|fail
 rename_i N1 J d1 N2 aa h1 o1 ab b1 a' N5 ac hf N6 O
 exact hQ _ _ (by omega) (Ty.is_mk.2 ⟨_,_,_,rfl,by simp,_,_,rfl,h1,rfl⟩)
  (zA5 (ze (yP ((qm ((yP o1).mono J (oB _)) hf (by omega)).mono (oB _) O))))
/-- the part of a code type -/
def zD3 (t:Ty):Ty:=if t.k=4 then t.as.getD 0 tZero else tZero
theorem zM4 (t:Ty) (d:D) (hd:t.Is d) (hv:t.valid=true\/t=tZero):zEF 221 [.dg 2 d] (zD3 t):=λN Q I=>by
 cases t with
 | mk k l=>
 obtain ⟨a,es,c,rfl,hlen,J⟩:=Ty.is_mk.1 hd
 refine zI7 N _ Q λ_=>?_
 by_cases hk:k=4
 ·subst hk
  rcases hv with hv | hv
  ·have hf:=Ty.form_len hv
   have O:=Ty.valid_cnt hv
   have aa:(l.length:Int)=1:=by simpa [zAj] using hf
   obtain ⟨u,rfl⟩:=zDz (l:=l) (by omega)
   obtain ⟨x0,_,rfl,ab,rfl⟩:=J
   simp only [Ty.cnt,zV] at O
   have e:zD3 (.mk 4 [u])=u:=rfl
   rw [e] at I
   repeat' first|with_reducible intro _|simp only[oJ,oM,Y1,Y2,Y3,Y4]|with_reducible refine X ?_ ?_|refine⟨_,_,_,rfl,?_⟩|refine⟨_,rfl,?_⟩|refine And.intro (by first|omega|trivial|(show _=_;rfl)|(with_reducible constructor)<;>first|omega|trivial|rfl) ?_|refine (zJF u _ ab (by omega)) _ _ ?_|fail
   all_goals first | (exfalso;omega) | skip
   rename_i N1 ac d1 N2 ae h1 o1 aa b1 N3 ah
   exact I _ _ (by omega) h1 (o1.mono (by omega) (by omega))
  ·cases hv
 ·have e:zD3 (.mk k l)=tZero:=by unfold zD3;exact if_neg hk
  rw [e] at I
  repeat' first|with_reducible intro _|simp only[Y1,Y2,Y3,Y4]|with_reducible refine X ?_ ?_|refine⟨_,_,_,rfl,?_⟩|refine⟨_,rfl,?_⟩|refine And.intro (by first|omega|trivial|(show _=_;rfl)|(with_reducible constructor)<;>first|omega|trivial|rfl) ?_|fail
  all_goals first | (exfalso;omega) | skip
  exact I _ _ (by omega) xg ye
def zC6 (u:Ty):List Ty->Bool
 | []=>true
 | t::I=>sn t u&&zC6 u I
def zBS (s:ByteArray):Ty:=if s=bytes [61] then tInt else if s=bytes [60] then tInt else if s=bytes [38] then tBool else if s=bytes [124] then tBool else if s=bytes [33] then tBool else tInt
def zDu (s:ByteArray):Ty:=if s=bytes [61] then tBool else if s=bytes [60] then tBool else if s=bytes [38] then tBool else if s=bytes [124] then tBool else if s=bytes [33] then tBool else tInt
theorem zSF {ts:List Ty} {es:List D} (h:All2 Ty.Is ts es) (hlen:es.length<=4611686018427387904) (a:Option Addr) (c:Nat) (s:ByteArray) :
  zEF 204 [.str s,.sv a 2 es c] (if zC6 (zBS s) ts then zDu s else tZero):=λN Q O=>by
 have key:∀ (u v:Ty) (d e:D) (N0 N1:Nat),u.Is d->v.Is e->Own N N1 e->N<=N1->zBS s=u->zDu s=v->zj Q N a es c es.length (0:Nat) 0 none [] 0 d e N1:=by
  intro u v d e N0 N1 hd he ho ae hu hv
  subst hu hv
  refine up h hlen (λi xs=>∀ (N':Nat),N1<=N'->zC6 (zBS s) xs=zC6 (zBS s) ts->zj Q N a es c es.length i 0 none [] 0 d e N') ?_ ?_ N1 (oB _) rfl
  ·intro i aa _ N' ab hk
   refine qa _ _ _ _ _ _ _ _ _ _ _ _ _ _ ?_
   rw [<-hk] at O
   repeat' first|with_reducible intro _|simp only[aa,Y1,Y2,Y3,Y4]|with_reducible refine X ?_ ?_|refine⟨_,_,_,rfl,?_⟩|refine⟨_,rfl,?_⟩|refine And.intro (by first|omega|trivial|(show _=_;rfl)|(with_reducible constructor)<;>first|omega|trivial|rfl) ?_|fail
   exact O _ _ (by omega) he (ho.mono (oB _) (by omega))
  ·intro i x xs I _ ac N' ab hk
   have hb:=I.b
   refine qa _ _ _ _ _ _ _ _ _ _ _ _ _ _ ?_
   repeat' first|with_reducible intro _|simp only[I.lt,I.w,oK,Y1,Y2,Y3,Y4]|with_reducible refine X ?_ ?_|refine⟨_,_,_,rfl,?_⟩|refine⟨_,rfl,?_⟩|refine And.intro (by first|omega|trivial|(show _=_;rfl)|(with_reducible constructor)<;>first|omega|trivial|rfl) ?_|refine (zY x _ _ _ I.r hd) _ _ ?_|fail
   ·rename_i J _ _
    rw [<-hk,zC6,J] at O
    exact O _ _ (by omega) xg ye
   ·rename_i J
    exact ac _ (by omega) (by rw [<-hk,zC6,J,mX])
 refine zIa N s a es c Q λ_=>?_
 repeat' first|with_reducible intro _|simp only[Y1,Y2,Y3,Y4]|with_reducible refine X ?_ ?_|refine⟨_,_,_,rfl,?_⟩|refine⟨_,rfl,?_⟩|refine And.intro (by first|omega|trivial|(show _=_;rfl)|(with_reducible constructor)<;>first|omega|trivial|rfl) ?_|refine zPq _ _ ?_|refine zI1 _ _ ?_|fail
 all_goals first
  | exact key tInt tBool _ _ 0 _ (by assumption) (by assumption) (Own.mono (by assumption) (by omega) (by omega)) (by omega) (by unfold zBS;(repeat' split)<;>first | rfl | contradiction) (by unfold zDu;(repeat' split)<;>first | rfl | contradiction)
  | exact key tBool tBool _ _ 0 _ (by assumption) (by assumption) (Own.mono (by assumption) (by omega) (by omega)) (by omega) (by unfold zBS;(repeat' split)<;>first | rfl | contradiction) (by unfold zDu;(repeat' split)<;>first | rfl | contradiction)
  | exact key tInt tInt _ _ 0 _ (by assumption) (by assumption) (Own.mono (by assumption) (by omega) (by omega)) (by omega) (by unfold zBS;(repeat' split)<;>first | rfl | contradiction) (by unfold zDu;(repeat' split)<;>first | rfl | contradiction)
theorem zSf {f:FuncId} {rs:List Sh} {args:List PV} {N z c:Nat} {Q:QT rs} {es:List D} (hc:yW prog f=true) (O:PV.sv none z es c∈args) (I:es≠[]):ACalls prog f rs args N Q:=
 ⟨hc,λav w0 _ _ J=>by
  have h:=(J _ O).1.1
  cases h
  exact absurd rfl I⟩
theorem zTK {g:List Tg} {es:List D} (h:Ctx g es) (hg:g.length<=1073741824) (a:Option Addr) (c:Nat) (N:Nat) (Q:QT [.row 127 4]) (hQ:∀ c' N',N<=N'->Q es c' N'):ACalls prog 219 [.row 127 4] [.sv a 4 es c] N Q:=by
 have hl:=h.all.len
 have aa:zB [] es 56:=by unfold zB;simp only [oW];omega
 have I:(a=none->es=[])->ACalls prog 219 [.row 127 4] [.sv a 4 es c] N Q:=λhn=>by
  refine pR N a es c Q λ_=>?_
  repeat' first|with_reducible intro _|simp only[Y1,Y2,Y3,Y4]|with_reducible refine X ?_ ?_|refine⟨_,_,_,rfl,?_⟩|refine⟨_,rfl,?_⟩|refine And.intro (by first|omega|trivial|(show _=_;rfl)|(with_reducible constructor)<;>first|omega|trivial|rfl) ?_|fail
  ·rename_i hi N1 O
   have:es=[]:=hn (by simpa using hi)
   subst this
   exact hQ _ _ O
  ·simp only [oW]
   exact hQ _ _ (by omega)
 cases a with
 | some ad=>exact I (by simp)
 | none=>
   by_cases J:es=[]
   ·exact I λ_=>J
   ·exact zSf (z:=4) (c:=c) (es:=es) (by kernel_rfl) (by simp) J
theorem vH {a:Option Addr} {z c:Nat} {es:List D}:∀ x∈(D.sl a z es c).foot,x∈zC es\/∃ ad,a=some ad/\x=ad.block:=by
 intro x hx
 cases a with
 | none=>simp only [D.foot] at hx;exact .inl hx
 | some ad=>
   simp only [D.foot] at hx
   split at hx
   ·simp at hx
   ·rcases oH.1 hx with rfl | hx
    ·exact .inr ⟨ad,rfl,rfl⟩
    ·exact .inl hx
theorem zEz {a:Option Addr} {z c:Nat} {es:List D}:∀ x∈zC es,x∈(D.sl a z es c).foot:=by
 intro x I
 cases a with
 | none=>simpa only [D.foot] using I
 | some ad=>
   simp only [D.foot]
   split
   ·rename_i h
    cases es with
    | nil=>simp [zC] at I
    | cons=>simp at h
   ·exact nj _ I
theorem zQl {g h:List Tg} {es fs:List D} (J:Ctx g es) (hh:Ctx h fs) (aa:g.length+h.length<=1073741824) (a b:Option Addr) (c e:Nat) (N:Nat) (Q:QT [.sl 4])
  (hQ:∀ O I c' N',N<=N'->Ctx (g++h) I->(∀ x∈(D.sl O 4 I c').foot,x∈zC es\/x∈zC fs\/N<=x)->Q O I c' N'):ACalls prog 205 [.sl 4] [.sv a 4 es c,.sv b 4 fs e] N Q:=by
 have hl:=J.all.len
 have ab:=hh.all.len
 have hb:zB es fs 56:=by unfold zB;simp only [oE];omega
 refine zMG N a es c b fs e Q λ_ _=>?_
 repeat' first|with_reducible intro _|simp only[Y1,Y2,Y3,Y4]|with_reducible refine X ?_ ?_|refine⟨_,_,_,rfl,?_⟩|refine⟨_,rfl,?_⟩|refine And.intro (by first|omega|trivial|(show _=_;rfl)|(with_reducible constructor)<;>first|omega|trivial|rfl) ?_|refine (zTK J (by omega) _ _) _ _ ?_|fail
 rename_i O N3 ac hf N4 ae
 refine hQ _ _ _ _ (by omega) ⟨by simp;omega,J.all.app hh.all⟩ λx hx=>?_
 rcases vH x hx with h1 | ⟨ad,rfl,rfl⟩
 ·rw [zE] at h1
  rcases oG.1 h1 with h1 | h1
  ·exact .inl h1
  ·exact .inr (.inl h1)
 ·have:=hf.lo ad rfl
  exact .inr (.inr (by omega))
theorem zPV {g:List Tg} {es:List D} (h:Ctx g es) (hg:g.length<=1073741824) (hc:∀ x∈g,x.ty.cnt<=1073741824) (a:Option Addr) (c:Nat) (n:Int) :
  ∀ (N:Nat) (Q:QT [.sl 4]),(∀ a' J c' N',N<=N'->Ctx (sg g n) J->Q a' J c' N')->ACalls prog 222 [.sl 4] [.sv a 4 es c,.j n] N Q:=λN Q hQ=>by
 have hl:=h.all.len
 refine zHO N a es c n Q λ_=>?_
 have key:=up h.all h.len (λi xs=>∀ (r:List D) (m q:Nat) (N':Nat) (done:List Tg),N<=N'->m=r.length->All2 Tg.Is done r->done.length<=i->done++rV g n xs i=sg g n->yX Q N a es c n m q a es c es.length i r q N') ?_ ?_
 ·exact key [] 0 0 N [] (oB _) rfl rfl (oB _) rfl
 ·intro i ab hi r m q N' done ac hm O ae hd
  refine qZ _ _ _ _ _ _ _ _ _ _ _ _ _ _ _ _ ?_
  repeat' first|with_reducible intro _|simp only[ab,Y1,Y2,Y3,Y4]|with_reducible refine X ?_ ?_|refine⟨_,_,_,rfl,?_⟩|refine⟨_,rfl,?_⟩|refine And.intro (by first|omega|trivial|(show _=_;rfl)|(with_reducible constructor)<;>first|omega|trivial|rfl) ?_|fail
  refine hQ _ _ _ _ (by omega) ⟨by have:=O.len;omega,?_⟩
  simp only [rV,o6] at hd
  rwa [<-hd]
 ·intro i x xs I _ aa r m q N' done ac hm O ae hd
  have hb:=I.b
  have ai:=O.len
  obtain ⟨t0,t1,he,hs,ht⟩:=I.r
  simp only [rV] at hd
  refine qZ _ _ _ _ _ _ _ _ _ _ _ _ _ _ _ _ ?_
  repeat' first|with_reducible intro _|simp only[I.lt,I.w,oK,he,Y1,Y2,Y3,Y4]|with_reducible refine X ?_ ?_|refine⟨_,_,_,rfl,?_⟩|refine⟨_,rfl,?_⟩|refine And.intro (by first|omega|trivial|(show _=_;rfl)|(with_reducible constructor)<;>first|omega|trivial|rfl) ?_|refine (ru _ _ ht) _ _ ?_|refine (zDe h a c _) _ _ ?_|refine (zJF _ _ ht (hc x I.m)) _ _ ?_|fail
  ·rename_i N2 aj x' N3 ak hx ho _ _
   have ah:zFj g n x i=true:=by simp [zFj, *]
   rw [if_pos ah] at hd
   refine ⟨by unfold zB;simp only [oE,np];omega,λc2=>aa _ _ _ _ (done++[x]) (by omega) rfl (O.snoc ⟨_,_,rfl,hs,Ty.is_cells hx⟩) (by simp;omega) (by simpa using hd)⟩
  all_goals (refine aa _ _ _ _ done (by omega) hm O (by omega) ?_;rw [<-hd,if_neg (by simp [zFj, *])])
theorem wW {bs:List (Option Addr)} {N N':Nat} {d:D} (J:wa N bs) (O:Own N N' d):Off bs d:=λa ha ad I hm=>by
 have:=J a ha ad I
 have:=O.lo _ hm
 omega
theorem zJX {a x b:Option Addr} {es fs O:List D} {c c' N:Nat} (h1:ApA a fs) (h2:Off [a] (.sl x 4 es c)) (h3:wa N [a]) (h4:∀ y∈(D.sl b 4 O c').foot,y∈zC es\/y∈zC fs\/N<=y):Off [a] (.sl b 4 O c'):=λa' J ad I hm=>by
 have e:=oR.1 J
 subst e
 rcases h4 _ hm with h | h | h
 ·exact h2 a' J ad I (zEz _ h)
 ·obtain ⟨d,hd,hx⟩:=zH.1 h
  exact h1 ad I d hd hx
 ·have:=h3 a' J ad I
  omega
theorem Ty.valid_k {t:Ty} (h:t.valid=true):t.k=1/\t.as=[]\/t.k=2/\t.as=[]\/(t.k=3/\∃ a b,t.as=[a,b])\/(t.k=4/\∃ a,t.as=[a]):=by
 cases t with
 | mk k l=>
   have I:=Ty.form_len h
   simp only [Ty.k,Ty.as]
   unfold zAj at I
   split at I
   ·rename_i hk
    have J:l=[]:=by simpa using I
    rcases hk with hk | hk
    ·exact .inl ⟨hk,J⟩
    ·exact .inr (.inl ⟨hk,J⟩)
   ·split at I
    ·rename_i hk;exact .inr (.inr (.inl ⟨hk,zNS (by simp at I;omega)⟩))
    ·split at I
     ·rename_i hk;exact .inr (.inr (.inr ⟨hk,zDz (by simp at I;omega)⟩))
     ·cases I
theorem Ty.valid_nz {t:Ty} (h:t.valid=true):t.k≠0:=by
 rcases Ty.valid_k h with h | h | h | h<;>omega
theorem zPe {t:Ty} (h:t.valid=true):sn t tZero=false/\sn tZero t=false:=by
 have I:=Ty.valid_nz h
 cases t with
 | mk k l=>
   have I:k≠0:=I
   have J:0≠k:=λh=>I h.symm
   constructor<;>simp [sn,tZero,I,J]
theorem zQf {t:Ty} (h:t.valid=true):sn t tBool=decide (t.k=2):=by
 have I:=Ty.valid_k h
 cases t with
 | mk k l=>
   simp only [Ty.k,Ty.as] at I
   rw [nP,rx,nf]
   simp only [tBool,Ty.k,Ty.mk.injEq]
   rcases I with ⟨I,J⟩ | ⟨I,J⟩ | ⟨I,_⟩ | ⟨I,_⟩<;>simp [I]
   exact J
theorem zUt {t:Ty} (h:t.valid=true):sn t tInt=decide (t.k=1):=by
 have I:=Ty.valid_k h
 cases t with
 | mk k l=>
   simp only [Ty.k,Ty.as] at I
   rw [nP,rx,nf]
   simp only [tInt,Ty.k,Ty.mk.injEq]
   rcases I with ⟨I,J⟩ | ⟨I,J⟩ | ⟨I,_⟩ | ⟨I,_⟩<;>simp [I]
   exact J
/-- the type of a term, the zero type for none -/
def tyZ (e:Tm) (g:List Tg) (n:Int):Ty:=(e.type g n).getD tZero
theorem zMg (e:Tm) (g:List Tg) (n:Int):(tyZ e g n).cnt<=30:=zJk e g n
theorem rM (e:Tm) (g:List Tg) (n:Int):(e.type g n=none/\tyZ e g n=tZero)\/(e.type g n=some (tyZ e g n)/\(tyZ e g n).valid=true):=by
 cases h:e.type g n with
 | none=>exact .inl ⟨rfl,by simp [tyZ,h]⟩
 | some t=>exact .inr ⟨by simp [tyZ,h],by simpa [tyZ,h] using Tm.type_valid h⟩
def IHi (l:List Tm):Prop:=∀ x∈l,∀ d,x.Is d->∀ g es a c n,Pre g x n->Ctx g es->zEF 142 [.sv a 4 es c,.dg 9 d,.j n] (tyZ x g n)
theorem zFU {k:Int} {nm ot:ByteArray} {m n:Int} {ty re:Ty} {l:List Tm} {t0 t1 r0 r1:D} {I:List D} {a1 a:Option Addr} {c1 c:Nat} {g:List Tg} {es:List D} (hk:ya k n=n) (ih:IHi l) (h0:All2 Tm.Is l I) (aa:I.length<=4611686018427387904)
  (pre:Pre g (.mk k nm ot m ty re l) n) (J:Ctx g es) (i:Nat) {x:Tm} (O:l[i]?=some x) (b1 b2 b3:Addr) :
  zEF 200 [.j i,.pd b1 0 (.sl a 4 es c),.pd b2 9 (.ag [.j k,.t nm,.t ot,.j m,t0,t1,r0,r1,.sl a1 9 I c1]),.pd b3 0 (.j n)] (tyZ x g n):=λN Q hQ=>by
 have ab:=(oD.1 O).1
 have ac:=h0.len
 have hm:=oC O
 have hp:=pre.sub hm (g':=g) (by omega) pre.ty
 rw [hk] at hp
 refine zAg N i b1 _ b2 _ b3 _ Q ?_
 refine ⟨_,_,_,rfl,_,_,_,rfl,⟨by omega,by omega⟩,_,rfl,?_⟩
 repeat' first|with_reducible intro _|simp only[oK,Y1,Y2,Y3,Y4]|with_reducible refine X ?_ ?_|refine⟨_,_,_,rfl,?_⟩|refine⟨_,rfl,?_⟩|refine And.intro (by first|omega|trivial|(show _=_;rfl)|(with_reducible constructor)<;>first|omega|trivial|rfl) ?_|refine (ih x hm _ (h0.get O) g _ _ _ n hp J) _ _ ?_|fail
 exact hQ _ _ (by omega) (by assumption) (Own.mono (by assumption) (by omega) (by omega))
theorem zWB {e0 e1 I:Tm} {g:List Tg} {n:Int} {s:ByteArray}:((match yE [e0,e1,I] g n with | some ts=>xa 5 s ts | none=>none):Option Ty).getD tZero =
  if sn (tyZ e0 g n) tBool&&sn (tyZ e1 g n) (tyZ I g n) then tyZ e1 g n else tZero:=by
 rcases rM e0 g n with ⟨J,z0⟩ | ⟨J,v0⟩
 ·simp only [yE,J,z0];rfl
 ·rcases rM e1 g n with ⟨O,z1⟩ | ⟨O,v1⟩
  ·simp only [yE,J,O,z1];split<;>rfl
  ·rcases rM I g n with ⟨h2,z2⟩ | ⟨h2,v2⟩
   ·simp only [yE,J,O,h2,z2,(zPe v1).1,md];rfl
   ·simp only [yE,J,O,h2]
    rw [zQf v0]
    show (xa 5 s [tyZ e0 g n,tyZ e1 g n,tyZ I g n]).getD tZero=_
    unfold xa
    rw [if_neg (by omega),if_pos rfl]
    simp only [mN,mv]
    by_cases hc:(tyZ e0 g n).k=2/\sn (tyZ e1 g n) (tyZ I g n)=true
    ·rw [if_pos hc,if_pos (by simp [hc.1,hc.2])];rfl
    ·rw [if_neg hc,if_neg (by simpa using hc)];rfl
theorem zVV {e0 e1:Tm} {g:List Tg} {n:Int} {s:ByteArray}:((match yE [e0,e1] g n with | some ts=>xa 7 s ts | none=>none):Option Ty).getD tZero =
  if (tyZ e0 g n).k=3/\sn ((tyZ e0 g n).as.getD 0 tZero) (tyZ e1 g n) then (tyZ e0 g n).as.getD 1 tZero else tZero:=by
 rcases rM e0 g n with ⟨J,z0⟩ | ⟨J,v0⟩
 ·simp only [yE,J,z0];rfl
 ·rcases rM e1 g n with ⟨O,z1⟩ | ⟨O,v1⟩
  ·simp only [yE,J,O,z1]
   rw [if_neg]
   ·rfl
   ·rintro ⟨hk,he⟩
    rcases Ty.valid_k v0 with h | h | ⟨_,a,b,I⟩ | h
    ·omega
    ·omega
    ·rw [I,rx] at he
     simp only [mN] at he
     subst he
     have:(tyZ e0 g n).form=true:=by simp only [Ty.valid,oL] at v0;exact v0.2
     cases hz:tyZ e0 g n with
     | mk k l=>
       rw [hz] at I this
       simp only [Ty.as] at I
       subst I
       simp [Ty.form,sf,zAj,tZero] at this
    ·omega
  ·simp only [yE,J,O]
   show (xa 7 s [tyZ e0 g n,tyZ e1 g n]).getD tZero=_
   unfold xa
   rw [if_neg (by omega),if_neg (by omega)]
   simp only [mN,mv]
   split<;>rfl
theorem zV5 {l:List Tm} {g:List Tg} {n:Int} {s:ByteArray} (hs:0<zJx s):((match yE l g n with | some I=>xa 4 s I | none=>none):Option Ty).getD tZero =
  if zC6 (zBS s) (l.map λe=>tyZ e g n) then zDu s else tZero:=by
 have h2:zDu s=zER s/\(zBS s=tInt/\zKg s=1\/zBS s=tBool/\zKg s=2):=by
  unfold zJx at hs
  (repeat' split at hs)<;>first | omega | (subst_vars;exact ⟨rfl,.inl ⟨rfl,rfl⟩⟩) | (subst_vars;exact ⟨rfl,.inr ⟨rfl,rfl⟩⟩) | skip
 obtain ⟨h3,J⟩:=h2
 have key:∀ l:List Tm,(∀ I,yE l g n=some I->zC6 (zBS s) (l.map λe=>tyZ e g n)=zSE (zKg s) I)/\(yE l g n=none->zC6 (zBS s) (l.map λe=>tyZ e g n)=false):=by
  intro l
  induction l with
  | nil=>exact ⟨λI h=>by simp [yE] at h;subst h;rfl,λh=>by simp [yE] at h⟩
  | cons e l ih=>
    rcases rM e g n with ⟨h0,z0⟩ | ⟨h0,v0⟩
    ·have:sn tZero (zBS s)=false:=by rcases J with ⟨J,_⟩ | ⟨J,_⟩<;>rw [J]<;>rfl
     refine ⟨λI h=>by simp [yE,h0] at h,λ_=>by simp [zC6,z0,this]⟩
    ·have hk:sn (tyZ e g n) (zBS s)=decide ((tyZ e g n).k=zKg s):=by
      rcases J with ⟨J,h5⟩ | ⟨J,h5⟩<;>rw [J,h5]
      ·exact zUt v0
      ·exact zQf v0
     cases O:yE l g n with
     | none=>exact ⟨λI h=>by simp [yE,h0,O] at h,λ_=>by simp [zC6,ih.2 O]⟩
     | some us=>
       refine ⟨λI h=>?_,λh=>by simp [yE,h0,O] at h⟩
       simp only [yE,h0,O,o4] at h
       subst h
       simp only [oh,zC6,zSE,hk,ih.1 us O]
 cases O:yE l g n with
 | none=>rw [(key l).2 O];rfl
 | some I=>
   rw [(key l).1 I O,h3]
   show (xa 4 s I).getD tZero=_
   unfold xa zSx
   rw [if_pos rfl]
   split<;>rfl
/-- a node's cells -/
abbrev zGw (k:Int) (nm ot:ByteArray) (m:Int) (t0 t1 r0 r1:D) (a:Option Addr) (es:List D) (c:Nat):D:=.ag [.j k,.t nm,.t ot,.j m,t0,t1,r0,r1,.sl a 9 es c]
theorem f5 {nm ot:ByteArray} {m n:Int} {ty re:Ty} {l:List Tm} {t0 t1 r0 r1:D} {es1:List D} {a1 a:Option Addr} {c1 c:Nat} {g:List Tg} {es:List D} (ih:IHi l) (hh:Tm.Hd nm ot ty re t0 t1 r0 r1) (h0:All2 Tm.Is l es1) (hl1:es1.length<=4611686018427387904)
  (pre:Pre g (.mk 5 nm ot m ty re l) n) (ctx:Ctx g es) :
  zEF 176 [.sv a 4 es c,.dg 9 (zGw 5 nm ot m t0 t1 r0 r1 a1 es1 c1),.j n] ((Tm.raw (.mk 5 nm ot m ty re l) g n).getD tZero):=fun N Q hQ=>by
 have hl : l.length = 3 := by have:(l.length:Int)=3:=(y8 pre.ok).ar
                              omega
 obtain ⟨e0,e1,e2,rfl⟩:∃ a b c,l=[a,b,c]:=by
  match l,hl with
  | [a,b,c],_=>exact ⟨a,b,c,rfl⟩
 have hraw:(Tm.raw (.mk 5 nm ot m ty re [e0,e1,e2]) g n).getD tZero=if sn (tyZ e0 g n) tBool&&sn (tyZ e1 g n) (tyZ e2 g n) then tyZ e1 g n else tZero:=by
  rw [<-zWB (s:=nm)]
  simp only [Tm.raw]
  rfl
 rw [hraw] at hQ
 have hn:ya 5 n=n:=by simp [ya]
 refine zq N a es c _ n Q fun _ _=>⟨_,rfl,?_⟩
 repeat' first|with_reducible intro _|simp only[Y1,Y2,Y3,Y4]|with_reducible refine X ?_ ?_|refine⟨_,_,_,rfl,?_⟩|refine⟨_,rfl,?_⟩|refine And.intro (by first|omega|trivial|(show _=_;rfl)|(with_reducible constructor)<;>first|omega|trivial|rfl) ?_|refine (zFU hn ih h0 hl1 pre ctx 1 rfl _ _ _) _ _ ?_|refine (zFU hn ih h0 hl1 pre ctx 2 rfl _ _ _) _ _ ?_|refine (zFU hn ih h0 hl1 pre ctx 0 rfl _ _ _) _ _ ?_|refine zI1 _ _ ?_|refine (zY (tyZ e0 g n) tBool _ _ (by assumption) (by assumption)) _ _ ?_|refine (zY (tyZ e1 g n) (tyZ e2 g n) _ _ (by assumption) (by assumption)) _ _ ?_|(((with_reducible refine And.intro ?_ ?_);· exact wW (by assumption) (by assumption)))|fail
 all_goals first | (exfalso;omega) | skip
 all_goals first
  | exact hQ _ _ (by omega) (by rw [if_pos (by simp [*])];assumption) (Own.mono (by assumption) (by omega) (by omega))
  | exact hQ _ _ (by omega) (by rw [if_neg (by simp [*])];exact xg) ye
/-- the type of a call -/
def zPx (z0 I:Ty):Ty:=if z0.k=3/\sn (z0.as.getD 0 tZero) I then z0.as.getD 1 tZero else tZero
theorem f7 {nm ot:ByteArray} {m n:Int} {ty re:Ty} {l:List Tm} {t0 t1 r0 r1:D} {es1:List D} {a1 a:Option Addr} {c1 c:Nat} {g:List Tg} {es:List D} (ih:IHi l) (hh:Tm.Hd nm ot ty re t0 t1 r0 r1) (h0:All2 Tm.Is l es1) (hl1:es1.length<=4611686018427387904)
  (pre:Pre g (.mk 7 nm ot m ty re l) n) (ctx:Ctx g es) :
  zEF 176 [.sv a 4 es c,.dg 9 (zGw 7 nm ot m t0 t1 r0 r1 a1 es1 c1),.j n] ((Tm.raw (.mk 7 nm ot m ty re l) g n).getD tZero):=fun N Q hQ=>by
 have hl : l.length = 2 := by have:(l.length:Int)=2:=(y8 pre.ok).ar
                              omega
 obtain ⟨e0,e1,rfl⟩:=zNS hl
 have hraw:(Tm.raw (.mk 7 nm ot m ty re [e0,e1]) g n).getD tZero=zPx (tyZ e0 g n) (tyZ e1 g n):=by
  unfold zPx
  rw [<-zVV (s:=nm)]
  simp only [Tm.raw]
  rfl
 rw [hraw] at hQ
 have hn:ya 7 n=n:=by simp [ya]
 refine zq N a es c _ n Q fun _ _=>⟨_,rfl,?_⟩
 repeat' first|with_reducible intro _|simp only[Y1,Y2,Y3,Y4]|with_reducible refine X ?_ ?_|refine⟨_,_,_,rfl,?_⟩|refine⟨_,rfl,?_⟩|refine And.intro (by first|omega|trivial|(show _=_;rfl)|(with_reducible constructor)<;>first|omega|trivial|rfl) ?_|refine (zFU hn ih h0 hl1 pre ctx 0 rfl _ _ _) _ _ ?_|refine (zFU hn ih h0 hl1 pre ctx 1 rfl _ _ _) _ _ ?_|(((with_reducible refine And.intro ?_ ?_);· exact wW (by assumption) (by assumption)))|fail
 all_goals first | (exfalso;omega) | skip
 rename_i hd0 ho0 _ _ _ _ _ _ _ _ _ _ _ _ _ _ hd1 ho1 _ _
 have hv:=rM e0 g n
 generalize tyZ e0 g n=z0 at *
 cases z0 with
 | mk k0 l0=>
 obtain ⟨a2,es2,c2,rfl,hl2,he2⟩:=Ty.is_mk.1 hd0
 by_cases hk:k0=3
 ·subst hk
  have hv:(Ty.mk 3 l0).valid=true:=by
   rcases hv with ⟨_,hv⟩ | ⟨_,hv⟩
   ·cases hv
   ·exact hv
  have hcn:=Ty.valid_cnt hv
  rcases Ty.valid_k hv with ⟨hk,_⟩ | ⟨hk,_⟩ | ⟨_,u,v,huv⟩ | ⟨hk,_⟩
  ·cases hk
  ·cases hk
  ·simp only [Ty.as] at huv
   subst huv
   obtain ⟨x0,_,rfl,hx0,x1,_,rfl,hx1,rfl⟩:=he2
   simp only [Ty.cnt,zV] at hcn
   have q1:sn u (tyZ e1 g n)=true->zPx (.mk 3 [u,v]) (tyZ e1 g n)=v:=fun h=>if_pos ⟨rfl,h⟩
   have q2:sn u (tyZ e1 g n)=false->zPx (.mk 3 [u,v]) (tyZ e1 g n)=tZero:=fun h=>if_neg fun hc=>by rw [show (Ty.mk 3 [u,v]).as.getD 0 tZero=u from rfl,h] at hc;cases hc.2
   repeat' first|with_reducible intro _|simp only[oJ,oM,Y1,Y2,Y3,Y4]|with_reducible refine X ?_ ?_|refine⟨_,_,_,rfl,?_⟩|refine⟨_,rfl,?_⟩|refine And.intro (by first|omega|trivial|(show _=_;rfl)|(with_reducible constructor)<;>first|omega|trivial|rfl) ?_|refine (zY u (tyZ e1 g n) _ _ hx0 hd1) _ _ ?_|refine (zJF v _ hx1 (by omega)) _ _ ?_|fail
   all_goals first | (exfalso;omega) | skip
   all_goals first
    | exact hQ _ _ (by omega) (by rw [q1 (by assumption)];assumption) (Own.mono (by assumption) (by omega) (by omega))
    | exact hQ _ _ (by omega) (by rw [q2 (by assumption)];exact xg) ye
  ·cases hk
 ·repeat' first|with_reducible intro _|simp only[Y1,Y2,Y3,Y4]|with_reducible refine X ?_ ?_|refine⟨_,_,_,rfl,?_⟩|refine⟨_,rfl,?_⟩|refine And.intro (by first|omega|trivial|(show _=_;rfl)|(with_reducible constructor)<;>first|omega|trivial|rfl) ?_|fail
  all_goals first | (exfalso;omega) | skip
  exact hQ _ _ (by omega) (by rw [show zPx (.mk k0 l0) (tyZ e1 g n)=tZero from if_neg fun h=>hk h.1];exact xg) ye
/-- the type of a function of this parameter -/
def zRZ (t z:Ty):Ty:=if z.k=0 then tZero else tH t z
theorem f6 {nm ot:ByteArray} {m n:Int} {ty re:Ty} {l:List Tm} {t0 t1 r0 r1:D} {es1:List D} {a1 a:Option Addr} {c1 c:Nat} {g:List Tg} {es:List D} (ih:IHi l) (hh:Tm.Hd nm ot ty re t0 t1 r0 r1) (h0:All2 Tm.Is l es1) (hl1:es1.length<=4611686018427387904)
  (pre:Pre g (.mk 6 nm ot m ty re l) n) (ctx:Ctx g es) :
  zEF 176 [.sv a 4 es c,.dg 9 (zGw 6 nm ot m t0 t1 r0 r1 a1 es1 c1),.j n] ((Tm.raw (.mk 6 nm ot m ty re l) g n).getD tZero):=fun N Q hQ=>by
 have hl : l.length = 1 := by have:(l.length:Int)=1:=(y8 pre.ok).ar
                              omega
 obtain ⟨e0,rfl⟩:=zDz hl
 obtain ⟨d0,_,rfl,h0,rfl⟩:=h0
 have hlen:=pre.len
 have hpc:1<=(Tm.mk 6 nm ot m ty re [e0]).cnt:=by simp only [Tm.cnt];omega
 have hv:=Ty.valid_cnt ((y8 pre.ok).vt (.inl rfl))
 have hp:=pre.sub (x:=e0) (by simp) (g':=g++[⟨nm,ty,n⟩]) (by simp) (qq pre.ty (show ty.cnt<=64 by omega))
 rw [show ya 6 n=n by simp [ya]] at hp
 have hc:=zMg e0 (g++[⟨nm,ty,n⟩]) n
 have hz:=rM e0 (g++[⟨nm,ty,n⟩]) n
 have hraw:(Tm.raw (.mk 6 nm ot m ty re [e0]) g n).getD tZero=zRZ ty (tyZ e0 (g++[⟨nm,ty,n⟩]) n):=by
  have:Tm.raw (.mk 6 nm ot m ty re [e0]) g n=(match e0.type (g++[⟨nm,ty,n⟩]) n with | some b=>some (tH ty b) | none=>none):=by simp only [Tm.raw,uw];rfl
  rw [this]
  unfold zRZ
  rcases hz with ⟨h1,h2⟩ | ⟨h1,h2⟩
  ·rw [h1,h2];rfl
  ·rw [h1,if_neg (Ty.valid_nz h2)];rfl
 rw [hraw] at hQ
 have hctx:Ctx [⟨nm,ty,n⟩] [.ag [.t nm,t0,t1,.j n]]:=⟨by simp,_,_,rfl,⟨_,_,rfl,hh.nm,hh.ty⟩,rfl⟩
 refine zq N a es c _ n Q fun _ _=>⟨_,rfl,?_⟩
 repeat' first|with_reducible intro _|simp only[oJ,oM,Y1,Y2,Y3,Y4]|with_reducible refine X ?_ ?_|refine⟨_,_,_,rfl,?_⟩|refine⟨_,rfl,?_⟩|refine And.intro (by first|omega|trivial|(show _=_;rfl)|(with_reducible constructor)<;>first|omega|trivial|rfl) ?_|refine (zQl ctx hctx (by simp;omega) _ _ _ _) _ _ ?_|refine (ih e0 nS d0 h0 (g++[⟨nm,ty,n⟩]) _ _ _ n hp (by assumption)) _ _ ?_|(((with_reducible refine And.intro ?_ ?_);· exact zJX (by assumption) (by assumption) (by assumption) (by assumption)))|fail
 all_goals first | (exfalso;omega) | skip
 rename_i hd0 ho0 _ _
 generalize tyZ e0 (g++[⟨nm,ty,n⟩]) n=z0 at *
 cases z0 with
 | mk k0 l0=>
 have hd1:=hd0
 obtain ⟨a2,es2,c2,rfl,hl2,he2⟩:=Ty.is_mk.1 hd0
 repeat' first|with_reducible intro _|simp only[Y1,Y2,Y3,Y4]|with_reducible refine X ?_ ?_|refine⟨_,_,_,rfl,?_⟩|refine⟨_,rfl,?_⟩|refine And.intro (by first|omega|trivial|(show _=_;rfl)|(with_reducible constructor)<;>first|omega|trivial|rfl) ?_|refine (zO1 ty (.mk k0 l0) _ _ hh.ty hd1 (by omega) (by omega)) _ _ ?_|fail
 all_goals first
  | exact hQ _ _ (by omega) (by rw [show zRZ ty (.mk k0 l0)=tZero from if_pos (by assumption)];exact xg) ye
  | exact hQ _ _ (by omega) (by rw [show zRZ ty (.mk k0 l0)=tH ty (.mk k0 l0) from if_neg (by assumption)];assumption) (Own.mono (by assumption) (by omega) (by omega))
/-- the type of a let whose first part has this type -/
def zRW (e1:Tm) (g:List Tg) (nm:ByteArray) (n:Int) (z:Ty):Ty:=if z.k=0 then tZero else tyZ e1 (g++[⟨nm,z,n⟩]) n
theorem f8 {nm ot:ByteArray} {m n:Int} {ty re:Ty} {l:List Tm} {t0 t1 r0 r1:D} {es1:List D} {a1 a:Option Addr} {c1 c:Nat} {g:List Tg} {es:List D} (ih:IHi l) (hh:Tm.Hd nm ot ty re t0 t1 r0 r1) (h0:All2 Tm.Is l es1) (hl1:es1.length<=4611686018427387904)
  (pre:Pre g (.mk 8 nm ot m ty re l) n) (ctx:Ctx g es) :
  zEF 176 [.sv a 4 es c,.dg 9 (zGw 8 nm ot m t0 t1 r0 r1 a1 es1 c1),.j n] ((Tm.raw (.mk 8 nm ot m ty re l) g n).getD tZero):=fun N Q hQ=>by
 have hl : l.length = 2 := by have:(l.length:Int)=2:=(y8 pre.ok).ar
                              omega
 obtain ⟨e0,e1,rfl⟩:=zNS hl
 have hes1:=h0
 obtain ⟨d0,_,rfl,h0,d1,_,rfl,h1,rfl⟩:=h0
 have hlen:=pre.len
 have hpc:1<=(Tm.mk 8 nm ot m ty re [e0,e1]).cnt:=by simp only [Tm.cnt];omega
 have hz:=rM e0 g n
 have hc:=zMg e0 g n
 have hraw:(Tm.raw (.mk 8 nm ot m ty re [e0,e1]) g n).getD tZero=zRW e1 g nm n (tyZ e0 g n):=by
  have:Tm.raw (.mk 8 nm ot m ty re [e0,e1]) g n=(match e0.type g n with | some b=>e1.type (g++[⟨nm,b,n⟩]) n | none=>none):=by simp only [Tm.raw,uw];rfl
  rw [this]
  unfold zRW
  rcases hz with ⟨h1,h2⟩ | ⟨h1,h2⟩
  ·rw [h1,h2];rfl
  ·rw [h1,if_neg (Ty.valid_nz h2)];rfl
 rw [hraw] at hQ
 have hn:ya 8 n=n:=by simp [ya]
 refine zq N a es c _ n Q fun _ _=>⟨_,rfl,?_⟩
 repeat' first|with_reducible intro _|simp only[oJ,oM,Y1,Y2,Y3,Y4]|with_reducible refine X ?_ ?_|refine⟨_,_,_,rfl,?_⟩|refine⟨_,rfl,?_⟩|refine And.intro (by first|omega|trivial|(show _=_;rfl)|(with_reducible constructor)<;>first|omega|trivial|rfl) ?_|refine (zFU hn ih hes1 hl1 pre ctx 0 rfl _ _ _) _ _ ?_|(((with_reducible refine And.intro ?_ ?_);· exact wW (by assumption) (by assumption)))|fail
 all_goals first | (exfalso;omega) | skip
 rename_i hd0 ho0 _ _
 generalize tyZ e0 g n=z0 at *
 cases z0 with
 | mk k0 l0=>
 have hd1:=hd0
 obtain ⟨a2,es2,c2,rfl,hl2,he2⟩:=Ty.is_mk.1 hd0
 by_cases hk:k0=0
 ·have q:zRW e1 g nm n (.mk k0 l0)=tZero:=if_pos hk
  rw [q] at hQ
  repeat' first|with_reducible intro _|simp only[Y1,Y2,Y3,Y4]|with_reducible refine X ?_ ?_|refine⟨_,_,_,rfl,?_⟩|refine⟨_,rfl,?_⟩|refine And.intro (by first|omega|trivial|(show _=_;rfl)|(with_reducible constructor)<;>first|omega|trivial|rfl) ?_|fail
  all_goals first | (exfalso;omega) | exact hQ _ _ (by omega) xg ye
 ·have q:zRW e1 g nm n (.mk k0 l0)=tyZ e1 (g++[⟨nm,.mk k0 l0,n⟩]) n:=if_neg hk
  rw [q] at hQ
  have hp:=pre.sub (x:=e1) (by simp) (g':=g++[⟨nm,.mk k0 l0,n⟩]) (by simp) (qq pre.ty (oZ hc (by omega)))
  rw [hn] at hp
  have hctx:Ctx [⟨nm,.mk k0 l0,n⟩] [.ag [.t nm,.j k0,.sl a2 2 es2 c2,.j n]]:=⟨by simp,_,_,rfl,⟨_,_,rfl,hh.nm,hd1⟩,rfl⟩
  repeat' first|with_reducible intro _|simp only[oJ,oM,Y1,Y2,Y3,Y4]|with_reducible refine X ?_ ?_|refine⟨_,_,_,rfl,?_⟩|refine⟨_,rfl,?_⟩|refine And.intro (by first|omega|trivial|(show _=_;rfl)|(with_reducible constructor)<;>first|omega|trivial|rfl) ?_|refine (zQl ctx hctx (by simp;omega) _ _ _ _) _ _ ?_|refine (ih e1 (by simp) d1 h1 (g++[⟨nm,.mk k0 l0,n⟩]) _ _ _ n hp (by assumption)) _ _ ?_|(((with_reducible refine And.intro ?_ ?_);· exact zJX (by assumption) (by assumption) (by assumption) (by assumption)))|fail
  all_goals first | (exfalso;omega) | skip
  exact hQ _ _ (by omega) (by assumption) (Own.mono (by assumption) (by omega) (by omega))
theorem zV9 {nm ot:ByteArray} {ty re:Ty} {t0 t1 r0 r1 x:D} (I:Tm.Hd nm ot ty re t0 t1 r0 r1) (J:(tH ty re).Is x) (n:Int) :
  Ctx [⟨nm,tH ty re,n⟩,⟨ot,ty,n⟩] [.ag [.t nm,D.cell x 0,D.cell x 1,.j n],.ag [.t ot,t0,t1,.j n]]:=
 ⟨by simp,_,_,rfl,⟨_,_,rfl,I.nm,Ty.is_cells J⟩,_,_,rfl,⟨_,_,rfl,I.ot,I.ty⟩,rfl⟩
theorem f9 {nm ot:ByteArray} {m n:Int} {ty re:Ty} {l:List Tm} {t0 t1 r0 r1:D} {es1:List D} {a1 a:Option Addr} {c1 c:Nat} {g:List Tg} {es:List D} (ih:IHi l) (hh:Tm.Hd nm ot ty re t0 t1 r0 r1) (h0:All2 Tm.Is l es1) (hl1:es1.length<=4611686018427387904)
  (pre:Pre g (.mk 9 nm ot m ty re l) n) (ctx:Ctx g es) :
  zEF 176 [.sv a 4 es c,.dg 9 (zGw 9 nm ot m t0 t1 r0 r1 a1 es1 c1),.j n] ((Tm.raw (.mk 9 nm ot m ty re l) g n).getD tZero):=fun N Q hQ=>by
 have hl : l.length = 1 := by have:(l.length:Int)=1:=(y8 pre.ok).ar
                              omega
 obtain ⟨e0,rfl⟩:=zDz hl
 obtain ⟨d0,_,rfl,h0,rfl⟩:=h0
 have hlen:=pre.len
 have hpc:1<=(Tm.mk 9 nm ot m ty re [e0]).cnt:=by simp only [Tm.cnt];omega
 have hv:=Ty.valid_cnt ((y8 pre.ok).vt (.inr rfl))
 have hrv:=(y8 pre.ok).vr rfl
 have hr:=Ty.valid_cnt hrv
 have hg1:=qq (x:=⟨nm,tH ty re,n⟩) pre.ty (show (tH ty re).cnt<=64 by simp only [tH,Ty.cnt,zV];omega)
 have hp:=pre.sub (x:=e0) (by simp) (g':=(g++[⟨nm,tH ty re,n⟩])++[⟨ot,ty,n⟩]) (by simp) (qq hg1 (show ty.cnt<=64 by omega))
 rw [show ya 9 n=n by simp [ya],nG,List.singleton_append] at hp
 have hz:=rM e0 (g++[⟨nm,tH ty re,n⟩,⟨ot,ty,n⟩]) n
 have hraw:(Tm.raw (.mk 9 nm ot m ty re [e0]) g n).getD tZero=if sn (tyZ e0 (g++[⟨nm,tH ty re,n⟩,⟨ot,ty,n⟩]) n) re then tH ty re else tZero:=by
  have:Tm.raw (.mk 9 nm ot m ty re [e0]) g n=(match e0.type ((g++[⟨nm,tH ty re,n⟩])++[⟨ot,ty,n⟩]) n with | some b=>if sn b re then some (tH ty re) else none | none=>none):=by simp only [Tm.raw,uw];rfl
  rw [this,nG,List.singleton_append]
  rcases hz with ⟨h1,h2⟩ | ⟨h1,h2⟩
  ·rw [h1,h2,(zPe hrv).2];rfl
  ·rw [h1];dsimp only;split<;>rfl
 rw [hraw] at hQ
 refine zq N a es c _ n Q fun _ _=>⟨_,rfl,?_⟩
 repeat' first|with_reducible intro _|simp only[oJ,oM,Y1,Y2,Y3,Y4]|with_reducible refine X ?_ ?_|refine⟨_,_,_,rfl,?_⟩|refine⟨_,rfl,?_⟩|refine And.intro (by first|omega|trivial|(show _=_;rfl)|(with_reducible constructor)<;>first|omega|trivial|rfl) ?_|refine (zO1 ty re _ _ hh.ty hh.re (by omega) (by omega)) _ _ ?_|refine (zQl ctx (h:=[⟨nm,tH ty re,n⟩,⟨ot,ty,n⟩]) (zV9 hh (by assumption) n) (by simp;omega) _ _ _ _) _ _ ?_|refine (ih e0 nS d0 h0 (g++[⟨nm,tH ty re,n⟩,⟨ot,ty,n⟩]) _ _ _ n hp (by assumption)) _ _ ?_|refine (zY (tyZ e0 (g++[⟨nm,tH ty re,n⟩,⟨ot,ty,n⟩]) n) re _ _ (by assumption) hh.re) _ _ ?_|(((with_reducible refine And.intro ?_ ?_);· exact zJX (by assumption) (by assumption) (by assumption) (by assumption)))|fail
 all_goals first | (exfalso;omega) | skip
 all_goals first
  | exact hQ _ _ (by omega) (by rw [if_pos (by assumption)];assumption) (Own.mono (by assumption) (by omega) (by omega))
  | exact hQ _ _ (by omega) (by rw [if_neg (by simp [*])];exact xg) ye
/-- the type of a stage over a part of this type -/
def stZ (k:Int) (z:Ty):Ty:=if k=10 then (if z.k=0 then tZero else zAk z) else if k=13 then (if z.base then zAk z else tZero) else zD3 z
theorem zUh {k:Int} {e0:Tm} {g:List Tg} {n:Int}:((match e0.type g n with | some t=>xU k t | none=>none):Option Ty).getD tZero=stZ k (tyZ e0 g n):=by
 rcases rM e0 g n with ⟨I,J⟩ | ⟨I,J⟩
 ·rw [I,J]
  have:stZ k tZero=tZero:=by
   unfold stZ
   split
   ·rfl
   ·split<;>rfl
  exact this.symm
 ·rw [I]
  dsimp only
  have:=Ty.valid_nz J
  unfold stZ xU zD3
  rw [if_neg this]
  (repeat' split)<;>rfl
theorem fS {k:Int} {nm ot:ByteArray} {m n:Int} {ty re:Ty} {l:List Tm} {t0 t1 r0 r1:D} {ac:List D} {a1 a:Option Addr} {c1 c:Nat} {g:List Tg} {es:List D} (hk:k=10\/k=11\/k=12\/k=13) (ih:IHi l) (hh:Tm.Hd nm ot ty re t0 t1 r0 r1) (h0:All2 Tm.Is l ac) (ao:ac.length<=4611686018427387904)
  (pre:Pre g (.mk k nm ot m ty re l) n) (ab:Ctx g es) :
  zEF 207 [.sv a 4 es c,.dg 9 (zGw k nm ot m t0 t1 r0 r1 a1 ac c1),.j n] ((Tm.raw (.mk k nm ot m ty re l) g n).getD tZero):=λN Q hQ=>by
 have hl:l.length=1:=by
  have ak:=(y8 pre.ok).ar
  have:(l.length:Int)=1:=by rw [ak];rcases hk with rfl | rfl | rfl | rfl<;>rfl
  omega
 obtain ⟨e0,rfl⟩:=zDz hl
 obtain ⟨d0,_,rfl,h0,rfl⟩:=h0
 have hlen:=pre.len
 have aq:=pre.lv
 have ae:=zC8 g n g 0
 have al:∀ x∈g,x.ty.cnt<=1073741824:=λx hx=>oZ (pre.ty x hx) (by omega)
 have ah:(Tm.raw (.mk k nm ot m ty re [e0]) g n).getD tZero=stZ k (tyZ e0 (if k=12 then sg g n else g) (ya k n)):=by
  rw [<-zUh]
  simp only [Tm.raw,uw]
  rw [if_neg (by omega),if_neg (by omega),if_neg (by omega),if_neg (by omega),if_neg (by omega),if_neg (by omega),if_pos hk]
  rfl
 rw [ah] at hQ
 have hp:=pre.sub (x:=e0) (by simp) (g':=if k=12 then sg g n else g) (by split<;>simp [sg];omega) (by split;exact λy hy=>pre.ty y (ae.1 y hy);exact pre.ty)
 have aa:∀ es a c,Ctx (if k=12 then sg g n else g) es->zEF 142 [.sv a 4 es c,.dg 9 d0,.j (ya k n)] (tyZ e0 (if k=12 then sg g n else g) (ya k n)):=λes a c hc=>ih e0 nS d0 h0 _ es a c _ hp hc
 have hz:=rM e0 (if k=12 then sg g n else g) (ya k n)
 have au:=zMg e0 (if k=12 then sg g n else g) (ya k n)
 generalize tyZ e0 (if k=12 then sg g n else g) (ya k n)=z0 at *
 have ai:z0.valid=true\/z0=tZero:=hz.elim (λh=>.inr h.2) λh=>.inl h.2
 refine zEa N a es c _ n Q λ_ _=>⟨_,rfl,?_⟩
 rw [i64_in (n+1) (by omega),i64_in (n - 1) (by omega)]
 cases z0 with
 | mk J O=>
 rcases hk with rfl | rfl | rfl | rfl
 ·have I:=aa es a c ab
  rw [show ya 10 n=n+1 by simp [ya]] at I
  repeat' first|with_reducible intro _|simp only[oJ,oM,Y1,Y2,Y3,Y4]|with_reducible refine X ?_ ?_|refine⟨_,_,_,rfl,?_⟩|refine⟨_,rfl,?_⟩|refine And.intro (by first|omega|trivial|(show _=_;rfl)|(with_reducible constructor)<;>first|omega|trivial|rfl) ?_|refine I _ _ ?_|fail
  all_goals first | (exfalso;omega) | skip
  rename_i aj aw _ _
  have am:=aj
  obtain ⟨a2,es2,c2,rfl,ax,ay⟩:=Ty.is_mk.1 aj
  have q:stZ 10 (.mk J O)=if J=0 then tZero else zAk (.mk J O):=rfl
  rw [q] at hQ
  repeat' first|with_reducible intro _|simp only[Y1,Y2,Y3,Y4]|with_reducible refine X ?_ ?_|refine⟨_,_,_,rfl,?_⟩|refine⟨_,rfl,?_⟩|refine And.intro (by first|omega|trivial|(show _=_;rfl)|(with_reducible constructor)<;>first|omega|trivial|rfl) ?_|refine (zNG (.mk J O) _ am (by omega)) _ _ ?_|fail
  all_goals first
   | exact hQ _ _ (by omega) (by rw [if_neg (by assumption)];assumption) (Own.mono (by assumption) (by omega) (by omega))
   | exact hQ _ _ (by omega) (by rw [if_pos (by assumption)];exact xg) ye
 ·have I:=aa es a c ab
  rw [show ya 11 n=n - 1 by simp [ya]] at I
  have q:stZ 11 (.mk J O)=zD3 (.mk J O):=rfl
  rw [q] at hQ
  repeat' first|with_reducible intro _|simp only[oJ,oM,Y1,Y2,Y3,Y4]|with_reducible refine X ?_ ?_|refine⟨_,_,_,rfl,?_⟩|refine⟨_,rfl,?_⟩|refine And.intro (by first|omega|trivial|(show _=_;rfl)|(with_reducible constructor)<;>first|omega|trivial|rfl) ?_|refine I _ _ ?_|refine (zM4 (.mk J O) _ (by assumption) ai) _ _ ?_|fail
  all_goals first | (exfalso;omega) | skip
  exact hQ _ _ (by omega) (by assumption) (Own.mono (by assumption) (by omega) (by omega))
 ·rw [if_pos rfl,show ya 12 n=n by simp [ya]] at aa
  have q:stZ 12 (.mk J O)=zD3 (.mk J O):=rfl
  rw [q] at hQ
  repeat' first|with_reducible intro _|simp only[oJ,oM,Y1,Y2,Y3,Y4]|with_reducible refine X ?_ ?_|refine⟨_,_,_,rfl,?_⟩|refine⟨_,rfl,?_⟩|refine And.intro (by first|omega|trivial|(show _=_;rfl)|(with_reducible constructor)<;>first|omega|trivial|rfl) ?_|refine (zPV ab (by omega) al _ _ n) _ _ ?_|refine (aa _ _ _ (by assumption)) _ _ ?_|refine (zM4 (.mk J O) _ (by assumption) ai) _ _ ?_|fail
  all_goals first | (exfalso;omega) | skip
  exact hQ _ _ (by omega) (by assumption) (Own.mono (by assumption) (by omega) (by omega))
 ·have I:=aa es a c ab
  rw [show ya 13 n=n by simp [ya]] at I
  have q:stZ 13 (.mk J O)=if (Ty.mk J O).base then zAk (.mk J O) else tZero:=rfl
  rw [q] at hQ
  repeat' first|with_reducible intro _|simp only[oJ,oM,Y1,Y2,Y3,Y4]|with_reducible refine X ?_ ?_|refine⟨_,_,_,rfl,?_⟩|refine⟨_,rfl,?_⟩|refine And.intro (by first|omega|trivial|(show _=_;rfl)|(with_reducible constructor)<;>first|omega|trivial|rfl) ?_|refine I _ _ ?_|refine (ru (.mk J O) _ (by assumption)) _ _ ?_|refine (zNG (.mk J O) _ (by assumption) (by omega)) _ _ ?_|fail
  all_goals first | (exfalso;omega) | skip
  all_goals first
   | exact hQ _ _ (by omega) (by rw [if_pos (by assumption)];assumption) (Own.mono (by assumption) (by omega) (by omega))
   | exact hQ _ _ (by omega) (by rw [if_neg (by simp [*])];exact xg) ye
theorem f4 {nm ot:ByteArray} {m n:Int} {ty re:Ty} {l:List Tm} {t0 t1 r0 r1:D} {I:List D} {a1 a:Option Addr} {c1 c:Nat} {g:List Tg} {es:List D} (ih:IHi l) (hh:Tm.Hd nm ot ty re t0 t1 r0 r1) (h0:All2 Tm.Is l I) (aa:I.length<=4611686018427387904)
  (pre:Pre g (.mk 4 nm ot m ty re l) n) (ah:Ctx g es) :
  zEF 176 [.sv a 4 es c,.dg 9 (zGw 4 nm ot m t0 t1 r0 r1 a1 I c1),.j n] ((Tm.raw (.mk 4 nm ot m ty re l) g n).getD tZero):=λN Q hQ=>by
 have hlen:=pre.len
 have ao:=y6 l
 have aq:=h0.len
 simp only [Tm.cnt] at hlen
 have ai:0<zJx nm:=by
  have:=(y8 pre.ok).f
  simp only [yf,zDd,oL] at this
  have:=this.2.2.2.2.2
  simp at this
  exact this.1
 have ab:(Tm.raw (.mk 4 nm ot m ty re l) g n).getD tZero=if zC6 (zBS nm) (l.map λe=>tyZ e g n) then zDu nm else tZero:=by
  rw [<-zV5 ai]
  simp only [Tm.raw]
  rfl
 rw [ab] at hQ
 have hn:ya 4 n=n:=by simp [ya]
 have key:yz Q N 0 0 I.length (0:Nat) (zGw 4 nm ot m t0 t1 r0 r1 a1 I c1) 0 none [] 0 a es c n [] 0 N:=by
  refine up h0 aa (λi xs=>∀ (r:List D) (q p:Nat) (N':Nat) (ts:List Ty),N<=N'->p=r.length->All2 Ty.Is ts r->ts.length=i->(∀ b∈zC r,N<=b)->ts++(xs.map λe=>tyZ e g n)=(l.map λe=>tyZ e g n) ->
   yz Q N p q I.length i (zGw 4 nm ot m t0 t1 r0 r1 a1 I c1) 0 none [] 0 a es c n r q N') ?_ ?_ [] 0 0 N [] (oB _) rfl rfl rfl (by simp [zC]) rfl
  ·intro i aj hi r q p N' ts ak hp hr ac ae J
   have al:=hr.len
   simp only [mJ,o6] at J
   rw [<-J] at hQ
   refine sS _ _ _ _ _ _ _ _ _ _ _ _ _ _ _ _ _ _ ?_
   repeat' first|with_reducible intro _|simp only[aj,Y1,Y2,Y3,Y4]|with_reducible refine X ?_ ?_|refine⟨_,_,_,rfl,?_⟩|refine⟨_,rfl,?_⟩|refine And.intro (by first|omega|trivial|(show _=_;rfl)|(with_reducible constructor)<;>first|omega|trivial|rfl) ?_|refine (zSF hr (by omega) _ _ nm) _ _ ?_|(((with_reducible refine And.intro ?_ ?_);· exact wW (by assumption) (by assumption)))|fail
   exact hQ _ _ (by omega) (by assumption) (Own.mono (by assumption) (by omega) (by omega))
  ·intro i x xs O _ am r q p N' ts ak hp hr ac ae J
   have hb:=O.b
   have al:=hr.len
   refine sS _ _ _ _ _ _ _ _ _ _ _ _ _ _ _ _ _ _ ?_
   repeat' first|with_reducible intro _|simp only[O.lt,O.w,oK,Y1,Y2,Y3,Y4]|with_reducible refine X ?_ ?_|refine⟨_,_,_,rfl,?_⟩|refine⟨_,rfl,?_⟩|refine And.intro (by first|omega|trivial|(show _=_;rfl)|(with_reducible constructor)<;>first|omega|trivial|rfl) ?_|refine (zFU hn ih h0 aa pre ah i O.g _ _ _) _ _ ?_|(((with_reducible refine And.intro ?_ ?_);· exact wW (by assumption) (by assumption)))|fail
   all_goals first | (exfalso;omega) | skip
   rename_i hd ho _ _
   refine ⟨by unfold zB;simp only [oE,np];omega,λc2=>am _ _ _ _ (ts++[tyZ x g n]) (by omega) rfl (hr.snoc hd) (by simp [ac]) (λb hb=>?_) (by simpa using J)⟩
   rw [zE] at hb
   rcases oG.1 hb with hb | hb
   ·exact ae b hb
   ·simp only [zC,o6] at hb
    have:=ho.lo b hb
    omega
 refine zq N a es c _ n Q λ_ _=>⟨_,rfl,?_⟩
 repeat' first|with_reducible intro _|simp only[Y1,Y2,Y3,Y4]|with_reducible refine X ?_ ?_|refine⟨_,_,_,rfl,?_⟩|refine⟨_,rfl,?_⟩|refine And.intro (by first|omega|trivial|(show _=_;rfl)|(with_reducible constructor)<;>first|omega|trivial|rfl) ?_|fail
 all_goals first | (exfalso;omega) | exact key
theorem f1 {nm ot:ByteArray} {m n:Int} {ty re:Ty} {l:List Tm} {t0 t1 r0 r1:D} {aa:List D} {a1 a:Option Addr} {c1 c:Nat} {g:List Tg} {es:List D}
  (pre:Pre g (.mk 1 nm ot m ty re l) n) (I:Ctx g es) :
  zEF 176 [.sv a 4 es c,.dg 9 (zGw 1 nm ot m t0 t1 r0 r1 a1 aa c1),.j n] ((Tm.raw (.mk 1 nm ot m ty re l) g n).getD tZero):=λN Q J=>by
 have ac:=I.all.len
 have O:Tm.raw (.mk 1 nm ot m ty re l) g n=zBN g nm n:=by simp [Tm.raw]
 rw [O] at J
 refine zq N a es c _ n Q λ_ _=>⟨_,rfl,?_⟩
 rcases zGU g nm g.length with hlx | hlx
 ·have hlx:yg g nm = -1:=hlx
  have:zBN g nm n=none:=by simp [zBN,hlx]
  rw [this] at J
  repeat' first|with_reducible intro _|simp only[hlx,Y1,Y2,Y3,Y4]|with_reducible refine X ?_ ?_|refine⟨_,_,_,rfl,?_⟩|refine⟨_,rfl,?_⟩|refine And.intro (by first|omega|trivial|(show _=_;rfl)|(with_reducible constructor)<;>first|omega|trivial|rfl) ?_|refine (zDe I a c nm) _ _ ?_|fail
  all_goals first | (exfalso;omega) | skip
  exact J _ _ (by omega) xg ye
 ·have hlx:0<=yg g nm/\yg g nm<g.length:=hlx
  have hg:g[(yg g nm).toNat]?=some g[(yg g nm).toNat]:=oF (by omega)
  have hx:=I.all.get hg
  have ab:g.getD (yg g nm).toNat tg0=g[(yg g nm).toNat]:=zJR hg
  obtain ⟨u0,u1,hd,hs,ht⟩:=hx
  have hm:g[(yg g nm).toNat]∈g:=nz _
  have ae:=pre.ty _ hm
  have:zBN g nm n=if g[(yg g nm).toNat].lv=n then some g[(yg g nm).toNat].ty else none:=by
   rw [zBN,if_neg (by omega),ab]
  rw [this] at J
  generalize g[(yg g nm).toNat]=x at *
  repeat' first|with_reducible intro _|simp only[hd,Y1,Y2,Y3,Y4]|with_reducible refine X ?_ ?_|refine⟨_,_,_,rfl,?_⟩|refine⟨_,rfl,?_⟩|refine And.intro (by first|omega|trivial|(show _=_;rfl)|(with_reducible constructor)<;>first|omega|trivial|rfl) ?_|refine (zDe I a c nm) _ _ ?_|refine (zJF _ _ ht (by omega)) _ _ ?_|fail
  all_goals first | (exfalso;omega) | skip
  ·rw [if_pos (by assumption)] at J;exact J _ _ (by omega) (by assumption) (Own.mono (by assumption) (by omega) (by omega))
  ·rw [if_neg (by assumption)] at J;exact J _ _ (by omega) xg ye
theorem zOi {e:Tm} {d:D} (he:e.Is d) (ih:match e with | .mk _ _ _ _ _ _ l=>IHi l) {g:List Tg} {es:List D} (a:Option Addr) (c:Nat) {n:Int} (pre:Pre g e n) (O:Ctx g es) :
  zEF 176 [.sv a 4 es c,.dg 9 d,.j n] ((e.raw g n).getD tZero):=by
 cases e with
 | mk k nm ot m ty re l=>
 dsimp only at ih
 obtain ⟨t0,t1,r0,r1,a1,ac,c1,rfl,hh,I,J⟩:=Tm.is_mk.1 he
 have nd:=y8 pre.ok
 have ae:=nd.ar
 have ab:=zJ0 (k:=k) (nm:=nm) (by omega)
 rcases ab with rfl | rfl | rfl | rfl | rfl | rfl | rfl | rfl | rfl | h | h | h | h
 ·exact f1 pre O
 ·intro N Q hQ
  have aa:Tm.raw (.mk 2 nm ot m ty re l) g n=some tInt:=by simp [Tm.raw]
  rw [aa] at hQ
  refine zq N a es c _ n Q λ_ _=>⟨_,rfl,?_⟩
  repeat' first|with_reducible intro _|simp only[Y1,Y2,Y3,Y4]|with_reducible refine X ?_ ?_|refine⟨_,_,_,rfl,?_⟩|refine⟨_,rfl,?_⟩|refine And.intro (by first|omega|trivial|(show _=_;rfl)|(with_reducible constructor)<;>first|omega|trivial|rfl) ?_|refine zPq _ _ ?_|fail
  all_goals first | (exfalso;omega) | skip
  exact hQ _ _ (by omega) (by assumption) (Own.mono (by assumption) (by omega) (by omega))
 ·intro N Q hQ
  have aa:Tm.raw (.mk 3 nm ot m ty re l) g n=some tBool:=by simp [Tm.raw]
  rw [aa] at hQ
  refine zq N a es c _ n Q λ_ _=>⟨_,rfl,?_⟩
  repeat' first|with_reducible intro _|simp only[Y1,Y2,Y3,Y4]|with_reducible refine X ?_ ?_|refine⟨_,_,_,rfl,?_⟩|refine⟨_,rfl,?_⟩|refine And.intro (by first|omega|trivial|(show _=_;rfl)|(with_reducible constructor)<;>first|omega|trivial|rfl) ?_|refine zI1 _ _ ?_|fail
  all_goals first | (exfalso;omega) | skip
  exact hQ _ _ (by omega) (by assumption) (Own.mono (by assumption) (by omega) (by omega))
 ·exact f4 ih hh J I pre O
 ·exact f5 ih hh J I pre O
 ·exact f6 ih hh J I pre O
 ·exact f7 ih hh J I pre O
 ·exact f8 ih hh J I pre O
 ·exact f9 ih hh J I pre O
 all_goals
  intro N Q hQ
  have hk:k=10\/k=11\/k=12\/k=13:=by omega
  refine zq N a es c _ n Q λ_ _=>⟨_,rfl,?_⟩
  repeat' first|with_reducible intro _|simp only[Y1,Y2,Y3,Y4]|with_reducible refine X ?_ ?_|refine⟨_,_,_,rfl,?_⟩|refine⟨_,rfl,?_⟩|refine And.intro (by first|omega|trivial|(show _=_;rfl)|(with_reducible constructor)<;>first|omega|trivial|rfl) ?_|refine (fS hk ih hh J I pre O) _ _ ?_|fail
  all_goals first | (exfalso;omega) | skip
  exact hQ _ _ (by omega) (by assumption) (Own.mono (by assumption) (by omega) (by omega))
theorem zTN (e:Tm) (g:List Tg) (n:Int):tyZ e g n=if ((e.raw g n).getD tZero).valid then (e.raw g n).getD tZero else tZero:=by
 rw [tyZ,Tm.type_eq]
 cases e.raw g n with
 | none=>rfl
 | some t=>
   simp only [vld,o7]
   split<;>rfl
theorem zTo:∀ (e:Tm),∀ d,e.Is d->∀ g es a c n,Pre g e n->Ctx g es->zEF 142 [.sv a 4 es c,.dg 9 d,.j n] (tyZ e g n):=by
 refine Tm.ind λk nm ot m ty re l O d hd g es a c n pre I N Q J=>?_
 have hs:=zOi hd O a c pre I
 rw [zTN] at J
 have hc:((Tm.raw (.mk k nm ot m ty re l) g n).getD tZero).cnt<=64:=by
  cases h:Tm.raw (.mk k nm ot m ty re l) g n with
  | none=>simp [tZero,Ty.cnt,zV]
  | some t=>simpa using zPb pre h
 generalize (Tm.raw (.mk k nm ot m ty re l) g n).getD tZero=z at *
 refine zKK N a es c _ n Q λ_ _=>?_
 repeat' first|with_reducible intro _|simp only[Y1,Y2,Y3,Y4]|with_reducible refine X ?_ ?_|refine⟨_,_,_,rfl,?_⟩|refine⟨_,rfl,?_⟩|refine And.intro (by first|omega|trivial|(show _=_;rfl)|(with_reducible constructor)<;>first|omega|trivial|rfl) ?_|refine hs _ _ ?_|refine (wN z _ (by assumption) (by omega)) _ _ ?_|fail
 all_goals first
  | exact J _ _ (by omega) (by rw [if_pos (by assumption)];assumption) (Own.mono (by assumption) (by omega) (by omega))
  | exact J _ _ (by omega) (by rw [if_neg (by simp [*])];exact xg) ye
/-- returns this type and true, or the zero type and false, in memory of its own -/
def zVn (f:FuncId) (args:List PV) (o:Option Ty):Prop:=∀ (N:Nat) (Q:QT [.ag 2,.bool]),(∀ d N',N<=N'->(o.getD tZero).Is d->Own N N' d->Q d o.isSome N')->ACalls prog f [.ag 2,.bool] args N Q
theorem zJi {g:List Tg} {es:List D} (I:Ctx g es) (hg:∀ x∈g,x.ty.cnt<=1073741824) {e:Tm} {d:D} (he:e.Is d) (hc:e.cnt<=1048576000 / 2) (a:Option Addr) (c:Nat) (n:Int) :
  zVn 102 [.sv a 4 es c,.dg 9 d,.j n] (zHS g e n):=λN Q J=>by
 refine zId N a es c d n Q λ_ _=>?_
 cases h1:zIl g with
 | false=>
   rw [zHS,if_neg (by simp [h1])] at J
   repeat' first|with_reducible intro _|simp only[h1,Y1,Y2,Y3,Y4]|with_reducible refine X ?_ ?_|refine⟨_,_,_,rfl,?_⟩|refine⟨_,rfl,?_⟩|refine And.intro (by first|omega|trivial|(show _=_;rfl)|(with_reducible constructor)<;>first|omega|trivial|rfl) ?_|refine (p5 I hg a c) _ _ ?_|fail
   exact J _ _ (by omega) xg ye
 | true=>
   cases h2:zMq e n with
   | false=>
     rw [zHS,if_neg (by simp [h2])] at J
     repeat' first|with_reducible intro _|simp only[h1,h2,Y1,Y2,Y3,Y4]|with_reducible refine X ?_ ?_|refine⟨_,_,_,rfl,?_⟩|refine⟨_,rfl,?_⟩|refine And.intro (by first|omega|trivial|(show _=_;rfl)|(with_reducible constructor)<;>first|omega|trivial|rfl) ?_|refine (p5 I hg a c) _ _ ?_|refine (pm e d he (by omega) n) _ _ ?_|fail
     exact J _ _ (by omega) xg ye
   | true=>
     rw [zHS,if_pos ⟨h1,h2⟩] at J
     have hz:=rM e g n
     repeat' first|with_reducible intro _|simp only[h1,h2,Y1,Y2,Y3,Y4]|with_reducible refine X ?_ ?_|refine⟨_,_,_,rfl,?_⟩|refine⟨_,rfl,?_⟩|refine And.intro (by first|omega|trivial|(show _=_;rfl)|(with_reducible constructor)<;>first|omega|trivial|rfl) ?_|refine (p5 I hg a c) _ _ ?_|refine (pm e d he (by omega) n) _ _ ?_|refine (zTo e d he g es a c n (zUU h1 h2 hc) I) _ _ ?_|fail
     rename_i hd ho _ _
     rcases hz with ⟨h3,h4⟩ | ⟨h3,h4⟩
     ·rw [h3] at J
      rw [h4] at hd
      obtain ⟨a2,es2,c2,rfl,aa,ab⟩:=Ty.is_mk.1 hd
      repeat' first|with_reducible intro _|simp only[Y1,Y2,Y3,Y4]|with_reducible refine X ?_ ?_|refine⟨_,_,_,rfl,?_⟩|refine⟨_,rfl,?_⟩|refine And.intro (by first|omega|trivial|(show _=_;rfl)|(with_reducible constructor)<;>first|omega|trivial|rfl) ?_|fail
      exact J _ _ (by omega) hd (Own.mono (by assumption) (by omega) (by omega))
     ·rw [h3] at J
      have O:=Ty.valid_nz h4
      generalize tyZ e g n=z at *
      cases z with
      | mk k0 l0=>
      have ac:=hd
      obtain ⟨a2,es2,c2,rfl,aa,ab⟩:=Ty.is_mk.1 hd
      repeat' first|with_reducible intro _|simp only[Y1,Y2,Y3,Y4]|with_reducible refine X ?_ ?_|refine⟨_,_,_,rfl,?_⟩|refine⟨_,rfl,?_⟩|refine And.intro (by first|omega|trivial|(show _=_;rfl)|(with_reducible constructor)<;>first|omega|trivial|rfl) ?_|fail
      have O:(bne k0 0)=true:=by simpa [Ty.k] using O
      rw [O]
      exact J _ _ (by omega) ac (Own.mono (by assumption) (by omega) (by omega))
mutual
def Tm.sz:Tm->Nat
 | .mk _ _ _ _ _ _ l=>1+ui l
def ui:List Tm->Nat
 | []=>0
 | t::I=>t.sz+ui I
end
mutual
def Tm.dp:Tm->Nat
 | .mk _ _ _ _ _ _ l=>zEr l+1
def zEr:List Tm->Nat
 | []=>0
 | t::I=>max t.dp (zEr I)
end
mutual
theorem Tm.sz_cnt:∀ t:Tm,t.sz<=t.cnt
 | .mk _ _ _ _ ty re l=>by simp only [Tm.sz,Tm.cnt];have:=pU l;omega
theorem pU:∀ l:List Tm,ui l<=za l
 | []=>oB _
 | t::I=>by simp only [ui,za];have:=t.sz_cnt;have:=pU I;omega
end
mutual
theorem Tm.dp_cnt:∀ t:Tm,t.dp<=t.cnt
 | .mk _ _ _ _ ty re l=>by simp only [Tm.dp,Tm.cnt];have:=zCJ l;omega
theorem zCJ:∀ l:List Tm,zEr l<=za l
 | []=>oB _
 | t::I=>by simp only [zEr,za];have:=t.dp_cnt;have:=zCJ I;omega
end
/-- one form of a body's nodes -/
def zKB (k:Int):Bool:=inB k 1 5||k==8
mutual
def Tm.isB:Tm->Bool
 | .mk k _ _ _ _ _ l=>zOx l&&zKB k
def zOx:List Tm->Bool
 | []=>true
 | t::I=>t.isB&&zOx I
end
def Tm.vd (t:Tm):Bool:=decide (t.sz<=80)&&decide (t.dp<=20)&&t.ok
theorem zCk:∀ (t:Tm) (d:D),t.Is d->∀ n:Int,0<=n->n<=1000->zAO 153 [.dg 9 d,.j n] (if (t.sz:Int)<=n then n - t.sz else -1):=by
 refine Tm.ind λk nm ot n0 ty re l ih d hd n ah ai N Q hQ=>?_
 obtain ⟨t0,t1,r0,r1,a,es,c,rfl,hh,hlen,aa⟩:=Tm.is_mk.1 hd
 refine zIM N _ n Q λ_=>?_
 have key:=up aa hlen (λi xs=>∀ (m:Int) (N':Nat),N<=N' -> -1<=m->m<=1000->(∀ N'',N'<=N''->Q (if m<0 then -1 else if (ui xs:Int)<=m then m - ui xs else -1) N'') ->
  uI Q N m i (.ag [.j k,.t nm,.t ot,.j n0,t0,t1,r0,r1,.sl a 9 es c]) N') ?_ ?_
 ·rw [i64_in _ (by omega)]
  refine key (n - 1) N (oB _) (by omega) (by omega) λN' O=>Qi (hQ N' O) ?_
  simp only [Tm.sz]
  (repeat' split)<;>omega
 ·intro i ab _ m N' O h1 h2 J
  refine pI _ _ _ _ _ _ ?_
  repeat' first|with_reducible intro _|simp only[ab,Y1,Y2,Y3,Y4]|with_reducible refine X ?_ ?_|refine⟨_,_,_,rfl,?_⟩|refine⟨_,rfl,?_⟩|refine And.intro (by first|omega|trivial|(show _=_;rfl)|(with_reducible constructor)<;>first|omega|trivial|rfl) ?_|fail
  refine Qi (J _ (by assumption)) ?_
  simp only [ui]
  (repeat' split)<;>omega
 ·intro i x xs I _ ac m N' O h1 h2 J
  have hb:=I.b
  refine pI _ _ _ _ _ _ ?_
  repeat' first|with_reducible intro _|simp only[I.lt,I.w,oK,Y1,Y2,Y3,Y4]|with_reducible refine X ?_ ?_|refine⟨_,_,_,rfl,?_⟩|refine⟨_,rfl,?_⟩|refine And.intro (by first|omega|trivial|(show _=_;rfl)|(with_reducible constructor)<;>first|omega|trivial|rfl) ?_|refine (ih x I.m _ I.r m (by omega) (by omega)) _ _ ?_|fail
  ·refine ac _ _ (by omega) (by split<;>omega) (by split<;>omega) λN'' ae=>Qi (J N'' (by omega)) ?_
   simp only [ui]
   (repeat' split)<;>omega
  ·refine Qi (J _ (by assumption)) ?_
   rw [if_pos (by omega)]
   omega
theorem zGs:∀ (t:Tm) (d:D),t.Is d->t.cnt<=1073741824->zAO 154 [.dg 9 d] t.dp:=by
 refine Tm.ind λk nm ot n0 ty re l ih d hd hc N Q hQ=>?_
 obtain ⟨t0,t1,r0,r1,a,es,c,rfl,hh,hlen,O⟩:=Tm.is_mk.1 hd
 refine zHC N _ Q λ_=>?_
 simp only [Tm.cnt] at hc
 have ac:=zCJ l
 have key:=up O hlen (λi xs=>∀ (m:Nat) (N':Nat),N<=N'->max m (zEr xs)=zEr l->vC Q N (m:Int) i (.ag [.j k,.t nm,.t ot,.j n0,t0,t1,r0,r1,.sl a 9 es c]) N') ?_ ?_
 ·exact key 0 N (oB _) (by omega)
 ·intro i aa _ m N' J hm
  simp only [zEr] at hm
  refine qJ _ _ _ _ _ _ ?_
  repeat' first|with_reducible intro _|simp only[aa,Y1,Y2,Y3,Y4]|with_reducible refine X ?_ ?_|refine⟨_,_,_,rfl,?_⟩|refine⟨_,rfl,?_⟩|refine And.intro (by first|omega|trivial|(show _=_;rfl)|(with_reducible constructor)<;>first|omega|trivial|rfl) ?_|fail
  rw [i64_in _ (by omega)]
  refine Qi (hQ _ (oZ J (by assumption))) ?_
  simp only [Tm.dp]
  omega
 ·intro i x xs I _ ab m N' J hm
  have hb:=I.b
  have ae:=zu I.m
  simp only [zEr] at hm
  refine qJ _ _ _ _ _ _ ?_
  repeat' first|with_reducible intro _|simp only[I.lt,I.w,oK,Y1,Y2,Y3,Y4]|with_reducible refine X ?_ ?_|refine⟨_,_,_,rfl,?_⟩|refine⟨_,rfl,?_⟩|refine And.intro (by first|omega|trivial|(show _=_;rfl)|(with_reducible constructor)<;>first|omega|trivial|rfl) ?_|refine (ih x I.m _ I.r (by omega)) _ _ ?_|refine (zDj _ _) _ _ ?_|fail
  have e:max (m:Int) (x.dp:Int)=((max m x.dp:Nat):Int):=by omega
  rw [e]
  exact ab _ _ (by omega) (by omega)
theorem zBe (t:Tm) (d:D) (hd:t.Is d) (hc:t.cnt<=1073741824):uN 113 [.dg 9 d] t.vd:=λN Q I=>by
 refine zBm N _ Q λ_=>?_
 by_cases O:t.sz<=80
 ·have J:((t.sz:Int)<=80):=by omega
  repeat' first|with_reducible intro _|simp only[if_pos J,Y1,Y2,Y3,Y4]|with_reducible refine X ?_ ?_|refine⟨_,_,_,rfl,?_⟩|refine⟨_,rfl,?_⟩|refine And.intro (by first|omega|trivial|(show _=_;rfl)|(with_reducible constructor)<;>first|omega|trivial|rfl) ?_|refine (zCk t d hd _ (by omega) (by omega)) _ _ ?_|refine (zGs t d hd hc) _ _ ?_|refine (zIo t d hd hc) _ _ ?_|fail
  all_goals first | omega | skip
  ·have h8:t.dp<=20:=by omega
   refine Qb (I _ (by omega)) ?_;simp [Tm.vd, *]
  ·have h8:¬t.dp<=20:=by omega
   refine Qb (I _ (by omega)) ?_;simp [Tm.vd, *]
 ·have J:¬((t.sz:Int)<=80):=by omega
  repeat' first|with_reducible intro _|simp only[if_neg J,Y1,Y2,Y3,Y4]|with_reducible refine X ?_ ?_|refine⟨_,_,_,rfl,?_⟩|refine⟨_,rfl,?_⟩|refine And.intro (by first|omega|trivial|(show _=_;rfl)|(with_reducible constructor)<;>first|omega|trivial|rfl) ?_|refine (zCk t d hd _ (by omega) (by omega)) _ _ ?_|fail
  all_goals first | omega | skip
  refine Qb (I _ (by omega)) ?_;simp [Tm.vd, *]
theorem zJ5:∀ (t:Tm) (d:D),t.Is d->uN 114 [.dg 9 d] t.isB:=by
 refine Tm.ind λk nm ot n0 ty re l ih d hd N Q hQ=>?_
 obtain ⟨t0,t1,r0,r1,a,es,c,rfl,hh,hlen,O⟩:=Tm.is_mk.1 hd
 refine zLK N _ Q λ_=>?_
 have key:=up O hlen (λi xs=>∀ (N':Nat),N<=N'->(∀ N'',N'<=N''->Q (zOx xs&&zKB k) N'')->uZ Q N i (.ag [.j k,.t nm,.t ot,.j n0,t0,t1,r0,r1,.sl a 9 es c]) N') ?_ ?_
 ·exact key N (oB _) hQ
 ·intro i aa _ N' ab J
  refine zAq _ _ _ _ _ ?_
  repeat' first|with_reducible intro _|simp only[aa,Y1,Y2,Y3,Y4]|with_reducible refine X ?_ ?_|refine⟨_,_,_,rfl,?_⟩|refine⟨_,rfl,?_⟩|refine And.intro (by first|omega|trivial|(show _=_;rfl)|(with_reducible constructor)<;>first|omega|trivial|rfl) ?_|refine (vF _ _ _) _ _ ?_|fail
  all_goals (refine Qb (J _ (by omega)) ?_;simp [zOx,zKB, *])
 ·intro i x xs I _ ac N' ab J
  have hb:=I.b
  refine zAq _ _ _ _ _ ?_
  repeat' first|with_reducible intro _|simp only[I.lt,I.w,oK,Y1,Y2,Y3,Y4]|with_reducible refine X ?_ ?_|refine⟨_,_,_,rfl,?_⟩|refine⟨_,rfl,?_⟩|refine And.intro (by first|omega|trivial|(show _=_;rfl)|(with_reducible constructor)<;>first|omega|trivial|rfl) ?_|refine (ih x I.m _ I.r) _ _ ?_|fail
  ·refine Qb (J _ (by omega)) ?_;simp [zOx, *]
  ·exact ac _ (by omega) λN'' h=>Qb (J N'' (by omega)) (by simp [zOx, *])
theorem xu (l:List ByteArray) (hl:l.length<=4611686018427387904) (a:Option Addr) (c:Nat) (s:ByteArray):zAO 78 [.sv a 0 (zA l) c,.str s] (s8 (λx=>decide (x=s)) l 0):=λN Q hQ=>by
 have O:=xk l
 have hlen:(zA l).length<=4611686018427387904:=by rw [O.len];exact hl
 refine zHI N a _ c s Q λ_=>?_
 refine up O hlen (λi xs=>∀ (N':Nat),N<=N'->(∀ N'',N'<=N''->Q (s8 (λx=>decide (x=s)) xs i) N'')->w6 Q N a (zA l) c s i N') ?_ ?_ N (oB _) hQ
 ·intro i ab _ N' aa I
  refine qP _ _ _ _ _ _ _ _ ?_
  repeat' first|with_reducible intro _|simp only[ab,Y1,Y2,Y3,Y4]|with_reducible refine X ?_ ?_|refine⟨_,_,_,rfl,?_⟩|refine⟨_,rfl,?_⟩|refine And.intro (by first|omega|trivial|(show _=_;rfl)|(with_reducible constructor)<;>first|omega|trivial|rfl) ?_|fail
  exact I _ (by omega)
 ·intro i x xs J _ ac N' aa I
  have hb:=J.b
  have hr:=J.r
  simp only [s8] at I
  refine qP _ _ _ _ _ _ _ _ ?_
  repeat' first|with_reducible intro _|simp only[J.lt,J.w,oK,hr,Y1,Y2,Y3,Y4]|with_reducible refine X ?_ ?_|refine⟨_,_,_,rfl,?_⟩|refine⟨_,rfl,?_⟩|refine And.intro (by first|omega|trivial|(show _=_;rfl)|(with_reducible constructor)<;>first|omega|trivial|rfl) ?_|fail
  ·rename_i h _ _;subst h;exact Qi (I _ (by omega)) (by simp)
  ·rename_i h;exact ac _ aa λN'' h2=>Qi (I _ h2) (by rw [if_neg (by simpa using h)];simp)
/-- the parameters are well formed, behind the names that were seen -/
def zGn:List ByteArray->List Pm->Bool
 | _,[]=>true
 | seen,p::ps=>rE p.nm&&(p.ty.base&&(!(seen.any λx=>decide (x=p.nm))&&zGn (seen++[p.nm]) ps))
def zB2 (g:List Pm):Bool:=zGn [] g&&decide (g.length<=5)
theorem xi (l:List ByteArray) (s:ByteArray):zA l++[.t s]=zA (l++[s]):=by simp [zA]
theorem zO (l:List ByteArray):(zA l).length=l.length:=by simp [zA]
theorem zEn {g:List Pm} {es:List D} (h:Pms g es) (hg:g.length<=1073741824) (a:Option Addr) (c:Nat):uN 112 [.sv a 4 es c] (zB2 g):=λN Q hQ=>by
 have hl:=h.all.len
 refine zD5 N a es c Q λ_=>?_
 have key:=up h.all h.len (λi xs=>∀ (seen:List ByteArray) (q:Nat) (N':Nat),N<=N'->seen.length=i->(∀ N'',N'<=N''->Q (zGn seen xs&&decide (g.length<=5)) N'')->wF Q N a es c (zA seen).length q i (zA seen) q N') ?_ ?_
 ·exact key [] 0 N (oB _) rfl hQ
 ·intro i O hi seen q N' aa hs I
  refine sQ _ _ _ _ _ _ _ _ _ _ _ ?_
  have e:(((zA seen).length:Nat):Int)=(g.length:Int):=by rw [zO];omega
  repeat' first|with_reducible intro _|simp only[O,e,Y1,Y2,Y3,Y4]|with_reducible refine X ?_ ?_|refine⟨_,_,_,rfl,?_⟩|refine⟨_,rfl,?_⟩|refine And.intro (by first|omega|trivial|(show _=_;rfl)|(with_reducible constructor)<;>first|omega|trivial|rfl) ?_|fail
  refine Qb (I _ (by omega)) ?_
  rw [zGn,mX,nP,nf,nf]
  omega
 ·intro i x xs J _ ab seen q N' aa hs I
  have hb:=J.b
  have hm:=J.m
  obtain ⟨t0,t1,hd,ac,ae⟩:=J.r
  simp only [zGn] at I
  refine sQ _ _ _ _ _ _ _ _ _ _ _ ?_
  repeat' first|with_reducible intro _|simp only[J.lt,J.w,oK,hd,Y1,Y2,Y3,Y4]|with_reducible refine X ?_ ?_|refine⟨_,_,_,rfl,?_⟩|refine⟨_,rfl,?_⟩|refine And.intro (by first|omega|trivial|(show _=_;rfl)|(with_reducible constructor)<;>first|omega|trivial|rfl) ?_|refine (rt x.nm ac) _ _ ?_|refine (r8 x.ty _ ae) _ _ ?_|refine (xu seen (by omega) _ _ x.nm) _ _ ?_|fail
  ·refine Qb (I _ (by omega)) ?_;simp [*]
  ·refine Qb (I _ (by omega)) ?_;simp [*]
  ·rename_i hx _ _
   have:=wb (λy=>decide (y=x.nm)) seen 0 (by omega)
   rw [mF hx] at this
   refine Qb (I _ (by omega)) ?_
   rw [<-this];simp
  ·rename_i hx
   have:=wb (λy=>decide (y=x.nm)) seen 0 (by omega)
   rw [mM hx] at this
   refine ⟨by unfold zB;rw [oE,zO];simp only [oJ,oM];omega,λc1=>?_⟩
   rw [xi]
   refine ab (seen++[x.nm]) _ _ (by omega) (by simp [hs]) λN'' h=>Qb (I N'' (by omega)) ?_
   rw [<-this];clear this;simp [*]
def uS (g:List Pm):List Tg:=g.map λp=>⟨p.nm,p.ty,0⟩
theorem vZ (g:List Pm):(uS g).length=g.length:=by simp [uS]
theorem zJC {g:List Pm} {es:List D} (h:Pms g es) (hg:g.length<=1073741824) (a:Option Addr) (c:Nat) (N:Nat) (Q:QT [.sl 4])
  (hQ:∀ a' J c' N',N<=N'->Ctx (uS g) J->Q a' J c' N'):ACalls prog 116 [.sl 4] [.sv a 4 es c] N Q:=by
 have hl:=h.all.len
 refine zBn N a es c Q λ_=>?_
 have key:=up h.all h.len (λi xs=>∀ (done:List D) (q:Nat) (N':Nat),N<=N'->All2 Tg.Is ((uS g).take i) done->done.length=i->wX Q N a es c done.length q i done q N') ?_ ?_
 ·exact key [] 0 N (oB _) rfl rfl
 ·intro i ab hi done q N' O hd hs
  refine v8 _ _ _ _ _ _ _ _ _ _ _ ?_
  rw [od (by rw [vZ];omega)] at hd
  repeat' first|with_reducible intro _|simp only[ab,Y1,Y2,Y3,Y4]|with_reducible refine X ?_ ?_|refine⟨_,_,_,rfl,?_⟩|refine⟨_,rfl,?_⟩|refine And.intro (by first|omega|trivial|(show _=_;rfl)|(with_reducible constructor)<;>first|omega|trivial|rfl) ?_|fail
  exact hQ _ _ _ _ (by omega) ⟨by omega,hd⟩
 ·intro i x xs I _ ac done q N' O hd hs
  have hb:=I.b
  have hm:=I.m
  obtain ⟨t0,t1,ae,ah,ai⟩:=I.r
  refine v8 _ _ _ _ _ _ _ _ _ _ _ ?_
  have aa:(uS g)[i]?=some ⟨x.nm,x.ty,0⟩:=by rw [uS,oI,I.g];rfl
  repeat' first|with_reducible intro _|simp only[I.lt,I.w,oK,ae,Y1,Y2,Y3,Y4]|with_reducible refine X ?_ ?_|refine⟨_,_,_,rfl,?_⟩|refine⟨_,rfl,?_⟩|refine And.intro (by first|omega|trivial|(show _=_;rfl)|(with_reducible constructor)<;>first|omega|trivial|rfl) ?_|fail
  refine ⟨by unfold zB;rw [oE];simp only [oJ,oM];omega,λc1=>?_⟩
  exact ac _ _ _ O (by rw [xK aa];exact hd.snoc ⟨_,_,rfl,ah,ai⟩) (by simp [hs])
/-- a body's type, or none -/
def yk (g:List Pm) (e:Tm):Option Ty:=if zB2 g=true/\e.vd=true/\e.isB=true then e.type (uS g) 0 else none
theorem zFp:∀ {g:List Pm} {seen:List ByteArray} {x:Pm},zGn seen g=true->x∈g->rE x.nm=true/\x.ty.base=true
 | p::ps,seen,x,h,hx=>by
   simp only [zGn,oL] at h
   rcases oH.1 hx with rfl | hx
   ·exact ⟨h.1,h.2.1⟩
   ·exact zFp h.2.2.2 hx
theorem zHq {t:Ty} (h:t.base=true):t.valid=true/\t.cnt=1:=by
 cases t with
 | mk k l=>
   simp only [Ty.base,Ty.k,Ty.as,oL,nk,mE] at h
   have I:l=[]:=oO (by omega)
   subst I
   refine ⟨?_,rfl⟩
   simp only [Ty.valid,Ty.cnt,zV,Ty.dep,sx,Ty.form,sf,zAj]
   rcases h.1 with rfl | rfl<;>decide
mutual
theorem zMZ:∀ t:Tm,t.isB=true->t.lev 0=true
 | .mk k _ _ _ _ _ l,h=>by
   simp only [Tm.isB,oL,zKB,nk,wl,mE] at h
   have e:ya k 0=0:=by unfold ya;rw [if_neg (by omega),if_neg (by omega)]
   simp only [Tm.lev,e,zNl l h.1,Bool.and_true];decide
theorem zNl:∀ l:List Tm,zOx l=true->zAp l 0=true
 | [],_=>rfl
 | t::I,h=>by
   simp only [zOx,oL] at h
   simp only [zAp,zMZ t h.1,zNl I h.2,Bool.and_true]
end
theorem zKw {g:List Pm} {x:Tg} (h:x∈uS g):∃ p∈g,x=⟨p.nm,p.ty,0⟩:=by
 obtain ⟨p,I,rfl⟩:=oU.1 h
 exact ⟨p,I,rfl⟩
theorem zSc {g:List Pm} {e:Tm} (J:zB2 g=true) (O:e.vd=true) (hb:e.isB=true) (hc:e.cnt<=536870000):Pre (uS g) e 0:=by
 simp only [zB2,oL,nD] at J
 simp only [Tm.vd,oL] at O
 refine ⟨O.2,zMZ e hb,by rw [vZ];omega,λx hx=>?_⟩
 obtain ⟨p,I,rfl⟩:=zKw hx
 have:=(zHq (zFp J.1 I).2).2
 show p.ty.cnt<=64
 omega
theorem pZ {g:List Pm} {es:List D} (h:Pms g es) (O:g.length<=1073741824) {e:Tm} {d:D} (J:e.Is d) (hc:e.cnt<=536870000) (a:Option Addr) (c:Nat):zUe 69 [.sv a 4 es c,.dg 9 d] (yk g e):=λN Q I=>by
 refine zGE N a es c d Q λ_ _=>?_
 repeat' first|with_reducible intro _|simp only[Y1,Y2,Y3,Y4]|with_reducible refine X ?_ ?_|refine⟨_,_,_,rfl,?_⟩|refine⟨_,rfl,?_⟩|refine And.intro (by first|omega|trivial|(show _=_;rfl)|(with_reducible constructor)<;>first|omega|trivial|rfl) ?_|refine (zEn h O a c) _ _ ?_|refine (zBe e d J (by omega)) _ _ ?_|refine (zJ5 e d J) _ _ ?_|refine (zJC h O a c) _ _ ?_|fail
 ·rw [show yk g e=none by unfold yk;rw [if_neg (by simp [*])]] at I
  exact I _ _ (by omega) (wD 0)
 ·rw [show yk g e=none by unfold yk;rw [if_neg (by simp [*])]] at I
  exact I _ _ (by omega) (wD 0)
 ·rw [show yk g e=none by unfold yk;rw [if_neg (by simp [*])]] at I
  exact I _ _ (by omega) (wD 0)
 ·have hp:zB2 g=true:=by assumption
  have hv:e.vd=true:=by assumption
  have hb:e.isB=true:=by assumption
  rw [show yk g e=e.type (uS g) 0 by unfold yk;rw [if_pos ⟨hp,hv,hb⟩]] at I
  exact zIZ e d J _ _ _ _ _ (zSc hp hv hb hc) (by assumption) _ _ λx N4 aa hx _ _ N5 ab=>I _ _ (by omega) hx
theorem tF:∀ (t:Tm) (d:D),t.Is d->t.cnt<=1073741824->zAO 65 [.dg 9 d] t.sz:=by
 refine Tm.ind λk nm ot n0 ty re l ih d hd hc N Q hQ=>?_
 obtain ⟨t0,t1,r0,r1,a,es,c,rfl,hh,hlen,J⟩:=Tm.is_mk.1 hd
 simp only [Tm.cnt] at hc
 have ac:=pU l
 refine zIc N _ Q λ_=>⟨_,_,_,rfl,?_⟩
 refine up J hlen (λi xs=>∀ (m:Nat) (N':Nat),N<=N'->m+ui xs=1+ui l->uD Q N m a es c es.length i N') ?_ ?_ 1 N (oB _) rfl
 ·intro i O _ m N' aa hm
  refine pu _ _ _ _ _ _ _ _ _ ?_
  simp only [ui] at hm
  repeat' first|with_reducible intro _|simp only[O,Y1,Y2,Y3,Y4]|with_reducible refine X ?_ ?_|refine⟨_,_,_,rfl,?_⟩|refine⟨_,rfl,?_⟩|refine And.intro (by first|omega|trivial|(show _=_;rfl)|(with_reducible constructor)<;>first|omega|trivial|rfl) ?_|fail
  exact Qi (hQ _ (by omega)) (by simp only [Tm.sz];omega)
 ·intro i x xs I _ ab m N' aa hm
  have hb:=I.b
  have ae:=zu I.m
  simp only [ui] at hm
  refine pu _ _ _ _ _ _ _ _ _ ?_
  repeat' first|with_reducible intro _|simp only[I.lt,I.w,oK,Y1,Y2,Y3,Y4]|with_reducible refine X ?_ ?_|refine⟨_,_,_,rfl,?_⟩|refine⟨_,rfl,?_⟩|refine And.intro (by first|omega|trivial|(show _=_;rfl)|(with_reducible constructor)<;>first|omega|trivial|rfl) ?_|refine (ih x I.m _ I.r (by omega)) _ _ ?_|fail
  rw [i64_in _ (by omega)]
  exact ab (m+x.sz) _ (by omega) (by omega)
theorem zG1:∀ (t:Tm) (d:D),t.Is d->t.cnt<=1073741824->zAO 139 [.dg 9 d] t.dp:=by
 refine Tm.ind λk nm ot n0 ty re l ih d hd hc N Q hQ=>?_
 obtain ⟨t0,t1,r0,r1,a,es,c,rfl,hh,hlen,J⟩:=Tm.is_mk.1 hd
 simp only [Tm.cnt] at hc
 have ac:=zCJ l
 refine zHL N _ Q λ_=>⟨_,_,_,rfl,?_⟩
 refine up J hlen (λi xs=>∀ (m:Nat) (N':Nat),N<=N'->max m (zEr xs)=zEr l->vB Q N m a es c es.length i N') ?_ ?_ 0 N (oB _) (by omega)
 ·intro i O _ m N' aa hm
  refine qT _ _ _ _ _ _ _ _ _ ?_
  simp only [zEr] at hm
  repeat' first|with_reducible intro _|simp only[O,Y1,Y2,Y3,Y4]|with_reducible refine X ?_ ?_|refine⟨_,_,_,rfl,?_⟩|refine⟨_,rfl,?_⟩|refine And.intro (by first|omega|trivial|(show _=_;rfl)|(with_reducible constructor)<;>first|omega|trivial|rfl) ?_|fail
  rw [i64_in _ (by omega)]
  exact Qi (hQ _ (by omega)) (by simp only [Tm.dp];omega)
 ·intro i x xs I _ ab m N' aa hm
  have hb:=I.b
  have ae:=zu I.m
  simp only [zEr] at hm
  refine qT _ _ _ _ _ _ _ _ _ ?_
  repeat' first|with_reducible intro _|simp only[I.lt,I.w,oK,Y1,Y2,Y3,Y4]|with_reducible refine X ?_ ?_|refine⟨_,_,_,rfl,?_⟩|refine⟨_,rfl,?_⟩|refine And.intro (by first|omega|trivial|(show _=_;rfl)|(with_reducible constructor)<;>first|omega|trivial|rfl) ?_|refine (ih x I.m _ I.r (by omega)) _ _ ?_|fail
  have e:(if (x.dp:Int)>(m:Int) then (x.dp:Int) else (m:Int))=((max m x.dp:Nat):Int):=by split<;>omega
  rw [e]
  exact ab (max m x.dp) _ (by omega) (by omega)
theorem zCh (t:Tm) (d:D) (hd:t.Is d) (hc:t.cnt<=1073741824):uN 101 [.dg 9 d] t.vd:=λN Q I=>by
 refine zBk N _ Q λ_=>?_
 repeat' first|with_reducible intro _|simp only[Y1,Y2,Y3,Y4]|with_reducible refine X ?_ ?_|refine⟨_,_,_,rfl,?_⟩|refine⟨_,rfl,?_⟩|refine And.intro (by first|omega|trivial|(show _=_;rfl)|(with_reducible constructor)<;>first|omega|trivial|rfl) ?_|refine (zBo t d hd hc) _ _ ?_|refine (tF t d hd hc) _ _ ?_|refine (zG1 t d hd hc) _ _ ?_|fail
 ·have J:t.sz<=80:=by omega
  refine Qb (I _ (by omega)) ?_
  have:decide ((t.dp:Int)<=20)=decide (t.dp<=20):=by rw [nP,nf,nf];omega
  simp [Tm.vd, *]
 ·have J:¬t.sz<=80:=by omega
  refine Qb (I _ (by omega)) ?_;simp [Tm.vd, *]
 ·refine Qb (I _ (by omega)) ?_;simp [Tm.vd, *]
theorem zLl (t:Tm) (d:D) (hd:t.Is d):uN 98 [.dg 9 d] (match t with | .mk k _ _ _ _ _ _=>zKB k):=λN Q I=>by
 cases t with
 | mk k nm ot n0 ty re l=>
 obtain ⟨t0,t1,r0,r1,a,es,c,rfl,O,hlen,J⟩:=Tm.is_mk.1 hd
 refine zC9 N _ Q λ_=>?_
 repeat' first|with_reducible intro _|simp only[Y1,Y2,Y3,Y4]|with_reducible refine X ?_ ?_|refine⟨_,_,_,rfl,?_⟩|refine⟨_,rfl,?_⟩|refine And.intro (by first|omega|trivial|(show _=_;rfl)|(with_reducible constructor)<;>first|omega|trivial|rfl) ?_|refine (yd _ _ _) _ _ ?_|fail
 all_goals (refine Qb (I _ (by omega)) ?_;simp [zKB, *])
theorem zEl {p:Tm->Bool} {l:List Tm} {es:List D} (h:All2 Tm.Is l es) (hlen:es.length<=4611686018427387904) (ad:Addr) (hp:∀ x∈l,∀ d,x.Is d->uN 134 [.dg 9 d,.pd ad 0 (.fn 98 [])] (p x)) (a:Option Addr) (c:Nat) :
  uN 62 [.sv a 9 es c,.fn 134 [.pd ad 0 (.fn 98 [])]] (l.any p):=λN Q O=>by
 have hi:zAO 105 [.sv a 9 es c,.fn 134 [.pd ad 0 (.fn 98 [])]] (s8 p l 0):=λN Q O=>by
  refine tq N a es c ad Q λ_=>?_
  refine up h hlen (λi xs=>∀ (N':Nat),N<=N'->(∀ N'',N'<=N''->Q (s8 p xs i) N'')->yK Q N a es c ad es.length i N') ?_ ?_ N (oB _) O
  ·intro i aa _ N' ab I
   refine wk _ _ _ _ _ _ _ _ _ ?_
   repeat' first|with_reducible intro _|simp only[aa,Y1,Y2,Y3,Y4]|with_reducible refine X ?_ ?_|refine⟨_,_,_,rfl,?_⟩|refine⟨_,rfl,?_⟩|refine And.intro (by first|omega|trivial|(show _=_;rfl)|(with_reducible constructor)<;>first|omega|trivial|rfl) ?_|fail
   exact I _ (by omega)
  ·intro i x xs J _ ac N' ab I
   have hb:=J.b
   simp only [s8] at I
   refine wk _ _ _ _ _ _ _ _ _ ?_
   repeat' first|with_reducible intro _|simp only[J.lt,J.w,oK,Y1,Y2,Y3,Y4]|with_reducible refine X ?_ ?_|refine⟨_,_,_,rfl,?_⟩|refine⟨_,rfl,?_⟩|refine And.intro (by first|omega|trivial|(show _=_;rfl)|(with_reducible constructor)<;>first|omega|trivial|rfl) ?_|refine (hp x J.m _ J.r) _ _ ?_|fail
   ·exact Qi (I _ (by omega)) (by rw [if_pos (by assumption)])
   ·rename_i h;exact ac _ (by omega) λN'' h2=>Qi (I _ (by omega)) (by rw [h];simp)
 refine uk N a es c ad Q λ_=>?_
 repeat' first|with_reducible intro _|simp only[Y1,Y2,Y3,Y4]|with_reducible refine X ?_ ?_|refine⟨_,_,_,rfl,?_⟩|refine⟨_,rfl,?_⟩|refine And.intro (by first|omega|trivial|(show _=_;rfl)|(with_reducible constructor)<;>first|omega|trivial|rfl) ?_|refine hi _ _ ?_|fail
 exact Qb (O _ (by omega)) (wb _ l 0 (by omega)).symm
theorem zNe:∀ l:List Tm,zOx l=!(l.any λx=>!x.isB)
 | []=>rfl
 | t::I=>by simp only [zOx,mW,zNe I];cases t.isB<;>simp
theorem zMX:∀ (t:Tm) (d:D),t.Is d->uN 97 [.dg 9 d,.fn 98 []] t.isB:=by
 refine Tm.ind λk nm ot n ty re l ih d hd N Q I=>?_
 have O:=zLl _ d hd
 obtain ⟨t0,t1,r0,r1,a,es,c,rfl,hh,hlen,J⟩:=Tm.is_mk.1 hd
 simp only at O
 refine zBF N _ Q λ_=>?_
 simp only [Tm.isB,zNe] at I
 repeat' first|with_reducible intro _|simp only[Y1,Y2,Y3,Y4]|with_reducible refine X ?_ ?_|refine⟨_,_,_,rfl,?_⟩|refine⟨_,rfl,?_⟩|refine And.intro (by first|omega|trivial|(show _=_;rfl)|(with_reducible constructor)<;>first|omega|trivial|rfl) ?_|refine O _ _ ?_|refine (zEl J hlen _ (λx hx d hd=>λN Q I=>pc N d _ Q λ_ N1 aa=>ih x hx d hd N1 _ λN2 ab ac N3 ae=>I N3 (by omega)) _ _) _ _ ?_|fail
 all_goals (refine Qb (I _ (by omega)) ?_;simp [*])
theorem zGz (l:List ByteArray) (I:l.length<=4611686018427387904) (a:Option Addr) (c:Nat) (s:ByteArray):zAO 137 [.sv a 0 (zA l) c,.str s] (s8 (λx=>decide (s=x)) l 0):=λN Q J=>by
 refine zG9 N a _ c s Q λ_=>?_
 repeat' first|with_reducible intro _|simp only[Y1,Y2,Y3,Y4]|with_reducible refine X ?_ ?_|refine⟨_,_,_,rfl,?_⟩|refine⟨_,rfl,?_⟩|refine And.intro (by first|omega|trivial|(show _=_;rfl)|(with_reducible constructor)<;>first|omega|trivial|rfl) ?_|refine (zGZ l I a c s) _ _ ?_|fail
 exact J _ (by omega)
def zk (g:List Pm):List ByteArray:=g.map (·.nm)
theorem th (g:List Pm):(zk g).length=g.length:=by simp [zk]
theorem qy {g:List Pm} {es:List D} (h:Pms g es) (hg:g.length<=1073741824) (a:Option Addr) (c:Nat) (N:Nat) (Q:QT [.sl 0])
  (hQ:∀ a' c' N',N<=N'->Q a' (zA (zk g)) c' N'):ACalls prog 44 [.sl 0] [.sv a 4 es c] N Q:=by
 have hl:=h.all.len
 refine zDR N a es c Q λ_=>?_
 have key:=up h.all h.len (λi xs=>∀ (q:Nat) (N':Nat),N<=N'->xf Q N (zA ((zk g).take i)).length q a es c es.length i (zA ((zk g).take i)) q N') ?_ ?_
 ·exact key 0 N (oB _)
 ·intro i aa hi q N' J
  refine tl _ _ _ _ _ _ _ _ _ _ _ _ ?_
  rw [od (by rw [th];omega)]
  repeat' first|with_reducible intro _|simp only[aa,Y1,Y2,Y3,Y4]|with_reducible refine X ?_ ?_|refine⟨_,_,_,rfl,?_⟩|refine⟨_,rfl,?_⟩|refine And.intro (by first|omega|trivial|(show _=_;rfl)|(with_reducible constructor)<;>first|omega|trivial|rfl) ?_|fail
  exact hQ _ _ _ (by omega)
 ·intro i x xs I _ ab q N' J
  have hb:=I.b
  have hm:=I.m
  obtain ⟨t0,t1,ac,ae,ah⟩:=I.r
  refine tl _ _ _ _ _ _ _ _ _ _ _ _ ?_
  have O:(zk g)[i]?=some x.nm:=by rw [zk,oI,I.g];rfl
  repeat' first|with_reducible intro _|simp only[I.lt,I.w,oK,ac,Y1,Y2,Y3,Y4]|with_reducible refine X ?_ ?_|refine⟨_,_,_,rfl,?_⟩|refine⟨_,rfl,?_⟩|refine And.intro (by first|omega|trivial|(show _=_;rfl)|(with_reducible constructor)<;>first|omega|trivial|rfl) ?_|fail
  refine ⟨by unfold zB;rw [oE,zO,o8];simp only [oJ,oM];omega,λc1=>?_⟩
  rw [xi,<-xK O]
  exact ab _ _ J
theorem zHe {α:Type} (p:α->Bool) (s:α) (hs:p s=true) (rest:List α):∀ (seen:List α) (k:Int),(s8 p (seen++s::rest) k=k+seen.length↔seen.any p=false)/\s8 p (seen++s::rest) k≥k
 | [],k=>by simp [s8,hs]
 | x :: seen,k=>by
   have I:=zHe p s hs rest seen (k+1)
   simp only [o9,s8,mW,oJ]
   cases J:p x with
   | true=>simp;omega
   | false=>
     simp only [mg,ni,Bool.false_or]
     refine ⟨?_,by omega⟩
     rw [<-I.1];constructor<;>intro h<;>omega
theorem zRb {s:ByteArray} (l:List ByteArray):(l.any λx=>decide (s=x))=l.any λx=>decide (x=s):=by
 induction l with
 | nil=>rfl
 | cons x l I=>simp only [mW,I,eq_comm]
theorem zEg {g:List Pm} {es:List D} (h:Pms g es) (hg:g.length<=1073741824) (a:Option Addr) (c:Nat):uN 100 [.sv a 4 es c] (zB2 g):=λN Q hQ=>by
 have hl:=h.all.len
 refine zEj N a es c Q λ_=>?_
 have au:=th g
 have key:=λ(h5:g.length<=5) a3 c3 (N2:Nat) (aw:N<=N2)=>up h.all h.len (λi xs=>∀ (N':Nat),N2<=N'->(∀ N'',N'<=N''->Q (zGn ((zk g).take i) xs) N'')->wA Q N a3 (zA (zk g)) c3 a es c es.length i N') ?_ ?_
 ·repeat' first|with_reducible intro _|simp only[Y1,Y2,Y3,Y4]|with_reducible refine X ?_ ?_|refine⟨_,_,_,rfl,?_⟩|refine⟨_,rfl,?_⟩|refine And.intro (by first|omega|trivial|(show _=_;rfl)|(with_reducible constructor)<;>first|omega|trivial|rfl) ?_|refine (qy h hg a c) _ _ ?_|fail
  ·refine Qb (hQ _ (by omega)) ?_
   have:¬g.length<=5:=by omega
   simp [zB2,this]
  ·have h5:g.length<=5:=by omega
   refine key h5 _ _ _ ?_ _ (oB _) λN'' aq=>Qb (hQ N'' ?_) ?_
   all_goals first | omega | skip
   simp [zB2,h5]
 ·intro i ac hi N' ai I
  refine sW _ _ _ _ _ _ _ _ _ _ _ ?_
  repeat' first|with_reducible intro _|simp only[ac,Y1,Y2,Y3,Y4]|with_reducible refine X ?_ ?_|refine⟨_,_,_,rfl,?_⟩|refine⟨_,rfl,?_⟩|refine And.intro (by first|omega|trivial|(show _=_;rfl)|(with_reducible constructor)<;>first|omega|trivial|rfl) ?_|fail
  refine Qb (I _ (by omega)) ?_
  simp [zGn]
 ·intro i x xs J _ aj N' ai I
  have hb:=J.b
  have hm:=J.m
  obtain ⟨t0,t1,ak,al,am⟩:=J.r
  simp only [zGn] at I
  have O:(zk g)[i]?=some x.nm:=by rw [zk,oI,J.g];rfl
  have aa:=(zHe (λy=>decide (x.nm=y)) x.nm (by simp) ((zk g).drop (i+1)) ((zk g).take i) 0).1
  have ae:(zk g).take i++x.nm::(zk g).drop (i+1)=zk g:=by
   have ac:i<(zk g).length:=(oD.1 O).1
   have:=(oD.1 O).2
   rw [<-this,List.getElem_cons_drop,nJ]
  rw [ae,o8,zRb] at aa
  have ah:min i (zk g).length=i:=by omega
  rw [ah] at aa
  refine sW _ _ _ _ _ _ _ _ _ _ _ ?_
  repeat' first|with_reducible intro _|simp only[J.lt,J.w,oK,ak,Y1,Y2,Y3,Y4]|with_reducible refine X ?_ ?_|refine⟨_,_,_,rfl,?_⟩|refine⟨_,rfl,?_⟩|refine And.intro (by first|omega|trivial|(show _=_;rfl)|(with_reducible constructor)<;>first|omega|trivial|rfl) ?_|refine (tI x.nm al) _ _ ?_|refine (ru x.ty _ am) _ _ ?_|refine (zGz (zk g) (by omega) _ _ x.nm) _ _ ?_|fail
  ·refine Qb (I _ (by omega)) ?_;simp [*]
  ·refine Qb (I _ (by omega)) ?_;simp [*]
  ·rename_i hx _ _
   have ab:¬((zk g).take i).any (λy=>decide (y=x.nm))=false:=λhc=>by have:=aa.2 hc;omega
   have ao:((zk g).take i).any (λy=>decide (y=x.nm))=true:=by simpa using ab
   refine Qb (I _ (by omega)) ?_
   rw [ao];simp
  ·rename_i hx
   have ab:((zk g).take i).any (λy=>decide (y=x.nm))=false:=aa.1 (by omega)
   refine aj _ (by omega) λN'' h2=>Qb (I N'' (by omega)) ?_
   rw [ab,xK O];simp [*]
theorem zRS {N N' M:Nat} {a:Option Addr} {d:D} (O:wa M [a]) (h:Own N N' d) (hM:M<=N):Off [a] d:=λb I ad J hc=>by
 have:=h.lo _ hc
 have:=O b I ad J
 omega
theorem zRc {g:List Pm} (J:zB2 g=true):zIl (uS g)=true:=by
 simp only [zB2,oL,nD] at J
 simp only [zIl,oL,nD,vZ]
 refine ⟨?_,by omega⟩
 have:∀ l:List Pm,(∀ x∈l,rE x.nm=true/\x.ty.base=true)->zKG (uS l)=true:=by
  intro l
  induction l with
  | nil=>intro _;rfl
  | cons p l ih=>
    intro h
    have O:=h p (by simp)
    have h2:=ih λx I=>h x (by simp [I])
    simp only [uS] at h2
    simp only [uS,oh,zKG,Tg.ok,oL,h2,and_true]
    exact ⟨O.1,(zHq O.2).1,by decide⟩
 exact this g λx I=>zFp J.1 I
theorem zPy {g:List Pm} {e:Tm} (J:zB2 g=true) (O:e.vd=true) (hb:e.isB=true):yk g e=zHS (uS g) e 0:=by
 have I:=O
 simp only [Tm.vd,oL] at I
 rw [yk,if_pos ⟨J,O,hb⟩,zHS,if_pos ⟨zRc J,by simp [zMq,I.2,zMZ e hb]⟩]
theorem zE3 {g:List Pm} {es:List D} (h:Pms g es) (hg:g.length<=1073741824) (ae:∀ x∈g,x.ty.cnt<=1073741824) {e:Tm} {d:D} (he:e.Is d) (hc:e.cnt<=1048576000 / 2) (a:Option Addr) (c:Nat):zVn 58 [.sv a 4 es c,.dg 9 d] (yk g e):=λN Q J=>by
 have hl:=h.all.len
 refine zFl N a es c d Q λ_ _=>?_
 have key:=λ(hp:zB2 g=true) (hv:e.vd=true) (hb:e.isB=true)=>up h.all h.len (λi xs=>∀ (done:List D) (q:Nat) (N':Nat),N<=N'->All2 Tg.Is ((uS g).take i) done->done.length=i->wY Q N done.length q a es c es.length i d 0 none [] 0 done q N') ?_ ?_
 ·repeat' first|with_reducible intro _|simp only[Y1,Y2,Y3,Y4]|with_reducible refine X ?_ ?_|refine⟨_,_,_,rfl,?_⟩|refine⟨_,rfl,?_⟩|refine And.intro (by first|omega|trivial|(show _=_;rfl)|(with_reducible constructor)<;>first|omega|trivial|rfl) ?_|refine (zMX e d he) _ _ ?_|refine (zEg h hg a c) _ _ ?_|refine (zCh e d he (by omega)) _ _ ?_|fail
  ·rw [show yk g e=none by unfold yk;rw [if_neg (by simp [*])]] at J
   exact J _ _ (by omega) (wD 0) ye
  ·rw [show yk g e=none by unfold yk;rw [if_neg (by simp [*])]] at J
   exact J _ _ (by omega) (wD 0) ye
  ·rw [show yk g e=none by unfold yk;rw [if_neg (by simp [*])]] at J
   exact J _ _ (by omega) (wD 0) ye
  ·exact key (by assumption) (by assumption) (by assumption) [] 0 _ (by omega) rfl rfl
 ·intro i ah hi done q N' O hd hs
  refine rR _ _ _ _ _ _ _ _ _ _ _ _ _ _ _ _ _ ?_
  rw [od (by rw [vZ];omega)] at hd
  rw [zPy hp hv hb] at J
  have ai:∀ x∈uS g,x.ty.cnt<=1073741824:=λx hx=>by obtain ⟨p,aj,rfl⟩:=zKw hx;exact ae p aj
  repeat' first|with_reducible intro _|simp only[ah,Y1,Y2,Y3,Y4]|with_reducible refine X ?_ ?_|refine⟨_,_,_,rfl,?_⟩|refine⟨_,rfl,?_⟩|refine And.intro (by first|omega|trivial|(show _=_;rfl)|(with_reducible constructor)<;>first|omega|trivial|rfl) ?_|fail
  rename_i ad au aw N1 ax aa
  refine zJi ⟨by omega,hd⟩ ai he hc ad q 0 N1 _ λx N2 ay hx ab _=>?_
  exact ⟨zRS aa ab (oB _),λ_ N3 ak=>J _ _ (by omega) hx (ab.mono (by omega) ak)⟩
 ·intro i x xs I _ al done q N' O hd hs
  have hb:=I.b
  have hm:=I.m
  obtain ⟨t0,t1,am,ao,aq⟩:=I.r
  refine rR _ _ _ _ _ _ _ _ _ _ _ _ _ _ _ _ _ ?_
  have ac:(uS g)[i]?=some ⟨x.nm,x.ty,0⟩:=by rw [uS,oI,I.g];rfl
  repeat' first|with_reducible intro _|simp only[I.lt,I.w,oK,am,Y1,Y2,Y3,Y4]|with_reducible refine X ?_ ?_|refine⟨_,_,_,rfl,?_⟩|refine⟨_,rfl,?_⟩|refine And.intro (by first|omega|trivial|(show _=_;rfl)|(with_reducible constructor)<;>first|omega|trivial|rfl) ?_|fail
  refine ⟨by unfold zB;rw [oE];simp only [oJ,oM];omega,λc1=>?_⟩
  exact al _ _ _ O (by rw [xK ac];exact hd.snoc ⟨_,_,rfl,ao,aq⟩) (by simp [hs])
end Go.Proofs.YtlahkdflngobiaaGreatDoor
