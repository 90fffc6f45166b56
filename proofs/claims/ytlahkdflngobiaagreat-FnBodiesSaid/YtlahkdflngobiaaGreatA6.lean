/- Parameters: what they are; the laws' sizes, copies, equality and marks on them. -/
import Derived.Test.YtlahkdflngobiaaGreatA4
import Derived.Test.YtlahkdflngobiaaGreatKa
import Derived.Test.YtlahkdflngobiaaGreatA3
import Derived.Test.YtlahkdflngobiaaGreatKi
set_option linter.unusedVariables false
set_option linter.unusedSimpArgs false
namespace Go.Proofs.YtlahkdflngobiaaGreat
open Go Go.Proofs Go.Proofs.Tryz Go.IntWalk
structure Pm where
 nm:ByteArray
 ty:Ty
 dy:Bool
def Pm.Is (g:Pm) (d:D):Prop:=∃ t0 t1,d=.ag [.t g.nm,t0,t1,.lit (.bool g.dy)]/\g.nm.size<=4611686018427387904/\g.ty.Is (.ag [t0,t1])
structure Pms (g:List Pm) (es:List D):Prop where
 len:es.length<=4611686018427387904
 all:All2 Pm.Is g es
theorem z9 (n a b:Int):vl 38 [.j n,.j a,.j b] (inB n a b):=λN Q I=>by
 refine zIa N n a b Q ?_
 repeat' first|with_reducible intro _|simp only[Y1,Y2,Y3,Y4]|with_reducible refine X ?_ ?_|refine⟨_,_,_,rfl,?_⟩|refine⟨_,rfl,?_⟩|refine And.intro (by first|omega|trivial|(show _=_;rfl)|(with_reducible constructor)<;>first|omega|trivial|rfl) ?_|fail
 all_goals simpa [inB, *] using I _ (by omega)
def pp {α:Type} (p:α->Bool):List α->Int->Int
 | [],_ => -1
 | x::xs,i=>if p x then i else pp p xs (i+1)
theorem uG {α:Type} (p:α->Bool):∀ (l:List α) (i:Int),0<=i->decide (pp p l i≥0)=l.any p
 | [],i,h=>by simp [pp]
 | x::xs,i,h=>by
   have I:=uG p xs (i+1) (by omega)
   rw [nz,nT] at I ⊢
   simp only [pp,ml,nS]
   by_cases J:p x=true
   ·simp only [J,mE,true_or,iff_true];exact h
   ·simpa [J] using I
/-- a row of words -/
def zC (l:List ByteArray):List D:=l.map λs=>.t s
theorem va:∀ l:List ByteArray,All2 (λs d=>d=.t s) l (zC l)
 | []=>rfl
 | s::l=>⟨_,_,rfl,rfl,va l⟩
theorem zFI (l:List ByteArray) (hl:l.length<=4611686018427387904) (a:Option Addr) (c:Nat) (s:ByteArray):rN 99 [.sv a 0 (zC l) c,.str s] (pp (λx=>decide (s=x)) l 0):=λN Q hQ=>by
 have O:=va l
 have U:(zC l).length<=4611686018427387904:=by rw [O.len];exact hl
 refine pi N a _ c s Q λ_=>?_
 refine up O U (λi xs=>∀ (N':Nat),N<=N'->(∀ N'',N'<=N''->Q (pp (λx=>decide (s=x)) xs i) N'')->yg Q N a (zC l) c s ((zC l).length:Int) i N') ?_ ?_ N (oD _) hQ
 ·intro i aa _ N' Y I
  refine ve _ _ _ _ _ _ _ _ _ ?_
  repeat' first|with_reducible intro _|simp only[aa,Y1,Y2,Y3,Y4]|with_reducible refine X ?_ ?_|refine⟨_,_,_,rfl,?_⟩|refine⟨_,rfl,?_⟩|refine And.intro (by first|omega|trivial|(show _=_;rfl)|(with_reducible constructor)<;>first|omega|trivial|rfl) ?_|fail
  exact I _ (by omega)
 ·intro i x xs J _ ab N' Y I
  have hb:=J.b
  have hr:=J.r
  simp only [pp] at I
  refine ve _ _ _ _ _ _ _ _ _ ?_
  repeat' first|with_reducible intro _|simp only[J.lt,J.w,oH,hr,Y1,Y2,Y3,Y4]|with_reducible refine X ?_ ?_|refine⟨_,_,_,rfl,?_⟩|refine⟨_,rfl,?_⟩|refine And.intro (by first|omega|trivial|(show _=_;rfl)|(with_reducible constructor)<;>first|omega|trivial|rfl) ?_|fail
  ·rename_i h _ _;subst h;exact Qi (I _ (by omega)) (by simp)
  ·rename_i h;exact ab _ Y λN'' h2=>Qi (I _ h2) (by rw [if_neg (by simpa using h)];simp)
theorem zFs (l:List ByteArray) (I:l.length<=4611686018427387904) (a:Option Addr) (c:Nat) (s:ByteArray):vl 98 [.sv a 0 (zC l) c,.str s] (l.any λx=>decide (s=x)):=λN Q J=>by
 refine rM N a _ c s Q λ_=>?_
 repeat' first|with_reducible intro _|simp only[Y1,Y2,Y3,Y4]|with_reducible refine X ?_ ?_|refine⟨_,_,_,rfl,?_⟩|refine⟨_,rfl,?_⟩|refine And.intro (by first|omega|trivial|(show _=_;rfl)|(with_reducible constructor)<;>first|omega|trivial|rfl) ?_|refine (zFI l I a c s) _ _ ?_|fail
 exact Qb (J _ (by omega)) (uG _ l 0 (by omega)).symm
theorem uL (s:ByteArray) (hs:s.size<=4611686018427387904):vl 56 [.str s] (yb s):=λN Q Y=>by
 refine zH5 N s Q ?_
 have key:=upN hs (λi=>∀ N',N<=N'->(∀ N'',N'<=N''->Q (tW s i&&zGp s) N'')->xB Q N s (s.size:Int) i N') ?_ ?_
 ·exact key N (oD _) Y
 ·intro J N' O I
  have hc:=zFs [bytes [105,102],bytes [108,101,116],bytes [108,105,102,116],bytes [114,101,99],bytes [114,117,110]] (by simp)
  simp only [zC,List.map] at hc
  refine r5 _ _ _ _ _ _ ?_
  repeat' first|with_reducible intro _|simp only[J,Y1,Y2,Y3,Y4]|with_reducible refine X ?_ ?_|refine⟨_,_,_,rfl,?_⟩|refine⟨_,rfl,?_⟩|refine And.intro (by first|omega|trivial|(show _=_;rfl)|(with_reducible constructor)<;>first|omega|trivial|rfl) ?_|refine (z9 _ _ _) _ _ ?_|refine (hc _ _ _) _ _ ?_|fail
  all_goals (refine Qb (I _ (by omega)) ?_;rw [zCb])
  ·simp only [zGp,ml,List.any_nil,Bool.or_false, *]
   cases decide (s=bytes [105,102])<;>cases decide (s=bytes [108,101,116])<;>cases decide (s=bytes [108,105,102,116])<;>cases decide (s=bytes [114,101,99])<;>cases decide (s=bytes [114,117,110])<;>rfl
  ·simp [zGp, *]
 ·intro i hi J hw U N' O I
  refine r5 _ _ _ _ _ _ ?_
  rw [zBI hi] at I
  repeat' first|with_reducible intro _|simp only[J,hw,oH,Y1,Y2,Y3,Y4]|with_reducible refine X ?_ ?_|refine⟨_,_,_,rfl,?_⟩|refine⟨_,rfl,?_⟩|refine And.intro (by first|omega|trivial|(show _=_;rfl)|(with_reducible constructor)<;>first|omega|trivial|rfl) ?_|fail
  all_goals first
   | (refine Qb (I _ (by omega)) ?_;unfold zGm zCl;simp only [*];simp;done)
   | (refine U _ (by omega) λN'' h=>Qb (I N'' (by omega)) ?_;unfold zGm zCl;simp only [*];simp;done)
theorem zCF:∀ (t:Ty) (d:D),t.Is d->t.cnt<=1073741824->rN 154 [.dg 2 d] t.cnt:=by
 refine Ty.ind λk l ih d hd hc N Q hQ=>?_
 obtain ⟨a,es,c,rfl,J,O⟩:=Ty.is_mk.1 hd
 simp only [Ty.cnt] at hc
 refine zCQ N _ Q λ_=>⟨_,_,_,rfl,?_⟩
 refine up O J (λi xs=>∀ (m:Nat) (N':Nat),N<=N'->m+zJ xs=1+zJ l->xE Q N m a es c es.length i N') ?_ ?_ 1 N (oD _) rfl
 ·intro i U _ m N' Y hm
  refine ud _ _ _ _ _ _ _ _ _ ?_
  simp only [zJ] at hm
  repeat' first|with_reducible intro _|simp only[U,Y1,Y2,Y3,Y4]|with_reducible refine X ?_ ?_|refine⟨_,_,_,rfl,?_⟩|refine⟨_,rfl,?_⟩|refine And.intro (by first|omega|trivial|(show _=_;rfl)|(with_reducible constructor)<;>first|omega|trivial|rfl) ?_|fail
  exact Qi (hQ _ (by omega)) (by simp only [Ty.cnt];omega)
 ·intro i x xs I _ aa m N' Y hm
  have hb:=I.b
  have ab:=wQ I.m
  simp only [zJ] at hm
  refine ud _ _ _ _ _ _ _ _ _ ?_
  repeat' first|with_reducible intro _|simp only[I.lt,I.w,oH,Y1,Y2,Y3,Y4]|with_reducible refine X ?_ ?_|refine⟨_,_,_,rfl,?_⟩|refine⟨_,rfl,?_⟩|refine And.intro (by first|omega|trivial|(show _=_;rfl)|(with_reducible constructor)<;>first|omega|trivial|rfl) ?_|refine (ih x I.m _ I.r (by omega)) _ _ ?_|fail
  rw [i64_in _ (by omega)]
  exact aa (m+x.cnt) _ (by omega) (by omega)
theorem zAF:∀ (t:Ty) (d:D),t.Is d->t.cnt<=1073741824->rN 155 [.dg 2 d] t.dep:=by
 refine Ty.ind λk l ih d hd hc N Q hQ=>?_
 obtain ⟨a,es,c,rfl,J,O⟩:=Ty.is_mk.1 hd
 simp only [Ty.cnt] at hc
 have ab:=qf l
 refine zBP N _ Q λ_=>⟨_,_,_,rfl,?_⟩
 refine up O J (λi xs=>∀ (m:Nat) (N':Nat),N<=N'->max m (tk xs)=tk l->yr Q N m a es c es.length i N') ?_ ?_ 0 N (oD _) (by omega)
 ·intro i U _ m N' Y hm
  refine uC _ _ _ _ _ _ _ _ _ ?_
  simp only [tk] at hm
  repeat' first|with_reducible intro _|simp only[U,Y1,Y2,Y3,Y4]|with_reducible refine X ?_ ?_|refine⟨_,_,_,rfl,?_⟩|refine⟨_,rfl,?_⟩|refine And.intro (by first|omega|trivial|(show _=_;rfl)|(with_reducible constructor)<;>first|omega|trivial|rfl) ?_|fail
  rw [i64_in _ (by omega)]
  exact Qi (hQ _ (by omega)) (by simp only [Ty.dep];omega)
 ·intro i x xs I _ aa m N' Y hm
  have hb:=I.b
  have ac:=wQ I.m
  simp only [tk] at hm
  refine uC _ _ _ _ _ _ _ _ _ ?_
  repeat' first|with_reducible intro _|simp only[I.lt,I.w,oH,Y1,Y2,Y3,Y4]|with_reducible refine X ?_ ?_|refine⟨_,_,_,rfl,?_⟩|refine⟨_,rfl,?_⟩|refine And.intro (by first|omega|trivial|(show _=_;rfl)|(with_reducible constructor)<;>first|omega|trivial|rfl) ?_|refine (ih x I.m _ I.r (by omega)) _ _ ?_|fail
  have e:(if (x.dep:Int)>(m:Int) then (x.dep:Int) else (m:Int))=((max m x.dep:Nat):Int):=by split<;>omega
  rw [e]
  exact aa _ _ (by omega) (by omega)
theorem zDu (t:Ty) (d:D) (hd:t.Is d):vl 157 [.dg 2 d] (qw t.k t.as.length):=λN Q J=>by
 cases t with
 | mk k l=>
 obtain ⟨a,es,c,rfl,U,O⟩:=Ty.is_mk.1 hd
 have Y:=O.len
 simp only [Ty.k,Ty.as] at J
 refine qq N _ Q λ_=>?_
 cases I:inB k 1 4 with
 | false=>
   repeat' first|with_reducible intro _|simp only[I,Y1,Y2,Y3,Y4]|with_reducible refine X ?_ ?_|refine⟨_,_,_,rfl,?_⟩|refine⟨_,rfl,?_⟩|refine And.intro (by first|omega|trivial|(show _=_;rfl)|(with_reducible constructor)<;>first|omega|trivial|rfl) ?_|refine (z9 _ _ _) _ _ ?_|fail
   refine Qb (J _ (by omega)) ?_
   have:¬(1<=k/\k<=4):=λh=>by rw [yE.2 h] at I;cases I
   unfold qw
   rw [if_neg (by omega),if_neg (by omega),if_neg (by omega)]
 | true=>
   have hb:=yE.1 I
   have w0:IntKind.i64.wrap 0=0:=rfl
   have w1:IntKind.i64.wrap 1=1:=rfl
   have w2:IntKind.i64.wrap 2=2:=rfl
   have w3:IntKind.i64.wrap 3=3:=rfl
   have hk:k=1\/k=2\/k=3\/k=4:=by omega
   rcases hk with rfl | rfl | rfl | rfl
   all_goals
    repeat' first|with_reducible intro _|simp only[I,w0,w1,w2,w3,Y1,Y2,Y3,Y4]|with_reducible refine X ?_ ?_|refine⟨_,_,_,rfl,?_⟩|refine⟨_,rfl,?_⟩|refine And.intro (by first|omega|trivial|(show _=_;rfl)|(with_reducible constructor)<;>first|omega|trivial|rfl) ?_|refine (z9 _ _ _) _ _ ?_|fail
    refine Qb (J _ (by omega)) ?_
    simp [qw,Y]
theorem zFD:∀ l:List Ty,ta l=!(l.any λx=>!x.form)
 | []=>rfl
 | t::I=>by simp only [ta,ml,zFD I];cases t.form<;>simp
theorem zDt {p:Ty->Bool} {l:List Ty} {es:List D} (h:All2 Ty.Is l es) (O:es.length<=4611686018427387904) (ad:Addr) (hp:∀ x∈l,∀ d,x.Is d->vl 178 [.dg 2 d,.pd ad 0 (.fn 157 [])] (p x)) (a:Option Addr) (c:Nat) :
  vl 177 [.sv a 2 es c,.fn 178 [.pd ad 0 (.fn 157 [])]] (l.any p):=λN Q U=>by
 have hi:rN 186 [.sv a 2 es c,.fn 178 [.pd ad 0 (.fn 157 [])]] (pp p l 0):=λN Q U=>by
  refine u6 N a es c ad Q λ_=>?_
  refine up h O (λi xs=>∀ (N':Nat),N<=N'->(∀ N'',N'<=N''->Q (pp p xs i) N'')->yB Q N a es c ad es.length i N') ?_ ?_ N (oD _) U
  ·intro i Y _ N' aa I
   refine wE _ _ _ _ _ _ _ _ _ ?_
   repeat' first|with_reducible intro _|simp only[Y,Y1,Y2,Y3,Y4]|with_reducible refine X ?_ ?_|refine⟨_,_,_,rfl,?_⟩|refine⟨_,rfl,?_⟩|refine And.intro (by first|omega|trivial|(show _=_;rfl)|(with_reducible constructor)<;>first|omega|trivial|rfl) ?_|fail
   exact I _ (by omega)
  ·intro i x xs J _ ab N' aa I
   have hb:=J.b
   simp only [pp] at I
   refine wE _ _ _ _ _ _ _ _ _ ?_
   repeat' first|with_reducible intro _|simp only[J.lt,J.w,oH,Y1,Y2,Y3,Y4]|with_reducible refine X ?_ ?_|refine⟨_,_,_,rfl,?_⟩|refine⟨_,rfl,?_⟩|refine And.intro (by first|omega|trivial|(show _=_;rfl)|(with_reducible constructor)<;>first|omega|trivial|rfl) ?_|refine (hp x J.m _ J.r) _ _ ?_|fail
   ·exact Qi (I _ (by omega)) (by rw [if_pos (by assumption)])
   ·rename_i h;exact ab _ (by omega) λN'' h2=>Qi (I _ (by omega)) (by rw [h];simp)
 refine vp N a es c ad Q λ_=>?_
 repeat' first|with_reducible intro _|simp only[Y1,Y2,Y3,Y4]|with_reducible refine X ?_ ?_|refine⟨_,_,_,rfl,?_⟩|refine⟨_,rfl,?_⟩|refine And.intro (by first|omega|trivial|(show _=_;rfl)|(with_reducible constructor)<;>first|omega|trivial|rfl) ?_|refine hi _ _ ?_|fail
 exact Qb (U _ (by omega)) (uG _ l 0 (by omega)).symm
theorem zMl:∀ (t:Ty) (d:D),t.Is d->vl 156 [.dg 2 d,.fn 157 []] t.form:=by
 refine Ty.ind λk l Y d hd N Q I=>?_
 have O:=hd
 obtain ⟨a,es,c,rfl,J,U⟩:=Ty.is_mk.1 hd
 refine zAq N _ Q λ_=>?_
 simp only [Ty.form,zFD] at I
 repeat' first|with_reducible intro _|simp only[Y1,Y2,Y3,Y4]|with_reducible refine X ?_ ?_|refine⟨_,_,_,rfl,?_⟩|refine⟨_,rfl,?_⟩|refine And.intro (by first|omega|trivial|(show _=_;rfl)|(with_reducible constructor)<;>first|omega|trivial|rfl) ?_|refine (zDu _ _ O) _ _ ?_|refine (zDt U J _ (λx hx d hd=>λN Q I=>qn N d _ Q λ_ N1 aa=>Y x hx d hd N1 _ λN2 ab ac N3 ae=>I N3 (by omega)) _ _) _ _ ?_|fail
 ·have h:qw (Ty.mk k l).k (Ty.mk k l).as.length=true:=by assumption
  exact Qb (I _ (by omega)) (by simp only [Ty.k,Ty.as] at h;rw [h,Bool.and_true])
 ·rename_i h _ _
  exact Qb (I _ (by omega)) (by simp only [Ty.k,Ty.as] at h;rw [h,lE])
theorem xi (t:Ty) (d:D) (hd:t.Is d) (hc:t.cnt<=1073741824):vl 130 [.dg 2 d] t.valid:=λN Q I=>by
 refine zAx N _ Q λ_=>?_
 repeat' first|with_reducible intro _|simp only[Y1,Y2,Y3,Y4]|with_reducible refine X ?_ ?_|refine⟨_,_,_,rfl,?_⟩|refine⟨_,rfl,?_⟩|refine And.intro (by first|omega|trivial|(show _=_;rfl)|(with_reducible constructor)<;>first|omega|trivial|rfl) ?_|refine (zCF t d hd hc) _ _ ?_|refine (zAF t d hd hc) _ _ ?_|refine (zMl t d hd) _ _ ?_|fail
 ·refine Qb (I _ (by omega)) ?_
  have J:t.cnt<=30:=by omega
  have O:t.dep<=8:=by omega
  simp [Ty.valid, *]
 ·refine Qb (I _ (by omega)) ?_
  have O:¬t.dep<=8:=by omega
  simp [Ty.valid, *]
 ·refine Qb (I _ (by omega)) ?_
  have J:¬t.cnt<=30:=by omega
  simp [Ty.valid, *]
theorem zV:∀ (t u:Ty) (d e:D),t.Is d->u.Is e->vl 152 [.dg 2 d,.dg 2 e] (tu t u):=by
 refine Ty.ind λk l ih u d e hd he N Q Y=>?_
 cases u with
 | mk k' l'=>
 obtain ⟨a,es,c,rfl,aa,ab⟩:=Ty.is_mk.1 hd
 obtain ⟨a',U,c',rfl,ae,O⟩:=Ty.is_mk.1 he
 have hl:=ab.len
 have al:=O.len
 simp only [tu] at Y
 have hf:vl 176 [.sv a 2 es c,.sv a' 2 U c',.fn 152 []] (sQ l l'):=λN Q Y=>by
  have key:l.length=l'.length->∀ (N':Nat),N<=N'->(∀ N'',N'<=N''->Q (sQ l (l'.drop 0)) N'')->zS Q N a' U c' a es c es.length (0:Nat) N':=by
   intro am
   refine up ab aa (λi xs=>∀ (N':Nat),N<=N'->(∀ N'',N'<=N''->Q (sQ xs (l'.drop i)) N'')->zS Q N a' U c' a es c es.length i N') ?_ ?_
   ·intro i ah hi N' ai I
    refine wB _ _ _ _ _ _ _ _ _ _ _ ?_
    repeat' first|with_reducible intro _|simp only[ah,Y1,Y2,Y3,Y4]|with_reducible refine X ?_ ?_|refine⟨_,_,_,rfl,?_⟩|refine⟨_,rfl,?_⟩|refine And.intro (by first|omega|trivial|(show _=_;rfl)|(with_reducible constructor)<;>first|omega|trivial|rfl) ?_|fail
    refine Qb (I _ (by assumption)) ?_
    rw [ma (by omega)]
    rfl
   ·intro i x xs J _ aj N' ai I
    have hb:=J.b
    have ac:i<l'.length:=by omega
    have hg:l'[i]?=some l'[i]:=oE ac
    have ak:l'.drop i=l'[i]::l'.drop (i+1):=nw ac
    refine wB _ _ _ _ _ _ _ _ _ _ _ ?_
    rw [ak] at I
    repeat' first|with_reducible intro _|simp only[J.lt,J.w,oH,Y1,Y2,Y3,Y4]|with_reducible refine X ?_ ?_|refine⟨_,_,_,rfl,?_⟩|refine⟨_,rfl,?_⟩|refine And.intro (by first|omega|trivial|(show _=_;rfl)|(with_reducible constructor)<;>first|omega|trivial|rfl) ?_|refine (ih x J.m _ _ _ J.r (O.get hg)) _ _ ?_|fail
    ·exact Qb (I _ (by omega)) (by simp [sQ, *])
    ·exact aj _ (by omega) λN'' h=>Qb (I N'' (by omega)) (by simp [sQ, *])
  refine u5 N _ _ _ _ _ _ Q λ_ _=>?_
  repeat' first|with_reducible intro _|simp only[Y1,Y2,Y3,Y4]|with_reducible refine X ?_ ?_|refine⟨_,_,_,rfl,?_⟩|refine⟨_,rfl,?_⟩|refine And.intro (by first|omega|trivial|(show _=_;rfl)|(with_reducible constructor)<;>first|omega|trivial|rfl) ?_|fail
  ·exact Qb (Y _ (by assumption)) (zDm (by omega))
  ·exact key (by omega) N (oD _) Y
 refine zC9 N _ _ Q λ_ _=>?_
 repeat' first|with_reducible intro _|simp only[Y1,Y2,Y3,Y4]|with_reducible refine X ?_ ?_|refine⟨_,_,_,rfl,?_⟩|refine⟨_,rfl,?_⟩|refine And.intro (by first|omega|trivial|(show _=_;rfl)|(with_reducible constructor)<;>first|omega|trivial|rfl) ?_|refine hf _ _ ?_|fail
 ·exact Qb (Y _ (by omega)) (by simp [*])
 ·exact Qb (Y _ (by omega)) (by simp [*])
theorem sW (t:Ty) (d:D) (hd:t.Is d):vl 57 [.dg 2 d] t.base:=λN Q U=>by
 cases t with
 | mk k l=>
 obtain ⟨a,es,c,rfl,O,I⟩:=Ty.is_mk.1 hd
 have Y:=I.len
 have J:inB k 1 2=(k==1||k==2):=by
  rw [nz,yE]
  simp
  omega
 refine zIJ N _ Q λ_=>?_
 repeat' first|with_reducible intro _|simp only[Y1,Y2,Y3,Y4]|with_reducible refine X ?_ ?_|refine⟨_,_,_,rfl,?_⟩|refine⟨_,rfl,?_⟩|refine And.intro (by first|omega|trivial|(show _=_;rfl)|(with_reducible constructor)<;>first|omega|trivial|rfl) ?_|refine (z9 _ _ _) _ _ ?_|fail
 all_goals (rename_i h _ _;rw [J] at h;exact Qb (U _ (by omega)) (by simp only [Ty.base,Ty.k,Ty.as,h,Y];simp))
theorem pT (s:ByteArray):rN 175 [.str s] (zF6 s):=λN Q I=>by
 refine zFn N s Q ?_
 repeat' first|with_reducible intro _|simp only[Y1,Y2,Y3,Y4]|with_reducible refine X ?_ ?_|refine⟨_,_,_,rfl,?_⟩|refine⟨_,rfl,?_⟩|refine And.intro (by first|omega|trivial|(show _=_;rfl)|(with_reducible constructor)<;>first|omega|trivial|rfl) ?_|fail
 all_goals (refine Qi (I _ (by assumption)) ?_;unfold zF6;(repeat' split)<;>first | rfl | contradiction)
def arI (k:Int) (nm:ByteArray):Int:=
 if k=4 then zF6 nm else if k=5 then 3 else if k=7\/k=8 then 2 else if k=6\/k=9\/k=10\/k=11\/k=12\/k=13 then 1 else 0
theorem zJj {k n:Int} {nm ot:ByteArray} {t0 t1 r0 r1 x:D}:rN 150 [.dg 9 (.ag [.j k,.t nm,.t ot,.j n,t0,t1,r0,r1,x])] (arI k nm):=λN Q I=>by
 refine zJi N _ Q λ_=>?_
 repeat' first|with_reducible intro _|simp only[Y1,Y2,Y3,Y4]|with_reducible refine X ?_ ?_|refine⟨_,_,_,rfl,?_⟩|refine⟨_,rfl,?_⟩|refine And.intro (by first|omega|trivial|(show _=_;rfl)|(with_reducible constructor)<;>first|omega|trivial|rfl) ?_|refine (pT _) _ _ ?_|fail
 all_goals (refine Qi (I _ (by omega)) ?_;simp [arI, *])
theorem wo (n:Int):vl 119 [.j n] (inB n 0 10006):=λN Q I=>by
 refine zEB N n Q ?_
 repeat' first|with_reducible intro _|simp only[Y1,Y2,Y3,Y4]|with_reducible refine X ?_ ?_|refine⟨_,_,_,rfl,?_⟩|refine⟨_,rfl,?_⟩|refine And.intro (by first|omega|trivial|(show _=_;rfl)|(with_reducible constructor)<;>first|omega|trivial|rfl) ?_|refine (z9 _ _ _) _ _ ?_|fail
 exact I _ (by omega)
def zGK (k:Int) (nm ot:ByteArray) (n:Int) (ty re:Ty):Bool:=
 if k=1\/k=8 then yb nm else if k=2 then inB n 0 10006 else if k=3 then inB n 0 1 else if k=4 then decide (zF6 nm>0)
 else if k=6 then yb nm&&ty.valid else if k=9 then yb nm&&(yb ot&&(!decide (nm=ot)&&(ty.valid&&re.valid))) else inB k 1 13
theorem zGA {k n:Int} {nm ot:ByteArray} {ty re:Ty} {t0 t1 r0 r1 x:D} (h:Tm.Hd nm ot ty re t0 t1 r0 r1) (hc:ty.cnt<=1073741824) (I:re.cnt<=1073741824) :
  vl 151 [.dg 9 (.ag [.j k,.t nm,.t ot,.j n,t0,t1,r0,r1,x])] (zGK k nm ot n ty re):=λN Q J=>by
 refine zF0 N _ Q λ_=>?_
 repeat' first|with_reducible intro _|simp only[Y1,Y2,Y3,Y4]|with_reducible refine X ?_ ?_|refine⟨_,_,_,rfl,?_⟩|refine⟨_,rfl,?_⟩|refine And.intro (by first|omega|trivial|(show _=_;rfl)|(with_reducible constructor)<;>first|omega|trivial|rfl) ?_|refine (pT _) _ _ ?_|refine (uL _ h.nm) _ _ ?_|refine (uL _ h.ot) _ _ ?_|refine (wo _) _ _ ?_|refine (z9 _ _ _) _ _ ?_|refine (xi _ _ h.ty hc) _ _ ?_|refine (xi _ _ h.re I) _ _ ?_|fail
 all_goals (refine Qb (J _ (by omega)) ?_;simp [zGK, *])
theorem zJU (t:Ty):tu t t=true:=(uI t t).2 rfl
def zMm (k:Int) (nm ot:ByteArray) (n:Int) (ty re:Ty) (m:Int):Bool:=
 decide (m=arI k nm)&&(zGK k nm ot n ty re&&((decide (k=1\/k=8\/k=4\/k=6\/k=9)||decide (nm=bytes []))&&((decide (k=9)||decide (ot=bytes []))&&((decide (k=2\/k=3)||decide (n=0)) &&
  ((decide (k=6\/k=9)||tu ty tZero)&&(decide (k=9)||tu re tZero))))))
theorem zFj {k n:Int} {nm ot:ByteArray} {ty re:Ty} {t0 t1 r0 r1:D} {a:Option Addr} {es:List D} {c:Nat} (h:Tm.Hd nm ot ty re t0 t1 r0 r1) (hc:ty.cnt<=1073741824) (I:re.cnt<=1073741824) :
  vl 127 [.dg 9 (.ag [.j k,.t nm,.t ot,.j n,t0,t1,r0,r1,.sl a 9 es c])] (zMm k nm ot n ty re es.length):=λN Q J=>by
 refine zH2 N _ Q λ_=>?_
 repeat' first|with_reducible intro _|simp only[Y1,Y2,Y3,Y4]|with_reducible refine X ?_ ?_|refine⟨_,_,_,rfl,?_⟩|refine⟨_,rfl,?_⟩|refine And.intro (by first|omega|trivial|(show _=_;rfl)|(with_reducible constructor)<;>first|omega|trivial|rfl) ?_|refine zJj _ _ ?_|refine (zGA h hc I) _ _ ?_|refine (zV ty tZero _ _ h.ty xN) _ _ ?_|refine (zV re tZero _ _ h.re xN) _ _ ?_|refine (zV ty ty _ _ h.ty h.ty) _ _ ?_|refine (zV re re _ _ h.re h.re) _ _ ?_|fail
 all_goals first | (exfalso;omega) | (refine Qb (J _ (by omega)) ?_;simp [zMm,zJU, *];done) | (refine Qb (J _ (by omega)) ?_;simp_all [zMm,zJU];done)
theorem zSB (t:Ty):tu t tZero=t.zero:=by
 cases t with
 | mk k l => cases l<;>simp [tu,tZero,sQ,Ty.zero,Ty.k,Ty.as]
             try omega
theorem zM3 {t:Ty} (h:t.zero=true):t.valid=false:=by
 cases t with
 | mk k l=>
   simp only [Ty.zero,Ty.k,Ty.as,oI,nl] at h
   simp [Ty.valid,Ty.form,qw,h.1]
theorem zVH (n:Int):inB n 0 0=decide (n=0):=by
 rw [nz,yE,nT];omega
theorem zp (t:Ty) (b:Bool):(!t.valid&&(t.zero&&b))=(t.zero&&b):=by
 cases h:t.zero with
 | false=>simp
 | true=>rw [zM3 h];simp
theorem zQL (k:Int) (nm ot:ByteArray) (n:Int) (ty re:Ty) (m:Int) (hm:0<=m):zMm k nm ot n ty re m=(zK k nm ot n ty re&&m==zCx k nm):=by
 by_cases Y:k=1\/k=2\/k=3\/k=4\/k=5\/k=6\/k=7\/k=8\/k=9\/k=10\/k=11\/k=12\/k=13
 ·rw [zUu m]
  have b5:inB 5 1 13=true:=rfl
  have b7:inB 7 1 13=true:=rfl
  have I:inB 10 1 13=true:=rfl
  have J:inB 11 1 13=true:=rfl
  have O:inB 12 1 13=true:=rfl
  have U:inB 13 1 13=true:=rfl
  rcases Y with rfl | rfl | rfl | rfl | rfl | rfl | rfl | rfl | rfl | rfl | rfl | rfl | rfl
  all_goals
   simp [zMm,arI,zGK,zK,qS,x9,zCx,zSB,zVH,zp,b5,b7,I,J,O,U]
   try (rw [nz];simp [and_comm,and_left_comm,and_assoc])
 ·have h1:zCx k nm = -1:=by
   unfold zCx;rw [if_neg (by omega),if_neg (by omega),if_neg (by omega),if_neg (by omega),if_neg (by omega)]
  have h2:inB k 1 13=false:=by
   cases h:inB k 1 13 with
   | false=>rfl
   | true=>have:=yE.1 h;omega
  have h3:zGK k nm ot n ty re=false:=by
   unfold zGK;rw [if_neg (by omega),if_neg (by omega),if_neg (by omega),if_neg (by omega),if_neg (by omega),if_neg (by omega),h2]
  have h4:(m==zCx k nm)=false:=by rw [h1,zUu];exact mX (by omega)
  rw [h4,zMm,h3]
  simp
theorem zQi {k n:Int} {nm ot:ByteArray} {ty re:Ty} {t0 t1 r0 r1:D} {a:Option Addr} {es:List D} {c:Nat} (h:Tm.Hd nm ot ty re t0 t1 r0 r1) (hc:ty.cnt<=1073741824) (I:re.cnt<=1073741824) :
  vl 127 [.dg 9 (.ag [.j k,.t nm,.t ot,.j n,t0,t1,r0,r1,.sl a 9 es c])] (zK k nm ot n ty re&&(es.length:Int)==zCx k nm):=by
 rw [<-zQL _ _ _ _ _ _ _ (by omega)]
 exact zFj h hc I
theorem zJI:∀ l:List Tm,rt l=!(l.any λx=>!x.ok)
 | []=>rfl
 | t::I=>by simp only [rt,ml,zJI I];cases t.ok<;>simp
theorem zDg {p:Tm->Bool} {l:List Tm} {es:List D} (h:All2 Tm.Is l es) (O:es.length<=4611686018427387904) (ad:Addr) (hp:∀ x∈l,∀ d,x.Is d->vl 82 [.dg 9 d,.pd ad 0 (.fn 127 [])] (p x)) (a:Option Addr) (c:Nat) :
  vl 81 [.sv a 9 es c,.fn 82 [.pd ad 0 (.fn 127 [])]] (l.any p):=λN Q U=>by
 have hi:rN 126 [.sv a 9 es c,.fn 82 [.pd ad 0 (.fn 127 [])]] (pp p l 0):=λN Q U=>by
  refine u7 N a es c ad Q λ_=>?_
  refine up h O (λi xs=>∀ (N':Nat),N<=N'->(∀ N'',N'<=N''->Q (pp p xs i) N'')->yC Q N a es c ad es.length i N') ?_ ?_ N (oD _) U
  ·intro i Y _ N' aa I
   refine wC _ _ _ _ _ _ _ _ _ ?_
   repeat' first|with_reducible intro _|simp only[Y,Y1,Y2,Y3,Y4]|with_reducible refine X ?_ ?_|refine⟨_,_,_,rfl,?_⟩|refine⟨_,rfl,?_⟩|refine And.intro (by first|omega|trivial|(show _=_;rfl)|(with_reducible constructor)<;>first|omega|trivial|rfl) ?_|fail
   exact I _ (by omega)
  ·intro i x xs J _ ab N' aa I
   have hb:=J.b
   simp only [pp] at I
   refine wC _ _ _ _ _ _ _ _ _ ?_
   repeat' first|with_reducible intro _|simp only[J.lt,J.w,oH,Y1,Y2,Y3,Y4]|with_reducible refine X ?_ ?_|refine⟨_,_,_,rfl,?_⟩|refine⟨_,rfl,?_⟩|refine And.intro (by first|omega|trivial|(show _=_;rfl)|(with_reducible constructor)<;>first|omega|trivial|rfl) ?_|refine (hp x J.m _ J.r) _ _ ?_|fail
   ·exact Qi (I _ (by omega)) (by rw [if_pos (by assumption)])
   ·rename_i h;exact ab _ (by omega) λN'' h2=>Qi (I _ (by omega)) (by rw [h];simp)
 refine vm N a es c ad Q λ_=>?_
 repeat' first|with_reducible intro _|simp only[Y1,Y2,Y3,Y4]|with_reducible refine X ?_ ?_|refine⟨_,_,_,rfl,?_⟩|refine⟨_,rfl,?_⟩|refine And.intro (by first|omega|trivial|(show _=_;rfl)|(with_reducible constructor)<;>first|omega|trivial|rfl) ?_|refine hi _ _ ?_|fail
 exact Qb (U _ (by omega)) (uG _ l 0 (by omega)).symm
theorem zMp:∀ (t:Tm) (d:D),t.Is d->t.cnt<=1073741824->vl 36 [.dg 9 d,.fn 127 []] t.ok:=by
 refine Tm.ind λk nm ot n ty re l Y d hd hc N Q I=>?_
 obtain ⟨t0,t1,r0,r1,a,es,c,rfl,hh,J,O⟩:=Tm.is_mk.1 hd
 have hl:=O.len
 simp only [Tm.cnt] at hc
 refine zAk N _ Q λ_=>?_
 simp only [Tm.ok,zJI,<-hl] at I
 repeat' first|with_reducible intro _|simp only[Y1,Y2,Y3,Y4]|with_reducible refine X ?_ ?_|refine⟨_,_,_,rfl,?_⟩|refine⟨_,rfl,?_⟩|refine And.intro (by first|omega|trivial|(show _=_;rfl)|(with_reducible constructor)<;>first|omega|trivial|rfl) ?_|refine (zQi hh (by omega) (by omega)) _ _ ?_|refine (zDg O J _ (λx U d hd=>λN Q I=>qp N d _ Q λ_ N1 aa=>Y x U d hd (by have:=ym U;omega) N1 _ λN2 ab ac N3 ae=>I N3 (by omega)) _ _) _ _ ?_|fail
 ·have h:(zK k nm ot n ty re&&(es.length:Int)==zCx k nm)=true:=by assumption
  exact Qb (I _ (by omega)) (by rw [h,Bool.and_true])
 ·have h:(zK k nm ot n ty re&&(es.length:Int)==zCx k nm)=false:=by assumption
  exact Qb (I _ (by omega)) (by rw [h,lE])
theorem zAS (t:Tm) (d:D) (hd:t.Is d) (hc:t.cnt<=1073741824):vl 83 [.dg 9 d] t.ok:=λN Q I=>by
 refine zIQ N _ Q λ_=>?_
 repeat' first|with_reducible intro _|simp only[Y1,Y2,Y3,Y4]|with_reducible refine X ?_ ?_|refine⟨_,_,_,rfl,?_⟩|refine⟨_,rfl,?_⟩|refine And.intro (by first|omega|trivial|(show _=_;rfl)|(with_reducible constructor)<;>first|omega|trivial|rfl) ?_|refine (zMp t d hd hc) _ _ ?_|fail
 exact I _ (by omega)
theorem zKS {k n m:Int} {c1 I J O U Y c8:D} (h:0<=m/\m<=2):rN 158 [.dg 9 (.ag [.j k,c1,I,.j n,J,O,U,Y,c8]),.j m] (zN k m):=λN Q hQ=>by
 refine zDF N _ m Q λ_=>?_
 rw [i64_in (m+1) (by omega),i64_in (m - 1) (by omega)]
 repeat' first|with_reducible intro _|simp only[Y1,Y2,Y3,Y4]|with_reducible refine X ?_ ?_|refine⟨_,_,_,rfl,?_⟩|refine⟨_,rfl,?_⟩|refine And.intro (by first|omega|trivial|(show _=_;rfl)|(with_reducible constructor)<;>first|omega|trivial|rfl) ?_|fail
 all_goals (refine Qi (hQ _ (by omega)) ?_;simp [zN, *])
theorem zCq (d:D) (m:Int):vl 132 [.dg 9 d,.j m] (inB m 0 2):=λN Q I=>by
 refine zB9 N _ m Q λ_=>?_
 repeat' first|with_reducible intro _|simp only[Y1,Y2,Y3,Y4]|with_reducible refine X ?_ ?_|refine⟨_,_,_,rfl,?_⟩|refine⟨_,rfl,?_⟩|refine And.intro (by first|omega|trivial|(show _=_;rfl)|(with_reducible constructor)<;>first|omega|trivial|rfl) ?_|refine (z9 _ _ _) _ _ ?_|fail
 exact I _ (by omega)
theorem zQ0:∀ (t:Tm) (d:D),t.Is d->∀ m:Int,vl 131 [.dg 9 d,.j m,.fn 132 []] (t.lev m):=by
 refine Tm.ind λk nm ot n ty re l ih d hd m N Q hQ=>?_
 obtain ⟨t0,t1,r0,r1,a,es,c,rfl,hh,U,Y⟩:=Tm.is_mk.1 hd
 have hl:=Y.len
 refine zDG N _ m Q λ_=>?_
 cases I:inB m 0 2 with
 | false=>
   repeat' first|with_reducible intro _|simp only[I,Y1,Y2,Y3,Y4]|with_reducible refine X ?_ ?_|refine⟨_,_,_,rfl,?_⟩|refine⟨_,rfl,?_⟩|refine And.intro (by first|omega|trivial|(show _=_;rfl)|(with_reducible constructor)<;>first|omega|trivial|rfl) ?_|refine (zCq _ _) _ _ ?_|fail
   exact Qb (hQ _ (by omega)) (by simp [Tm.lev,I])
 | true=>
   have hb:=yE.1 I
   have key:=up Y U (λi xs=>∀ (N':Nat),N<=N'->(∀ N'',N'<=N''->Q (tE xs (zN k m)) N'')->wx Q N m a es c es.length i (.ag [.j k,.t nm,.t ot,.j n,t0,t1,r0,r1,.sl a 9 es c]) N') ?_ ?_
   ·repeat' first|with_reducible intro _|simp only[I,Y1,Y2,Y3,Y4]|with_reducible refine X ?_ ?_|refine⟨_,_,_,rfl,?_⟩|refine⟨_,rfl,?_⟩|refine And.intro (by first|omega|trivial|(show _=_;rfl)|(with_reducible constructor)<;>first|omega|trivial|rfl) ?_|refine (zCq _ _) _ _ ?_|fail
    exact key _ (by omega) λN'' h=>Qb (hQ N'' (by omega)) (by simp [Tm.lev,I])
   ·intro i aa _ N' ab O
    refine rk _ _ _ _ _ _ _ _ _ _ ?_
    repeat' first|with_reducible intro _|simp only[aa,Y1,Y2,Y3,Y4]|with_reducible refine X ?_ ?_|refine⟨_,_,_,rfl,?_⟩|refine⟨_,rfl,?_⟩|refine And.intro (by first|omega|trivial|(show _=_;rfl)|(with_reducible constructor)<;>first|omega|trivial|rfl) ?_|fail
    exact Qb (O _ (by omega)) (by simp [tE])
   ·intro i x xs J _ ac N' ab O
    have ae:=J.b
    refine rk _ _ _ _ _ _ _ _ _ _ ?_
    repeat' first|with_reducible intro _|simp only[J.lt,J.w,oH,Y1,Y2,Y3,Y4]|with_reducible refine X ?_ ?_|refine⟨_,_,_,rfl,?_⟩|refine⟨_,rfl,?_⟩|refine And.intro (by first|omega|trivial|(show _=_;rfl)|(with_reducible constructor)<;>first|omega|trivial|rfl) ?_|refine (zKS hb) _ _ ?_|refine (ih x J.m _ J.r _) _ _ ?_|fail
    ·refine Qb (O _ (by omega)) ?_;simp [tE, *]
    ·exact ac _ (by omega) λN'' h=>Qb (O N'' (by omega)) (by simp [tE, *])
theorem qC (t:Tm) (d:D) (hd:t.Is d) (hc:t.cnt<=1073741824) (m:Int):vl 87 [.dg 9 d,.j m] (zDU t m):=λN Q I=>by
 refine zE8 N _ m Q λ_=>?_
 repeat' first|with_reducible intro _|simp only[Y1,Y2,Y3,Y4]|with_reducible refine X ?_ ?_|refine⟨_,_,_,rfl,?_⟩|refine⟨_,rfl,?_⟩|refine And.intro (by first|omega|trivial|(show _=_;rfl)|(with_reducible constructor)<;>first|omega|trivial|rfl) ?_|refine (zAS t d hd hc) _ _ ?_|refine (zQ0 t d hd m) _ _ ?_|fail
 all_goals (refine Qb (I _ (by omega)) ?_;simp [zDU, *])
theorem zOu (x:Tg) (d:D) (hd:x.Is d) (hc:x.ty.cnt<=1073741824):vl 129 [.dg 4 d] (!x.ok):=λN Q I=>by
 obtain ⟨t0,t1,rfl,hs,J⟩:=hd
 refine zFp N _ Q λ_=>?_
 repeat' first|with_reducible intro _|simp only[Y1,Y2,Y3,Y4]|with_reducible refine X ?_ ?_|refine⟨_,_,_,rfl,?_⟩|refine⟨_,rfl,?_⟩|refine And.intro (by first|omega|trivial|(show _=_;rfl)|(with_reducible constructor)<;>first|omega|trivial|rfl) ?_|refine (uL _ hs) _ _ ?_|refine (xi _ _ J hc) _ _ ?_|refine (z9 _ _ _) _ _ ?_|fail
 all_goals (refine Qb (I _ (by omega)) ?_;simp [Tg.ok, *])
theorem zJy:∀ l:List Tg,zI3 l=!(l.any λx=>!x.ok)
 | []=>rfl
 | t::I=>by simp only [zI3,ml,zJy I];cases t.ok<;>simp
theorem qM {g:List Tg} {es:List D} (h:Ctx g es) (hc:∀ x∈g,x.ty.cnt<=1073741824) (a:Option Addr) (c:Nat):vl 86 [.sv a 4 es c] (zHW g):=fun N Q hQ=>by
 have hl:=h.all.len
 have hi:rN 153 [.sv a 4 es c,.fn 129 []] (pp (fun x=>!x.ok) g 0):=fun N Q hQ=>by
  refine uM N a es c Q fun _=>?_
  refine up h.all h.len (fun i xs=>∀ (N':Nat),N<=N'->(∀ N'',N'<=N''->Q (pp (fun x=>!x.ok) xs i) N'')->zY Q N a es c es.length i N') ?_ ?_ N (oD _) hQ
  ·intro i hlt _ N' hN' hQ'
   refine xl _ _ _ _ _ _ _ _ ?_
   repeat' first|with_reducible intro _|simp only[hlt,Y1,Y2,Y3,Y4]|with_reducible refine X ?_ ?_|refine⟨_,_,_,rfl,?_⟩|refine⟨_,rfl,?_⟩|refine And.intro (by first|omega|trivial|(show _=_;rfl)|(with_reducible constructor)<;>first|omega|trivial|rfl) ?_|fail
   exact hQ' _ (by omega)
  ·intro i x xs hat _ ih2 N' hN' hQ'
   have hb:=hat.b
   simp only [pp] at hQ'
   refine xl _ _ _ _ _ _ _ _ ?_
   repeat' first|with_reducible intro _|simp only[hat.lt,hat.w,oH,Y1,Y2,Y3,Y4]|with_reducible refine X ?_ ?_|refine⟨_,_,_,rfl,?_⟩|refine⟨_,rfl,?_⟩|refine And.intro (by first|omega|trivial|(show _=_;rfl)|(with_reducible constructor)<;>first|omega|trivial|rfl) ?_|refine (zOu x _ hat.r (hc x hat.m)) _ _ ?_|fail
   all_goals first
    | exact Qi (hQ' _ (by omega)) (by rw [if_pos (by simp [*])])
    | exact ih2 _ (by omega) fun N'' h2=>Qi (hQ' _ (by omega)) (by rw [if_neg (by simp [*])];simp)
 have hcf:vl 128 [.sv a 4 es c,.fn 129 []] (g.any fun x=>!x.ok):=fun N Q hQ=>by
  refine vT N a es c Q fun _=>?_
  repeat' first|with_reducible intro _|simp only[Y1,Y2,Y3,Y4]|with_reducible refine X ?_ ?_|refine⟨_,_,_,rfl,?_⟩|refine⟨_,rfl,?_⟩|refine And.intro (by first|omega|trivial|(show _=_;rfl)|(with_reducible constructor)<;>first|omega|trivial|rfl) ?_|refine hi _ _ ?_|fail
  exact Qb (hQ _ (by omega)) (uG _ g 0 (by omega)).symm
 refine zJ8 N a es c Q fun _=>?_
 repeat' first|with_reducible intro _|simp only[Y1,Y2,Y3,Y4]|with_reducible refine X ?_ ?_|refine⟨_,_,_,rfl,?_⟩|refine⟨_,rfl,?_⟩|refine And.intro (by first|omega|trivial|(show _=_;rfl)|(with_reducible constructor)<;>first|omega|trivial|rfl) ?_|refine hcf _ _ ?_|fail
 ·exact Qb (hQ _ (by omega)) (by have:(g.length:Int)<=12:=by omega
                                 simp [zHW,zJy,this])
 ·exact Qb (hQ _ (by omega)) (by have:¬(g.length:Int)<=12:=by omega
                                 simp [zHW,this])
theorem zCV {g:List Tg} {es:List D} (h:Ctx g es) (a:Option Addr) (c:Nat) (s:ByteArray):rN 160 [.sv a 4 es c,.str s] (yQ g s):=λN Q hQ=>by
 have hl:=h.all.len
 have h1:=h.len
 refine zDv N a es c s Q λ_=>?_
 have key:=zU5 h.all h.len (λm=>∀ (N':Nat),N<=N'->(∀ N'',N'<=N''->Q (ua g s (m+1).toNat) N'')->xt Q N a es c s m N') ?_ ?_
 ·rw [i64_in _ (by omega)]
  exact key N (oD _) λN' J=>Qi (hQ N' J) (by rw [yQ,<-hl];congr 1;omega)
 ·intro N' J I
  refine t3 _ _ _ _ _ _ _ _ ?_
  repeat' first|with_reducible intro _|simp only[Y1,Y2,Y3,Y4]|with_reducible refine X ?_ ?_|refine⟨_,_,_,rfl,?_⟩|refine⟨_,rfl,?_⟩|refine And.intro (by first|omega|trivial|(show _=_;rfl)|(with_reducible constructor)<;>first|omega|trivial|rfl) ?_|fail
  ·omega
  ·exact I _ (by assumption)
 ·intro i x O U hw ih N' J I
  have hb:=O.b
  obtain ⟨t0,t1,hd,hs,ht⟩:=O.r
  have e1:((i:Int)+1).toNat=i+1:=by omega
  have e2:((i:Int) - 1+1).toNat=i:=by omega
  rw [e1] at I
  simp only [ua,zIF O.g] at I
  rw [e2] at ih
  refine t3 _ _ _ _ _ _ _ _ ?_
  repeat' first|with_reducible intro _|simp only[U,hw,oH,hd,Y1,Y2,Y3,Y4]|with_reducible refine X ?_ ?_|refine⟨_,_,_,rfl,?_⟩|refine⟨_,rfl,?_⟩|refine And.intro (by first|omega|trivial|(show _=_;rfl)|(with_reducible constructor)<;>first|omega|trivial|rfl) ?_|fail
  ·rename_i Y _ _;exact Qi (I _ (by omega)) (by rw [if_pos Y])
  ·rename_i Y;exact ih _ (by omega) λN'' h=>Qi (I N'' (by omega)) (by rw [if_neg Y])
theorem zEk:∀ (t:Ty) (d:D),t.Is d->t.cnt<=1073741824->zC6 53 [.dg 2 d] t:=by
 refine Ty.ind λk l ih d hd hc N Q hQ=>?_
 obtain ⟨a,es,c,rfl,Y,aa⟩:=Ty.is_mk.1 hd
 have hl:=aa.len
 simp only [Ty.cnt] at hc
 have al:=zAA l
 refine zEn N _ Q λ_=>⟨_,rfl,_,_,_,rfl,?_⟩
 have key:=up aa Y (λi xs=>∀ (N':Nat),N<=N'->(i=0->vQ Q N a es c es.length i 0 none [] 0 k none [] 0 N')/\∀ (m q:Nat) (r:List D),m=r.length->All2 Ty.Is (l.take i) r->OwnL N N' r ->
  yn Q N a es c es.length i 0 none [] 0 k m q r q N') ?_ ?_
 ·exact (key N (oD _)).1 rfl
 ·intro i ab hi N' ai
  refine ⟨λh0=>sA _ _ _ _ _ _ _ _ _ _ _ _ _ _ _ _ ?_,λm q r hm U ho=>uE _ _ _ _ _ _ _ _ _ _ _ _ _ _ _ _ _ ?_⟩
  ·repeat' first|with_reducible intro _|simp only[ab,Y1,Y2,Y3,Y4]|with_reducible refine X ?_ ?_|refine⟨_,_,_,rfl,?_⟩|refine⟨_,rfl,?_⟩|refine And.intro (by first|omega|trivial|(show _=_;rfl)|(with_reducible constructor)<;>first|omega|trivial|rfl) ?_|fail
   have:l=[]:=oW (by omega)
   subst this
   exact hQ _ _ (by omega) (xP _) yO
  ·repeat' first|with_reducible intro _|simp only[ab,Y1,Y2,Y3,Y4]|with_reducible refine X ?_ ?_|refine⟨_,_,_,rfl,?_⟩|refine⟨_,rfl,?_⟩|refine And.intro (by first|omega|trivial|(show _=_;rfl)|(with_reducible constructor)<;>first|omega|trivial|rfl) ?_|fail
   rename_i a' N3 J hf N4 aj
   rw [oa (by omega)] at U
   exact hQ _ _ (by omega) (Ty.is_mk.2 ⟨_,_,_,rfl,by have:=U.len;omega,U⟩) (sB (zH (yA ((qy ho hf (by omega)).mono (oD _) aj))))
 ·intro i x xs I _ ac N' ai
  have hb:=I.b
  have am:=wQ I.m
  refine ⟨λh0=>sA _ _ _ _ _ _ _ _ _ _ _ _ _ _ _ _ ?_,λm q r hm U ho=>uE _ _ _ _ _ _ _ _ _ _ _ _ _ _ _ _ _ ?_⟩
  ·repeat' first|with_reducible intro _|simp only[I.lt,I.w,oH,Y1,Y2,Y3,Y4]|with_reducible refine X ?_ ?_|refine⟨_,_,_,rfl,?_⟩|refine⟨_,rfl,?_⟩|refine And.intro (by first|omega|trivial|(show _=_;rfl)|(with_reducible constructor)<;>first|omega|trivial|rfl) ?_|refine (ih x I.m _ I.r (by omega)) _ _ ?_|fail
   rename_i N2 ae d' N3 J hx O ak ah
   subst h0
   exact ⟨by unfold zA;simp,λc2=>(ac _ (by omega)).2 _ _ _ rfl (by rw [zX I.g];exact ⟨_,_,rfl,hx,rfl⟩) (yA (O.mono (by omega) (oD _)))⟩
  ·repeat' first|with_reducible intro _|simp only[I.lt,I.w,oH,Y1,Y2,Y3,Y4]|with_reducible refine X ?_ ?_|refine⟨_,_,_,rfl,?_⟩|refine⟨_,rfl,?_⟩|refine And.intro (by first|omega|trivial|(show _=_;rfl)|(with_reducible constructor)<;>first|omega|trivial|rfl) ?_|refine (ih x I.m _ I.r (by omega)) _ _ ?_|fail
   rename_i N2 ae d' N3 J hx O ak ah
   have ao:=U.len
   have aq:(l.take i).length=i:=by rw [ou];omega
   refine ⟨by unfold zA;simp only [oL,mB];omega,λc2=>?_⟩
   exact (ac _ (by omega)).2 _ _ _ rfl (by rw [zX I.g];exact U.snoc hx) (xn (ho.mono (oD _) ae) (yA O) (by omega) J)
theorem zOJ:zC6 161 [] tInt:=λN Q J=>zI2 N Q λN' I=>J _ _ I (xP _) yO
theorem zHq:zC6 162 [] tBool:=λN Q J=>zHF N Q λN' I=>J _ _ I (xP _) yO
theorem zNI (t u:Ty) (d e:D) (hd:t.Is d) (he:u.Is e) (I:t.cnt<=1073741824) (J:u.cnt<=1073741824):zC6 165 [.dg 2 d,.dg 2 e] (uJ t u):=λN Q hQ=>by
 refine zIv N _ _ Q λ_ _=>?_
 repeat' first|with_reducible intro _|simp only[Y1,Y2,Y3,Y4]|with_reducible refine X ?_ ?_|refine⟨_,_,_,rfl,?_⟩|refine⟨_,rfl,?_⟩|refine And.intro (by first|omega|trivial|(show _=_;rfl)|(with_reducible constructor)<;>first|omega|trivial|rfl) ?_|refine (zEk t d hd I) _ _ ?_|refine (zEk u e he J) _ _ ?_|fail
 rename_i N1 O d1 N2 ab h1 o1 ac b1 N3 U d2 N4 Y h2 o2 ae b2 a' N5 ah hf N6 aa
 exact hQ _ _ (by omega) (Ty.is_mk.2 ⟨_,_,_,rfl,by simp,_,_,rfl,h1,_,_,rfl,h2,rfl⟩)
  (sB (zH (yA ((qy (xn ((yA o1).mono O U) (yA o2) (by omega) Y) hf (by omega)).mono (oD _) aa))))
theorem zLe (t:Ty) (d:D) (hd:t.Is d) (I:t.cnt<=1073741824):zC6 180 [.dg 2 d] (qx t):=λN Q U=>by
 refine zIA N _ Q λ_=>?_
 repeat' first|with_reducible intro _|simp only[Y1,Y2,Y3,Y4]|with_reducible refine X ?_ ?_|refine⟨_,_,_,rfl,?_⟩|refine⟨_,rfl,?_⟩|refine And.intro (by first|omega|trivial|(show _=_;rfl)|(with_reducible constructor)<;>first|omega|trivial|rfl) ?_|refine (zEk t d hd I) _ _ ?_|fail
 rename_i N1 J d1 N2 Y h1 o1 aa b1 a' N5 ab hf N6 O
 exact U _ _ (by omega) (Ty.is_mk.2 ⟨_,_,_,rfl,by simp,_,_,rfl,h1,rfl⟩)
  (sB (zH (yA ((qy ((yA o1).mono J (oD _)) hf (by omega)).mono (oD _) O))))
/-- the part of a code type -/
def zCs (t:Ty):Ty:=if t.k=4 then t.as.getD 0 tZero else tZero
theorem zLW (t:Ty) (d:D) (hd:t.Is d) (hv:t.valid=true\/t=tZero):zC6 181 [.dg 2 d] (zCs t):=λN Q I=>by
 cases t with
 | mk k l=>
 obtain ⟨a,es,c,rfl,aa,J⟩:=Ty.is_mk.1 hd
 refine zHx N _ Q λ_=>?_
 by_cases hk:k=4
 ·subst hk
  rcases hv with hv | hv
  ·have hf:=Ty.form_len hv
   have O:=Ty.valid_cnt hv
   have U:(l.length:Int)=1:=by simpa [qw] using hf
   obtain ⟨u,rfl⟩:=zCo (l:=l) (by omega)
   obtain ⟨x0,_,rfl,Y,rfl⟩:=J
   simp only [Ty.cnt,zJ] at O
   have e:zCs (.mk 4 [u])=u:=rfl
   rw [e] at I
   repeat' first|with_reducible intro _|simp only[oJ,oM,Y1,Y2,Y3,Y4]|with_reducible refine X ?_ ?_|refine⟨_,_,_,rfl,?_⟩|refine⟨_,rfl,?_⟩|refine And.intro (by first|omega|trivial|(show _=_;rfl)|(with_reducible constructor)<;>first|omega|trivial|rfl) ?_|refine (zEk u _ Y (by omega)) _ _ ?_|fail
   all_goals first | (exfalso;omega) | skip
   rename_i N1 ab d1 N2 ac h1 o1 U b1 N3 ae
   exact I _ _ (by omega) h1 (o1.mono (by omega) (by omega))
  ·cases hv
 ·have e:zCs (.mk k l)=tZero:=by unfold zCs;exact if_neg hk
  rw [e] at I
  repeat' first|with_reducible intro _|simp only[Y1,Y2,Y3,Y4]|with_reducible refine X ?_ ?_|refine⟨_,_,_,rfl,?_⟩|refine⟨_,rfl,?_⟩|refine And.intro (by first|omega|trivial|(show _=_;rfl)|(with_reducible constructor)<;>first|omega|trivial|rfl) ?_|fail
  all_goals first | (exfalso;omega) | skip
  exact I _ _ (by omega) xN yO
def zB3 (u:Ty):List Ty->Bool
 | []=>true
 | t::I=>tu t u&&zB3 u I
def px (s:ByteArray):Ty:=if s=bytes [61] then tInt else if s=bytes [60] then tInt else if s=bytes [38] then tBool else if s=bytes [124] then tBool else if s=bytes [33] then tBool else tInt
def zCi (s:ByteArray):Ty:=if s=bytes [61] then tBool else if s=bytes [60] then tBool else if s=bytes [38] then tBool else if s=bytes [124] then tBool else if s=bytes [33] then tBool else tInt
theorem zQh {ts:List Ty} {es:List D} (h:All2 Ty.Is ts es) (O:es.length<=4611686018427387904) (a:Option Addr) (c:Nat) (s:ByteArray) :
  zC6 163 [.str s,.sv a 2 es c] (if zB3 (px s) ts then zCi s else tZero):=λN Q U=>by
 have key:∀ (u v:Ty) (d e:D) (N0 N1:Nat),u.Is d->v.Is e->Own N N1 e->N<=N1->px s=u->zCi s=v->zQ Q N a es c es.length (0:Nat) 0 none [] 0 d e N1:=by
  intro u v d e N0 N1 hd he ho ae hu hv
  subst hu hv
  refine up h O (λi xs=>∀ (N':Nat),N1<=N'->zB3 (px s) xs=zB3 (px s) ts->zQ Q N a es c es.length i 0 none [] 0 d e N') ?_ ?_ N1 (oD _) rfl
  ·intro i aa _ N' ab Y
   refine rI _ _ _ _ _ _ _ _ _ _ _ _ _ _ ?_
   rw [<-Y] at U
   repeat' first|with_reducible intro _|simp only[aa,Y1,Y2,Y3,Y4]|with_reducible refine X ?_ ?_|refine⟨_,_,_,rfl,?_⟩|refine⟨_,rfl,?_⟩|refine And.intro (by first|omega|trivial|(show _=_;rfl)|(with_reducible constructor)<;>first|omega|trivial|rfl) ?_|fail
   exact U _ _ (by omega) he (ho.mono (oD _) (by omega))
  ·intro i x xs I _ ac N' ab Y
   have hb:=I.b
   refine rI _ _ _ _ _ _ _ _ _ _ _ _ _ _ ?_
   repeat' first|with_reducible intro _|simp only[I.lt,I.w,oH,Y1,Y2,Y3,Y4]|with_reducible refine X ?_ ?_|refine⟨_,_,_,rfl,?_⟩|refine⟨_,rfl,?_⟩|refine And.intro (by first|omega|trivial|(show _=_;rfl)|(with_reducible constructor)<;>first|omega|trivial|rfl) ?_|refine (zV x _ _ _ I.r hd) _ _ ?_|fail
   ·rename_i J _ _
    rw [<-Y,zB3,J] at U
    exact U _ _ (by omega) xN yO
   ·rename_i J
    exact ac _ (by omega) (by rw [<-Y,zB3,J,m8])
 refine zHL N s a es c Q λ_=>?_
 repeat' first|with_reducible intro _|simp only[Y1,Y2,Y3,Y4]|with_reducible refine X ?_ ?_|refine⟨_,_,_,rfl,?_⟩|refine⟨_,rfl,?_⟩|refine And.intro (by first|omega|trivial|(show _=_;rfl)|(with_reducible constructor)<;>first|omega|trivial|rfl) ?_|refine zOJ _ _ ?_|refine zHq _ _ ?_|fail
 all_goals first
  | exact key tInt tBool _ _ 0 _ (by assumption) (by assumption) (Own.mono (by assumption) (by omega) (by omega)) (by omega) (by unfold px;(repeat' split)<;>first | rfl | contradiction) (by unfold zCi;(repeat' split)<;>first | rfl | contradiction)
  | exact key tBool tBool _ _ 0 _ (by assumption) (by assumption) (Own.mono (by assumption) (by omega) (by omega)) (by omega) (by unfold px;(repeat' split)<;>first | rfl | contradiction) (by unfold zCi;(repeat' split)<;>first | rfl | contradiction)
  | exact key tInt tInt _ _ 0 _ (by assumption) (by assumption) (Own.mono (by assumption) (by omega) (by omega)) (by omega) (by unfold px;(repeat' split)<;>first | rfl | contradiction) (by unfold zCi;(repeat' split)<;>first | rfl | contradiction)
theorem zQ8 {f:FuncId} {rs:List Sh} {args:List PV} {N z c:Nat} {Q:QT rs} {es:List D} (hc:xz prog f=true) (O:PV.sv none z es c∈args) (I:es≠[]):ACalls prog f rs args N Q:=
 ⟨hc,λav w0 _ _ J=>by
  have h:=(J _ O).1.1
  cases h
  exact absurd rfl I⟩
theorem zR8 {g:List Tg} {es:List D} (h:Ctx g es) (hg:g.length<=1073741824) (a:Option Addr) (c:Nat) (N:Nat) (Q:QT [.row 77 4]) (U:∀ Y N',N<=N'->Q es Y N'):ACalls prog 179 [.row 77 4] [.sv a 4 es c] N Q:=by
 have hl:=h.all.len
 have aa:zA [] es 56:=by unfold zA;simp only [oU];omega
 have I:(a=none->es=[])->ACalls prog 179 [.row 77 4] [.sv a 4 es c] N Q:=λhn=>by
  refine rx N a es c Q λ_=>?_
  repeat' first|with_reducible intro _|simp only[Y1,Y2,Y3,Y4]|with_reducible refine X ?_ ?_|refine⟨_,_,_,rfl,?_⟩|refine⟨_,rfl,?_⟩|refine And.intro (by first|omega|trivial|(show _=_;rfl)|(with_reducible constructor)<;>first|omega|trivial|rfl) ?_|fail
  ·rename_i hi N1 O
   have:es=[]:=hn (by simpa using hi)
   subst this
   exact U _ _ O
  ·simp only [oU]
   exact U _ _ (by omega)
 cases a with
 | some ad=>exact I (by simp)
 | none=>
   by_cases J:es=[]
   ·exact I λ_=>J
   ·exact zQ8 (z:=4) (c:=c) (es:=es) (by kernel_rfl) (by simp) J
theorem xJ {a:Option Addr} {z c:Nat} {es:List D}:∀ x∈(D.sl a z es c).foot,x∈zD es\/∃ ad,a=some ad/\x=ad.block:=by
 intro x hx
 cases a with
 | none=>simp only [D.foot] at hx;exact .inl hx
 | some ad=>
   simp only [D.foot] at hx
   split at hx
   ·simp at hx
   ·rcases oG.1 hx with rfl | hx
    ·exact .inr ⟨ad,rfl,rfl⟩
    ·exact .inl hx
theorem zQk {a:Option Addr} {z c:Nat} {es:List D}:∀ x∈zD es,x∈(D.sl a z es c).foot:=by
 intro x I
 cases a with
 | none=>simpa only [D.foot] using I
 | some ad=>
   simp only [D.foot]
   split
   ·rename_i h
    cases es with
    | nil=>simp [zD] at I
    | cons=>simp at h
   ·exact nq _ I
theorem zPN {g h:List Tg} {es fs:List D} (J:Ctx g es) (U:Ctx h fs) (aa:g.length+h.length<=1073741824) (a b:Option Addr) (c e:Nat) (N:Nat) (Q:QT [.sl 4])
  (hQ:∀ O I Y N',N<=N'->Ctx (g++h) I->(∀ x∈(D.sl O 4 I Y).foot,x∈zD es\/x∈zD fs\/N<=x)->Q O I Y N'):ACalls prog 164 [.sl 4] [.sv a 4 es c,.sv b 4 fs e] N Q:=by
 have hl:=J.all.len
 have ab:=U.all.len
 have hb:zA es fs 56:=by unfold zA;simp only [oL];omega
 refine zKh N a es c b fs e Q λ_ _=>?_
 repeat' first|with_reducible intro _|simp only[Y1,Y2,Y3,Y4]|with_reducible refine X ?_ ?_|refine⟨_,_,_,rfl,?_⟩|refine⟨_,rfl,?_⟩|refine And.intro (by first|omega|trivial|(show _=_;rfl)|(with_reducible constructor)<;>first|omega|trivial|rfl) ?_|refine (zR8 J (by omega) _ _) _ _ ?_|fail
 rename_i O N3 ac hf N4 ae
 refine hQ _ _ _ _ (by omega) ⟨by simp;omega,J.all.app U.all⟩ λx hx=>?_
 rcases xJ x hx with h1 | ⟨ad,rfl,rfl⟩
 ·rw [zB] at h1
  rcases oK.1 h1 with h1 | h1
  ·exact .inl h1
  ·exact .inr (.inl h1)
 ·have:=hf.lo ad rfl
  exact .inr (.inr (by omega))
theorem zNu {g:List Tg} {es:List D} (h:Ctx g es) (hg:g.length<=1073741824) (hc:∀ x∈g,x.ty.cnt<=1073741824) (a:Option Addr) (c:Nat) (n:Int) :
  ∀ (N:Nat) (Q:QT [.sl 4]),(∀ a' J c' N',N<=N'->Ctx (tc g n) J->Q a' J c' N')->ACalls prog 182 [.sl 4] [.sv a 4 es c,.j n] N Q:=λN Q hQ=>by
 have hl:=h.all.len
 refine zGC N a es c n Q λ_=>?_
 have key:=up h.all h.len (λi xs=>∀ (r:List D) (m q:Nat) (N':Nat) (done:List Tg),N<=N'->m=r.length->All2 Tg.Is done r->done.length<=i->done++sG g n xs i=tc g n->yJ Q N a es c n m q a es c es.length i r q N') ?_ ?_
 ·exact key [] 0 0 N [] (oD _) rfl rfl (oD _) rfl
 ·intro i Y hi r m q N' done aa hm O ab hd
  refine rH _ _ _ _ _ _ _ _ _ _ _ _ _ _ _ _ ?_
  repeat' first|with_reducible intro _|simp only[Y,Y1,Y2,Y3,Y4]|with_reducible refine X ?_ ?_|refine⟨_,_,_,rfl,?_⟩|refine⟨_,rfl,?_⟩|refine And.intro (by first|omega|trivial|(show _=_;rfl)|(with_reducible constructor)<;>first|omega|trivial|rfl) ?_|fail
  refine hQ _ _ _ _ (by omega) ⟨by have:=O.len;omega,?_⟩
  simp only [sG,nR] at hd
  rwa [<-hd]
 ·intro i x xs I _ U r m q N' done aa hm O ab hd
  have hb:=I.b
  have ae:=O.len
  obtain ⟨t0,t1,he,hs,ht⟩:=I.r
  simp only [sG] at hd
  refine rH _ _ _ _ _ _ _ _ _ _ _ _ _ _ _ _ ?_
  repeat' first|with_reducible intro _|simp only[I.lt,I.w,oH,he,Y1,Y2,Y3,Y4]|with_reducible refine X ?_ ?_|refine⟨_,_,_,rfl,?_⟩|refine⟨_,rfl,?_⟩|refine And.intro (by first|omega|trivial|(show _=_;rfl)|(with_reducible constructor)<;>first|omega|trivial|rfl) ?_|refine (sW _ _ ht) _ _ ?_|refine (zCV h a c _) _ _ ?_|refine (zEk _ _ ht (hc x I.m)) _ _ ?_|fail
  ·rename_i N2 ah x' N3 ai hx ho _ _
   have ac:zEM g n x i=true:=by simp [zEM, *]
   rw [if_pos ac] at hd
   refine ⟨by unfold zA;simp only [oL,mB];omega,λc2=>U _ _ _ _ (done++[x]) (by omega) rfl (O.snoc ⟨_,_,rfl,hs,Ty.is_cells hx⟩) (by simp;omega) (by simpa using hd)⟩
  all_goals (refine U _ _ _ _ done (by omega) hm O (by omega) ?_;rw [<-hd,if_neg (by simp [zEM, *])])
theorem wU {bs:List (Option Addr)} {N N':Nat} {d:D} (J:vI N bs) (O:Own N N' d):Off bs d:=λa U ad I Y=>by
 have:=J a U ad I
 have:=O.lo _ Y
 omega
theorem zIM {a x b:Option Addr} {es fs O:List D} {c U N:Nat} (h1:ApA a fs) (h2:Off [a] (.sl x 4 es c)) (h3:vI N [a]) (h4:∀ y∈(D.sl b 4 O U).foot,y∈zD es\/y∈zD fs\/N<=y):Off [a] (.sl b 4 O U):=λY J ad I hm=>by
 have e:=nG.1 J
 subst e
 rcases h4 _ hm with h | h | h
 ·exact h2 Y J ad I (zQk _ h)
 ·obtain ⟨d,hd,hx⟩:=zL.1 h
  exact h1 ad I d hd hx
 ·have:=h3 Y J ad I
  omega
theorem Ty.valid_k {t:Ty} (h:t.valid=true):t.k=1/\t.as=[]\/t.k=2/\t.as=[]\/(t.k=3/\∃ a b,t.as=[a,b])\/(t.k=4/\∃ a,t.as=[a]):=by
 cases t with
 | mk k l=>
   have I:=Ty.form_len h
   simp only [Ty.k,Ty.as]
   unfold qw at I
   split at I
   ·rename_i hk
    have J:l=[]:=by simpa using I
    rcases hk with hk | hk
    ·exact .inl ⟨hk,J⟩
    ·exact .inr (.inl ⟨hk,J⟩)
   ·split at I
    ·rename_i hk;exact .inr (.inr (.inl ⟨hk,zLp (by simp at I;omega)⟩))
    ·split at I
     ·rename_i hk;exact .inr (.inr (.inr ⟨hk,zCo (by simp at I;omega)⟩))
     ·cases I
theorem Ty.valid_nz {t:Ty} (h:t.valid=true):t.k≠0:=by
 rcases Ty.valid_k h with h | h | h | h<;>omega
theorem zN6 {t:Ty} (h:t.valid=true):tu t tZero=false/\tu tZero t=false:=by
 have I:=Ty.valid_nz h
 cases t with
 | mk k l=>
   have I:k≠0:=I
   have J:0≠k:=λh=>I h.symm
   constructor<;>simp [tu,tZero,I,J]
theorem zPH {t:Ty} (h:t.valid=true):tu t tBool=decide (t.k=2):=by
 have I:=Ty.valid_k h
 cases t with
 | mk k l=>
   simp only [Ty.k,Ty.as] at I
   rw [nz,uI,nT]
   simp only [tBool,Ty.k,Ty.mk.injEq]
   rcases I with ⟨I,J⟩ | ⟨I,J⟩ | ⟨I,_⟩ | ⟨I,_⟩<;>simp [I]
   exact J
theorem zTv {t:Ty} (h:t.valid=true):tu t tInt=decide (t.k=1):=by
 have I:=Ty.valid_k h
 cases t with
 | mk k l=>
   simp only [Ty.k,Ty.as] at I
   rw [nz,uI,nT]
   simp only [tInt,Ty.k,Ty.mk.injEq]
   rcases I with ⟨I,J⟩ | ⟨I,J⟩ | ⟨I,_⟩ | ⟨I,_⟩<;>simp [I]
   exact J
/-- the type of a term, the zero type for none -/
def tyZ (e:Tm) (g:List Tg) (n:Int):Ty:=(e.type g n).getD tZero
theorem zK8 (e:Tm) (g:List Tg) (n:Int):(tyZ e g n).cnt<=30:=zIb e g n
theorem t7 (e:Tm) (g:List Tg) (n:Int):(e.type g n=none/\tyZ e g n=tZero)\/(e.type g n=some (tyZ e g n)/\(tyZ e g n).valid=true):=by
 cases h:e.type g n with
 | none=>exact .inl ⟨rfl,by simp [tyZ,h]⟩
 | some t=>exact .inr ⟨by simp [tyZ,h],by simpa [tyZ,h] using Tm.type_valid h⟩
def IHi (l:List Tm):Prop:=∀ x∈l,∀ d,x.Is d->∀ g es a c n,Pre g x n->Ctx g es->zC6 88 [.sv a 4 es c,.dg 9 d,.j n] (tyZ x g n)
theorem zD6 {k:Int} {nm ot:ByteArray} {m n:Int} {ty re:Ty} {l:List Tm} {t0 t1 r0 r1:D} {I:List D} {a1 a:Option Addr} {c1 c:Nat} {g:List Tg} {es:List D} (hk:zN k n=n) (ih:IHi l) (U:All2 Tm.Is l I) (aa:I.length<=4611686018427387904)
  (pre:Pre g (.mk k nm ot m ty re l) n) (J:Ctx g es) (i:Nat) {x:Tm} (O:l[i]?=some x) (Y b2 b3:Addr) :
  zC6 159 [.j i,.pd Y 0 (.sl a 4 es c),.pd b2 9 (.ag [.j k,.t nm,.t ot,.j m,t0,t1,r0,r1,.sl a1 9 I c1]),.pd b3 0 (.j n)] (tyZ x g n):=λN Q hQ=>by
 have ab:=(oC.1 O).1
 have ac:=U.len
 have hm:=oB O
 have hp:=pre.sub hm (g':=g) (by omega) pre.ty
 rw [hk] at hp
 refine qu N i Y _ b2 _ b3 _ Q ?_
 refine ⟨_,_,_,rfl,_,_,_,rfl,⟨by omega,by omega⟩,_,rfl,?_⟩
 repeat' first|with_reducible intro _|simp only[oH,Y1,Y2,Y3,Y4]|with_reducible refine X ?_ ?_|refine⟨_,_,_,rfl,?_⟩|refine⟨_,rfl,?_⟩|refine And.intro (by first|omega|trivial|(show _=_;rfl)|(with_reducible constructor)<;>first|omega|trivial|rfl) ?_|refine (ih x hm _ (U.get O) g _ _ _ n hp J) _ _ ?_|fail
 exact hQ _ _ (by omega) (by assumption) (Own.mono (by assumption) (by omega) (by omega))
theorem zVE {e0 e1 I:Tm} {g:List Tg} {n:Int} {s:ByteArray}:((match zh [e0,e1,I] g n with | some Y=>y9 5 s Y | none=>none):Option Ty).getD tZero =
  if tu (tyZ e0 g n) tBool&&tu (tyZ e1 g n) (tyZ I g n) then tyZ e1 g n else tZero:=by
 rcases t7 e0 g n with ⟨J,z0⟩ | ⟨J,v0⟩
 ·simp only [zh,J,z0];rfl
 ·rcases t7 e1 g n with ⟨O,z1⟩ | ⟨O,v1⟩
  ·simp only [zh,J,O,z1];split<;>rfl
  ·rcases t7 I g n with ⟨U,z2⟩ | ⟨U,v2⟩
   ·simp only [zh,J,O,U,z2,(zN6 v1).1,lE];rfl
   ·simp only [zh,J,O,U]
    rw [zPH v0]
    show (y9 5 s [tyZ e0 g n,tyZ e1 g n,tyZ I g n]).getD tZero=_
    unfold y9
    rw [if_neg (by omega),if_pos rfl]
    simp only [mM,mm]
    by_cases hc:(tyZ e0 g n).k=2/\tu (tyZ e1 g n) (tyZ I g n)=true
    ·rw [if_pos hc,if_pos (by simp [hc.1,hc.2])];rfl
    ·rw [if_neg hc,if_neg (by simpa using hc)];rfl
theorem zUk {e0 e1:Tm} {g:List Tg} {n:Int} {s:ByteArray}:((match zh [e0,e1] g n with | some Y=>y9 7 s Y | none=>none):Option Ty).getD tZero =
  if (tyZ e0 g n).k=3/\tu ((tyZ e0 g n).as.getD 0 tZero) (tyZ e1 g n) then (tyZ e0 g n).as.getD 1 tZero else tZero:=by
 rcases t7 e0 g n with ⟨J,z0⟩ | ⟨J,v0⟩
 ·simp only [zh,J,z0];rfl
 ·rcases t7 e1 g n with ⟨O,z1⟩ | ⟨O,v1⟩
  ·simp only [zh,J,O,z1]
   rw [if_neg]
   ·rfl
   ·rintro ⟨hk,U⟩
    rcases Ty.valid_k v0 with h | h | ⟨_,a,b,I⟩ | h
    ·omega
    ·omega
    ·rw [I,uI] at U
     simp only [mM] at U
     subst U
     have:(tyZ e0 g n).form=true:=by simp only [Ty.valid,oI] at v0;exact v0.2
     cases hz:tyZ e0 g n with
     | mk k l=>
       rw [hz] at I this
       simp only [Ty.as] at I
       subst I
       simp [Ty.form,ta,qw,tZero] at this
    ·omega
  ·simp only [zh,J,O]
   show (y9 7 s [tyZ e0 g n,tyZ e1 g n]).getD tZero=_
   unfold y9
   rw [if_neg (by omega),if_neg (by omega)]
   simp only [mM,mm]
   split<;>rfl
theorem zU8 {l:List Tm} {g:List Tg} {n:Int} {s:ByteArray} (hs:0<zF6 s):((match zh l g n with | some I=>y9 4 s I | none=>none):Option Ty).getD tZero =
  if zB3 (px s) (l.map λe=>tyZ e g n) then zCi s else tZero:=by
 have h2:zCi s=zDB s/\(px s=tInt/\zJQ s=1\/px s=tBool/\zJQ s=2):=by
  unfold zF6 at hs
  (repeat' split at hs)<;>first | omega | (subst_vars;exact ⟨rfl,.inl ⟨rfl,rfl⟩⟩) | (subst_vars;exact ⟨rfl,.inr ⟨rfl,rfl⟩⟩) | skip
 obtain ⟨h3,J⟩:=h2
 have key:∀ l:List Tm,(∀ I,zh l g n=some I->zB3 (px s) (l.map λe=>tyZ e g n)=zQg (zJQ s) I)/\(zh l g n=none->zB3 (px s) (l.map λe=>tyZ e g n)=false):=by
  intro l
  induction l with
  | nil=>exact ⟨λI h=>by simp [zh] at h;subst h;rfl,λh=>by simp [zh] at h⟩
  | cons e l Y=>
    rcases t7 e g n with ⟨U,z0⟩ | ⟨U,v0⟩
    ·have:tu tZero (px s)=false:=by rcases J with ⟨J,_⟩ | ⟨J,_⟩<;>rw [J]<;>rfl
     refine ⟨λI h=>by simp [zh,U] at h,λ_=>by simp [zB3,z0,this]⟩
    ·have hk:tu (tyZ e g n) (px s)=decide ((tyZ e g n).k=zJQ s):=by
      rcases J with ⟨J,h5⟩ | ⟨J,h5⟩<;>rw [J,h5]
      ·exact zTv v0
      ·exact zPH v0
     cases O:zh l g n with
     | none=>exact ⟨λI h=>by simp [zh,U,O] at h,λ_=>by simp [zB3,Y.2 O]⟩
     | some us=>
       refine ⟨λI h=>?_,λh=>by simp [zh,U,O] at h⟩
       simp only [zh,U,O,nA] at h
       subst h
       simp only [od,zB3,zQg,hk,Y.1 us O]
 cases O:zh l g n with
 | none=>rw [(key l).2 O];rfl
 | some I=>
   rw [(key l).1 I O,h3]
   show (y9 4 s I).getD tZero=_
   unfold y9 zRb
   rw [if_pos rfl]
   split<;>rfl
/-- a node's cells -/
abbrev zFg (k:Int) (nm ot:ByteArray) (m:Int) (t0 t1 r0 r1:D) (a:Option Addr) (es:List D) (c:Nat):D:=.ag [.j k,.t nm,.t ot,.j m,t0,t1,r0,r1,.sl a 9 es c]
theorem f5 {nm ot:ByteArray} {m n:Int} {ty re:Ty} {l:List Tm} {t0 t1 r0 r1:D} {es1:List D} {a1 a:Option Addr} {c1 c:Nat} {g:List Tg} {es:List D} (ih:IHi l) (hh:Tm.Hd nm ot ty re t0 t1 r0 r1) (h0:All2 Tm.Is l es1) (hl1:es1.length<=4611686018427387904)
  (pre:Pre g (.mk 5 nm ot m ty re l) n) (ctx:Ctx g es) :
  zC6 133 [.sv a 4 es c,.dg 9 (zFg 5 nm ot m t0 t1 r0 r1 a1 es1 c1),.j n] ((Tm.raw (.mk 5 nm ot m ty re l) g n).getD tZero):=fun N Q hQ=>by
 have hl : l.length = 3 := by have:(l.length:Int)=3:=(yW pre.ok).ar
                              omega
 obtain ⟨e0,e1,e2,rfl⟩:∃ a b c,l=[a,b,c]:=by
  match l,hl with
  | [a,b,c],_=>exact ⟨a,b,c,rfl⟩
 have hraw:(Tm.raw (.mk 5 nm ot m ty re [e0,e1,e2]) g n).getD tZero=if tu (tyZ e0 g n) tBool&&tu (tyZ e1 g n) (tyZ e2 g n) then tyZ e1 g n else tZero:=by
  rw [<-zVE (s:=nm)]
  simp only [Tm.raw]
  rfl
 rw [hraw] at hQ
 have hn:zN 5 n=n:=by simp [zN]
 refine zT N a es c _ n Q fun _ _=>⟨_,rfl,?_⟩
 repeat' first|with_reducible intro _|simp only[Y1,Y2,Y3,Y4]|with_reducible refine X ?_ ?_|refine⟨_,_,_,rfl,?_⟩|refine⟨_,rfl,?_⟩|refine And.intro (by first|omega|trivial|(show _=_;rfl)|(with_reducible constructor)<;>first|omega|trivial|rfl) ?_|refine (zD6 hn ih h0 hl1 pre ctx 1 rfl _ _ _) _ _ ?_|refine (zD6 hn ih h0 hl1 pre ctx 2 rfl _ _ _) _ _ ?_|refine (zD6 hn ih h0 hl1 pre ctx 0 rfl _ _ _) _ _ ?_|refine zHq _ _ ?_|refine (zV (tyZ e0 g n) tBool _ _ (by assumption) (by assumption)) _ _ ?_|refine (zV (tyZ e1 g n) (tyZ e2 g n) _ _ (by assumption) (by assumption)) _ _ ?_|(((with_reducible refine And.intro ?_ ?_);· exact wU (by assumption) (by assumption)))|fail
 all_goals first | (exfalso;omega) | skip
 all_goals first
  | exact hQ _ _ (by omega) (by rw [if_pos (by simp [*])];assumption) (Own.mono (by assumption) (by omega) (by omega))
  | exact hQ _ _ (by omega) (by rw [if_neg (by simp [*])];exact xN) yO
/-- the type of a call -/
def zOR (I J:Ty):Ty:=if I.k=3/\tu (I.as.getD 0 tZero) J then I.as.getD 1 tZero else tZero
theorem f7 {nm ot:ByteArray} {m n:Int} {ty re:Ty} {l:List Tm} {t0 t1 r0 r1:D} {es1:List D} {a1 a:Option Addr} {c1 c:Nat} {g:List Tg} {es:List D} (ih:IHi l) (hh:Tm.Hd nm ot ty re t0 t1 r0 r1) (h0:All2 Tm.Is l es1) (hl1:es1.length<=4611686018427387904)
  (pre:Pre g (.mk 7 nm ot m ty re l) n) (ctx:Ctx g es) :
  zC6 133 [.sv a 4 es c,.dg 9 (zFg 7 nm ot m t0 t1 r0 r1 a1 es1 c1),.j n] ((Tm.raw (.mk 7 nm ot m ty re l) g n).getD tZero):=fun N Q hQ=>by
 have hl : l.length = 2 := by have:(l.length:Int)=2:=(yW pre.ok).ar
                              omega
 obtain ⟨e0,e1,rfl⟩:=zLp hl
 have hraw:(Tm.raw (.mk 7 nm ot m ty re [e0,e1]) g n).getD tZero=zOR (tyZ e0 g n) (tyZ e1 g n):=by
  unfold zOR
  rw [<-zUk (s:=nm)]
  simp only [Tm.raw]
  rfl
 rw [hraw] at hQ
 have hn:zN 7 n=n:=by simp [zN]
 refine zT N a es c _ n Q fun _ _=>⟨_,rfl,?_⟩
 repeat' first|with_reducible intro _|simp only[Y1,Y2,Y3,Y4]|with_reducible refine X ?_ ?_|refine⟨_,_,_,rfl,?_⟩|refine⟨_,rfl,?_⟩|refine And.intro (by first|omega|trivial|(show _=_;rfl)|(with_reducible constructor)<;>first|omega|trivial|rfl) ?_|refine (zD6 hn ih h0 hl1 pre ctx 0 rfl _ _ _) _ _ ?_|refine (zD6 hn ih h0 hl1 pre ctx 1 rfl _ _ _) _ _ ?_|(((with_reducible refine And.intro ?_ ?_);· exact wU (by assumption) (by assumption)))|fail
 all_goals first | (exfalso;omega) | skip
 rename_i hd0 ho0 _ _ _ _ _ _ _ _ _ _ _ _ _ _ hd1 ho1 _ _
 have hv:=t7 e0 g n
 generalize tyZ e0 g n=z0 at *
 cases z0 with
 | mk k0 l0=>
 obtain ⟨a2,es2,c2,rfl,hl2,he2⟩:=Ty.is_mk.1 hd0
 by_cases hk:k0=3
 ·subst hk
  have hv:(Ty.mk 3 l0).valid=true:=by
   rcases hv with ⟨_,hv⟩ | ⟨_,hv⟩
   ·cases hv
   ·exact hv
  have hcn:=Ty.valid_cnt hv
  rcases Ty.valid_k hv with ⟨hk,_⟩ | ⟨hk,_⟩ | ⟨_,u,v,huv⟩ | ⟨hk,_⟩
  ·cases hk
  ·cases hk
  ·simp only [Ty.as] at huv
   subst huv
   obtain ⟨x0,_,rfl,hx0,x1,_,rfl,hx1,rfl⟩:=he2
   simp only [Ty.cnt,zJ] at hcn
   have q1:tu u (tyZ e1 g n)=true->zOR (.mk 3 [u,v]) (tyZ e1 g n)=v:=fun h=>if_pos ⟨rfl,h⟩
   have q2:tu u (tyZ e1 g n)=false->zOR (.mk 3 [u,v]) (tyZ e1 g n)=tZero:=fun h=>if_neg fun hc=>by rw [show (Ty.mk 3 [u,v]).as.getD 0 tZero=u from rfl,h] at hc;cases hc.2
   repeat' first|with_reducible intro _|simp only[oJ,oM,Y1,Y2,Y3,Y4]|with_reducible refine X ?_ ?_|refine⟨_,_,_,rfl,?_⟩|refine⟨_,rfl,?_⟩|refine And.intro (by first|omega|trivial|(show _=_;rfl)|(with_reducible constructor)<;>first|omega|trivial|rfl) ?_|refine (zV u (tyZ e1 g n) _ _ hx0 hd1) _ _ ?_|refine (zEk v _ hx1 (by omega)) _ _ ?_|fail
   all_goals first | (exfalso;omega) | skip
   all_goals first
    | exact hQ _ _ (by omega) (by rw [q1 (by assumption)];assumption) (Own.mono (by assumption) (by omega) (by omega))
    | exact hQ _ _ (by omega) (by rw [q2 (by assumption)];exact xN) yO
  ·cases hk
 ·repeat' first|with_reducible intro _|simp only[Y1,Y2,Y3,Y4]|with_reducible refine X ?_ ?_|refine⟨_,_,_,rfl,?_⟩|refine⟨_,rfl,?_⟩|refine And.intro (by first|omega|trivial|(show _=_;rfl)|(with_reducible constructor)<;>first|omega|trivial|rfl) ?_|fail
  all_goals first | (exfalso;omega) | skip
  exact hQ _ _ (by omega) (by rw [show zOR (.mk k0 l0) (tyZ e1 g n)=tZero from if_neg fun h=>hk h.1];exact xN) yO
/-- the type of a function of this parameter -/
def zP1 (t z:Ty):Ty:=if z.k=0 then tZero else uJ t z
theorem f6 {nm ot:ByteArray} {m n:Int} {ty re:Ty} {l:List Tm} {t0 t1 r0 r1:D} {es1:List D} {a1 a:Option Addr} {c1 c:Nat} {g:List Tg} {es:List D} (ih:IHi l) (hh:Tm.Hd nm ot ty re t0 t1 r0 r1) (h0:All2 Tm.Is l es1) (hl1:es1.length<=4611686018427387904)
  (pre:Pre g (.mk 6 nm ot m ty re l) n) (ctx:Ctx g es) :
  zC6 133 [.sv a 4 es c,.dg 9 (zFg 6 nm ot m t0 t1 r0 r1 a1 es1 c1),.j n] ((Tm.raw (.mk 6 nm ot m ty re l) g n).getD tZero):=fun N Q hQ=>by
 have hl : l.length = 1 := by have:(l.length:Int)=1:=(yW pre.ok).ar
                              omega
 obtain ⟨e0,rfl⟩:=zCo hl
 obtain ⟨d0,_,rfl,h0,rfl⟩:=h0
 have hlen:=pre.len
 have hpc:1<=(Tm.mk 6 nm ot m ty re [e0]).cnt:=by simp only [Tm.cnt];omega
 have hv:=Ty.valid_cnt ((yW pre.ok).vt (.inl rfl))
 have hp:=pre.sub (x:=e0) (by simp) (g':=g++[⟨nm,ty,n⟩]) (by simp) (rS pre.ty (show ty.cnt<=64 by omega))
 rw [show zN 6 n=n by simp [zN]] at hp
 have hc:=zK8 e0 (g++[⟨nm,ty,n⟩]) n
 have hz:=t7 e0 (g++[⟨nm,ty,n⟩]) n
 have hraw:(Tm.raw (.mk 6 nm ot m ty re [e0]) g n).getD tZero=zP1 ty (tyZ e0 (g++[⟨nm,ty,n⟩]) n):=by
  have:Tm.raw (.mk 6 nm ot m ty re [e0]) g n=(match e0.type (g++[⟨nm,ty,n⟩]) n with | some b=>some (uJ ty b) | none=>none):=by simp only [Tm.raw,vo];rfl
  rw [this]
  unfold zP1
  rcases hz with ⟨h1,h2⟩ | ⟨h1,h2⟩
  ·rw [h1,h2];rfl
  ·rw [h1,if_neg (Ty.valid_nz h2)];rfl
 rw [hraw] at hQ
 have hctx:Ctx [⟨nm,ty,n⟩] [.ag [.t nm,t0,t1,.j n]]:=⟨by simp,_,_,rfl,⟨_,_,rfl,hh.nm,hh.ty⟩,rfl⟩
 refine zT N a es c _ n Q fun _ _=>⟨_,rfl,?_⟩
 repeat' first|with_reducible intro _|simp only[oJ,oM,Y1,Y2,Y3,Y4]|with_reducible refine X ?_ ?_|refine⟨_,_,_,rfl,?_⟩|refine⟨_,rfl,?_⟩|refine And.intro (by first|omega|trivial|(show _=_;rfl)|(with_reducible constructor)<;>first|omega|trivial|rfl) ?_|refine (zPN ctx hctx (by simp;omega) _ _ _ _) _ _ ?_|refine (ih e0 nY d0 h0 (g++[⟨nm,ty,n⟩]) _ _ _ n hp (by assumption)) _ _ ?_|(((with_reducible refine And.intro ?_ ?_);· exact zIM (by assumption) (by assumption) (by assumption) (by assumption)))|fail
 all_goals first | (exfalso;omega) | skip
 rename_i hd0 ho0 _ _
 generalize tyZ e0 (g++[⟨nm,ty,n⟩]) n=z0 at *
 cases z0 with
 | mk k0 l0=>
 have hd1:=hd0
 obtain ⟨a2,es2,c2,rfl,hl2,he2⟩:=Ty.is_mk.1 hd0
 repeat' first|with_reducible intro _|simp only[Y1,Y2,Y3,Y4]|with_reducible refine X ?_ ?_|refine⟨_,_,_,rfl,?_⟩|refine⟨_,rfl,?_⟩|refine And.intro (by first|omega|trivial|(show _=_;rfl)|(with_reducible constructor)<;>first|omega|trivial|rfl) ?_|refine (zNI ty (.mk k0 l0) _ _ hh.ty hd1 (by omega) (by omega)) _ _ ?_|fail
 all_goals first
  | exact hQ _ _ (by omega) (by rw [show zP1 ty (.mk k0 l0)=tZero from if_pos (by assumption)];exact xN) yO
  | exact hQ _ _ (by omega) (by rw [show zP1 ty (.mk k0 l0)=uJ ty (.mk k0 l0) from if_neg (by assumption)];assumption) (Own.mono (by assumption) (by omega) (by omega))
/-- the type of a let whose first part has this type -/
def zPz (e1:Tm) (g:List Tg) (nm:ByteArray) (n:Int) (z:Ty):Ty:=if z.k=0 then tZero else tyZ e1 (g++[⟨nm,z,n⟩]) n
theorem f8 {nm ot:ByteArray} {m n:Int} {ty re:Ty} {l:List Tm} {t0 t1 r0 r1:D} {es1:List D} {a1 a:Option Addr} {c1 c:Nat} {g:List Tg} {es:List D} (ih:IHi l) (hh:Tm.Hd nm ot ty re t0 t1 r0 r1) (h0:All2 Tm.Is l es1) (hl1:es1.length<=4611686018427387904)
  (pre:Pre g (.mk 8 nm ot m ty re l) n) (ctx:Ctx g es) :
  zC6 133 [.sv a 4 es c,.dg 9 (zFg 8 nm ot m t0 t1 r0 r1 a1 es1 c1),.j n] ((Tm.raw (.mk 8 nm ot m ty re l) g n).getD tZero):=fun N Q hQ=>by
 have hl : l.length = 2 := by have:(l.length:Int)=2:=(yW pre.ok).ar
                              omega
 obtain ⟨e0,e1,rfl⟩:=zLp hl
 have hes1:=h0
 obtain ⟨d0,_,rfl,h0,d1,_,rfl,h1,rfl⟩:=h0
 have hlen:=pre.len
 have hpc:1<=(Tm.mk 8 nm ot m ty re [e0,e1]).cnt:=by simp only [Tm.cnt];omega
 have hz:=t7 e0 g n
 have hc:=zK8 e0 g n
 have hraw:(Tm.raw (.mk 8 nm ot m ty re [e0,e1]) g n).getD tZero=zPz e1 g nm n (tyZ e0 g n):=by
  have:Tm.raw (.mk 8 nm ot m ty re [e0,e1]) g n=(match e0.type g n with | some b=>e1.type (g++[⟨nm,b,n⟩]) n | none=>none):=by simp only [Tm.raw,vo];rfl
  rw [this]
  unfold zPz
  rcases hz with ⟨h1,h2⟩ | ⟨h1,h2⟩
  ·rw [h1,h2];rfl
  ·rw [h1,if_neg (Ty.valid_nz h2)];rfl
 rw [hraw] at hQ
 have hn:zN 8 n=n:=by simp [zN]
 refine zT N a es c _ n Q fun _ _=>⟨_,rfl,?_⟩
 repeat' first|with_reducible intro _|simp only[oJ,oM,Y1,Y2,Y3,Y4]|with_reducible refine X ?_ ?_|refine⟨_,_,_,rfl,?_⟩|refine⟨_,rfl,?_⟩|refine And.intro (by first|omega|trivial|(show _=_;rfl)|(with_reducible constructor)<;>first|omega|trivial|rfl) ?_|refine (zD6 hn ih hes1 hl1 pre ctx 0 rfl _ _ _) _ _ ?_|(((with_reducible refine And.intro ?_ ?_);· exact wU (by assumption) (by assumption)))|fail
 all_goals first | (exfalso;omega) | skip
 rename_i hd0 ho0 _ _
 generalize tyZ e0 g n=z0 at *
 cases z0 with
 | mk k0 l0=>
 have hd1:=hd0
 obtain ⟨a2,es2,c2,rfl,hl2,he2⟩:=Ty.is_mk.1 hd0
 by_cases hk:k0=0
 ·have q:zPz e1 g nm n (.mk k0 l0)=tZero:=if_pos hk
  rw [q] at hQ
  repeat' first|with_reducible intro _|simp only[Y1,Y2,Y3,Y4]|with_reducible refine X ?_ ?_|refine⟨_,_,_,rfl,?_⟩|refine⟨_,rfl,?_⟩|refine And.intro (by first|omega|trivial|(show _=_;rfl)|(with_reducible constructor)<;>first|omega|trivial|rfl) ?_|fail
  all_goals first | (exfalso;omega) | exact hQ _ _ (by omega) xN yO
 ·have q:zPz e1 g nm n (.mk k0 l0)=tyZ e1 (g++[⟨nm,.mk k0 l0,n⟩]) n:=if_neg hk
  rw [q] at hQ
  have hp:=pre.sub (x:=e1) (by simp) (g':=g++[⟨nm,.mk k0 l0,n⟩]) (by simp) (rS pre.ty (oR hc (by omega)))
  rw [hn] at hp
  have hctx:Ctx [⟨nm,.mk k0 l0,n⟩] [.ag [.t nm,.j k0,.sl a2 2 es2 c2,.j n]]:=⟨by simp,_,_,rfl,⟨_,_,rfl,hh.nm,hd1⟩,rfl⟩
  repeat' first|with_reducible intro _|simp only[oJ,oM,Y1,Y2,Y3,Y4]|with_reducible refine X ?_ ?_|refine⟨_,_,_,rfl,?_⟩|refine⟨_,rfl,?_⟩|refine And.intro (by first|omega|trivial|(show _=_;rfl)|(with_reducible constructor)<;>first|omega|trivial|rfl) ?_|refine (zPN ctx hctx (by simp;omega) _ _ _ _) _ _ ?_|refine (ih e1 (by simp) d1 h1 (g++[⟨nm,.mk k0 l0,n⟩]) _ _ _ n hp (by assumption)) _ _ ?_|(((with_reducible refine And.intro ?_ ?_);· exact zIM (by assumption) (by assumption) (by assumption) (by assumption)))|fail
  all_goals first | (exfalso;omega) | skip
  exact hQ _ _ (by omega) (by assumption) (Own.mono (by assumption) (by omega) (by omega))
theorem zVD {nm ot:ByteArray} {ty re:Ty} {t0 t1 r0 r1 x:D} (I:Tm.Hd nm ot ty re t0 t1 r0 r1) (J:(uJ ty re).Is x) (n:Int) :
  Ctx [⟨nm,uJ ty re,n⟩,⟨ot,ty,n⟩] [.ag [.t nm,D.cell x 0,D.cell x 1,.j n],.ag [.t ot,t0,t1,.j n]]:=
 ⟨by simp,_,_,rfl,⟨_,_,rfl,I.nm,Ty.is_cells J⟩,_,_,rfl,⟨_,_,rfl,I.ot,I.ty⟩,rfl⟩
theorem f9 {nm ot:ByteArray} {m n:Int} {ty re:Ty} {l:List Tm} {t0 t1 r0 r1:D} {es1:List D} {a1 a:Option Addr} {c1 c:Nat} {g:List Tg} {es:List D} (ih:IHi l) (hh:Tm.Hd nm ot ty re t0 t1 r0 r1) (h0:All2 Tm.Is l es1) (hl1:es1.length<=4611686018427387904)
  (pre:Pre g (.mk 9 nm ot m ty re l) n) (ctx:Ctx g es) :
  zC6 133 [.sv a 4 es c,.dg 9 (zFg 9 nm ot m t0 t1 r0 r1 a1 es1 c1),.j n] ((Tm.raw (.mk 9 nm ot m ty re l) g n).getD tZero):=fun N Q hQ=>by
 have hl : l.length = 1 := by have:(l.length:Int)=1:=(yW pre.ok).ar
                              omega
 obtain ⟨e0,rfl⟩:=zCo hl
 obtain ⟨d0,_,rfl,h0,rfl⟩:=h0
 have hlen:=pre.len
 have hpc:1<=(Tm.mk 9 nm ot m ty re [e0]).cnt:=by simp only [Tm.cnt];omega
 have hv:=Ty.valid_cnt ((yW pre.ok).vt (.inr rfl))
 have hrv:=(yW pre.ok).vr rfl
 have hr:=Ty.valid_cnt hrv
 have hg1:=rS (x:=⟨nm,uJ ty re,n⟩) pre.ty (show (uJ ty re).cnt<=64 by simp only [uJ,Ty.cnt,zJ];omega)
 have hp:=pre.sub (x:=e0) (by simp) (g':=(g++[⟨nm,uJ ty re,n⟩])++[⟨ot,ty,n⟩]) (by simp) (rS hg1 (show ty.cnt<=64 by omega))
 rw [show zN 9 n=n by simp [zN],nh,List.singleton_append] at hp
 have hz:=t7 e0 (g++[⟨nm,uJ ty re,n⟩,⟨ot,ty,n⟩]) n
 have hraw:(Tm.raw (.mk 9 nm ot m ty re [e0]) g n).getD tZero=if tu (tyZ e0 (g++[⟨nm,uJ ty re,n⟩,⟨ot,ty,n⟩]) n) re then uJ ty re else tZero:=by
  have:Tm.raw (.mk 9 nm ot m ty re [e0]) g n=(match e0.type ((g++[⟨nm,uJ ty re,n⟩])++[⟨ot,ty,n⟩]) n with | some b=>if tu b re then some (uJ ty re) else none | none=>none):=by simp only [Tm.raw,vo];rfl
  rw [this,nh,List.singleton_append]
  rcases hz with ⟨h1,h2⟩ | ⟨h1,h2⟩
  ·rw [h1,h2,(zN6 hrv).2];rfl
  ·rw [h1];dsimp only;split<;>rfl
 rw [hraw] at hQ
 refine zT N a es c _ n Q fun _ _=>⟨_,rfl,?_⟩
 repeat' first|with_reducible intro _|simp only[oJ,oM,Y1,Y2,Y3,Y4]|with_reducible refine X ?_ ?_|refine⟨_,_,_,rfl,?_⟩|refine⟨_,rfl,?_⟩|refine And.intro (by first|omega|trivial|(show _=_;rfl)|(with_reducible constructor)<;>first|omega|trivial|rfl) ?_|refine (zNI ty re _ _ hh.ty hh.re (by omega) (by omega)) _ _ ?_|refine (zPN ctx (h:=[⟨nm,uJ ty re,n⟩,⟨ot,ty,n⟩]) (zVD hh (by assumption) n) (by simp;omega) _ _ _ _) _ _ ?_|refine (ih e0 nY d0 h0 (g++[⟨nm,uJ ty re,n⟩,⟨ot,ty,n⟩]) _ _ _ n hp (by assumption)) _ _ ?_|refine (zV (tyZ e0 (g++[⟨nm,uJ ty re,n⟩,⟨ot,ty,n⟩]) n) re _ _ (by assumption) hh.re) _ _ ?_|(((with_reducible refine And.intro ?_ ?_);· exact zIM (by assumption) (by assumption) (by assumption) (by assumption)))|fail
 all_goals first | (exfalso;omega) | skip
 all_goals first
  | exact hQ _ _ (by omega) (by rw [if_pos (by assumption)];assumption) (Own.mono (by assumption) (by omega) (by omega))
  | exact hQ _ _ (by omega) (by rw [if_neg (by simp [*])];exact xN) yO
/-- the type of a stage over a part of this type -/
def stZ (k:Int) (z:Ty):Ty:=if k=10 then (if z.k=0 then tZero else qx z) else if k=13 then (if z.base then qx z else tZero) else zCs z
theorem zTh {k:Int} {e0:Tm} {g:List Tg} {n:Int}:((match e0.type g n with | some t=>yz k t | none=>none):Option Ty).getD tZero=stZ k (tyZ e0 g n):=by
 rcases t7 e0 g n with ⟨I,J⟩ | ⟨I,J⟩
 ·rw [I,J]
  have:stZ k tZero=tZero:=by
   unfold stZ
   split
   ·rfl
   ·split<;>rfl
  exact this.symm
 ·rw [I]
  dsimp only
  have:=Ty.valid_nz J
  unfold stZ yz zCs
  rw [if_neg this]
  (repeat' split)<;>rfl
theorem fS {k:Int} {nm ot:ByteArray} {m n:Int} {ty re:Ty} {l:List Tm} {t0 t1 r0 r1:D} {ab:List D} {a1 a:Option Addr} {c1 c:Nat} {g:List Tg} {es:List D} (hk:k=10\/k=11\/k=12\/k=13) (ih:IHi l) (hh:Tm.Hd nm ot ty re t0 t1 r0 r1) (h0:All2 Tm.Is l ab) (ao:ab.length<=4611686018427387904)
  (pre:Pre g (.mk k nm ot m ty re l) n) (aa:Ctx g es) :
  zC6 166 [.sv a 4 es c,.dg 9 (zFg k nm ot m t0 t1 r0 r1 a1 ab c1),.j n] ((Tm.raw (.mk k nm ot m ty re l) g n).getD tZero):=λN Q U=>by
 have hl:l.length=1:=by
  have aj:=(yW pre.ok).ar
  have:(l.length:Int)=1:=by rw [aj];rcases hk with rfl | rfl | rfl | rfl<;>rfl
  omega
 obtain ⟨e0,rfl⟩:=zCo hl
 obtain ⟨d0,_,rfl,h0,rfl⟩:=h0
 have am:=pre.len
 have aq:=pre.lv
 have ac:=zB6 g n g 0
 have ak:∀ x∈g,x.ty.cnt<=1073741824:=λx hx=>oR (pre.ty x hx) (by omega)
 have ae:(Tm.raw (.mk k nm ot m ty re [e0]) g n).getD tZero=stZ k (tyZ e0 (if k=12 then tc g n else g) (zN k n)):=by
  rw [<-zTh]
  simp only [Tm.raw,vo]
  rw [if_neg (by omega),if_neg (by omega),if_neg (by omega),if_neg (by omega),if_neg (by omega),if_neg (by omega),if_pos hk]
  rfl
 rw [ae] at U
 have hp:=pre.sub (x:=e0) (by simp) (g':=if k=12 then tc g n else g) (by split<;>simp [tc];omega) (by split;exact λy hy=>pre.ty y (ac.1 y hy);exact pre.ty)
 have Y:∀ es a c,Ctx (if k=12 then tc g n else g) es->zC6 88 [.sv a 4 es c,.dg 9 d0,.j (zN k n)] (tyZ e0 (if k=12 then tc g n else g) (zN k n)):=λes a c hc=>ih e0 nY d0 h0 _ es a c _ hp hc
 have hz:=t7 e0 (if k=12 then tc g n else g) (zN k n)
 have au:=zK8 e0 (if k=12 then tc g n else g) (zN k n)
 generalize tyZ e0 (if k=12 then tc g n else g) (zN k n)=z0 at *
 have ah:z0.valid=true\/z0=tZero:=hz.elim (λh=>.inr h.2) λh=>.inl h.2
 refine zDI N a es c _ n Q λ_ _=>⟨_,rfl,?_⟩
 rw [i64_in (n+1) (by omega),i64_in (n - 1) (by omega)]
 cases z0 with
 | mk J O=>
 rcases hk with rfl | rfl | rfl | rfl
 ·have I:=Y es a c aa
  rw [show zN 10 n=n+1 by simp [zN]] at I
  repeat' first|with_reducible intro _|simp only[oJ,oM,Y1,Y2,Y3,Y4]|with_reducible refine X ?_ ?_|refine⟨_,_,_,rfl,?_⟩|refine⟨_,rfl,?_⟩|refine And.intro (by first|omega|trivial|(show _=_;rfl)|(with_reducible constructor)<;>first|omega|trivial|rfl) ?_|refine I _ _ ?_|fail
  all_goals first | (exfalso;omega) | skip
  rename_i ai aw _ _
  have al:=ai
  obtain ⟨a2,ax,c2,rfl,ay,az⟩:=Ty.is_mk.1 ai
  have q:stZ 10 (.mk J O)=if J=0 then tZero else qx (.mk J O):=rfl
  rw [q] at U
  repeat' first|with_reducible intro _|simp only[Y1,Y2,Y3,Y4]|with_reducible refine X ?_ ?_|refine⟨_,_,_,rfl,?_⟩|refine⟨_,rfl,?_⟩|refine And.intro (by first|omega|trivial|(show _=_;rfl)|(with_reducible constructor)<;>first|omega|trivial|rfl) ?_|refine (zLe (.mk J O) _ al (by omega)) _ _ ?_|fail
  all_goals first
   | exact U _ _ (by omega) (by rw [if_neg (by assumption)];assumption) (Own.mono (by assumption) (by omega) (by omega))
   | exact U _ _ (by omega) (by rw [if_pos (by assumption)];exact xN) yO
 ·have I:=Y es a c aa
  rw [show zN 11 n=n - 1 by simp [zN]] at I
  have q:stZ 11 (.mk J O)=zCs (.mk J O):=rfl
  rw [q] at U
  repeat' first|with_reducible intro _|simp only[oJ,oM,Y1,Y2,Y3,Y4]|with_reducible refine X ?_ ?_|refine⟨_,_,_,rfl,?_⟩|refine⟨_,rfl,?_⟩|refine And.intro (by first|omega|trivial|(show _=_;rfl)|(with_reducible constructor)<;>first|omega|trivial|rfl) ?_|refine I _ _ ?_|refine (zLW (.mk J O) _ (by assumption) ah) _ _ ?_|fail
  all_goals first | (exfalso;omega) | skip
  exact U _ _ (by omega) (by assumption) (Own.mono (by assumption) (by omega) (by omega))
 ·rw [if_pos rfl,show zN 12 n=n by simp [zN]] at Y
  have q:stZ 12 (.mk J O)=zCs (.mk J O):=rfl
  rw [q] at U
  repeat' first|with_reducible intro _|simp only[oJ,oM,Y1,Y2,Y3,Y4]|with_reducible refine X ?_ ?_|refine⟨_,_,_,rfl,?_⟩|refine⟨_,rfl,?_⟩|refine And.intro (by first|omega|trivial|(show _=_;rfl)|(with_reducible constructor)<;>first|omega|trivial|rfl) ?_|refine (zNu aa (by omega) ak _ _ n) _ _ ?_|refine (Y _ _ _ (by assumption)) _ _ ?_|refine (zLW (.mk J O) _ (by assumption) ah) _ _ ?_|fail
  all_goals first | (exfalso;omega) | skip
  exact U _ _ (by omega) (by assumption) (Own.mono (by assumption) (by omega) (by omega))
 ·have I:=Y es a c aa
  rw [show zN 13 n=n by simp [zN]] at I
  have q:stZ 13 (.mk J O)=if (Ty.mk J O).base then qx (.mk J O) else tZero:=rfl
  rw [q] at U
  repeat' first|with_reducible intro _|simp only[oJ,oM,Y1,Y2,Y3,Y4]|with_reducible refine X ?_ ?_|refine⟨_,_,_,rfl,?_⟩|refine⟨_,rfl,?_⟩|refine And.intro (by first|omega|trivial|(show _=_;rfl)|(with_reducible constructor)<;>first|omega|trivial|rfl) ?_|refine I _ _ ?_|refine (sW (.mk J O) _ (by assumption)) _ _ ?_|refine (zLe (.mk J O) _ (by assumption) (by omega)) _ _ ?_|fail
  all_goals first | (exfalso;omega) | skip
  all_goals first
   | exact U _ _ (by omega) (by rw [if_pos (by assumption)];assumption) (Own.mono (by assumption) (by omega) (by omega))
   | exact U _ _ (by omega) (by rw [if_neg (by simp [*])];exact xN) yO
theorem f4 {nm ot:ByteArray} {m n:Int} {ty re:Ty} {l:List Tm} {t0 t1 r0 r1:D} {I:List D} {a1 a:Option Addr} {c1 c:Nat} {g:List Tg} {es:List D} (ih:IHi l) (hh:Tm.Hd nm ot ty re t0 t1 r0 r1) (h0:All2 Tm.Is l I) (Y:I.length<=4611686018427387904)
  (pre:Pre g (.mk 4 nm ot m ty re l) n) (ah:Ctx g es) :
  zC6 133 [.sv a 4 es c,.dg 9 (zFg 4 nm ot m t0 t1 r0 r1 a1 I c1),.j n] ((Tm.raw (.mk 4 nm ot m ty re l) g n).getD tZero):=λN Q hQ=>by
 have aa:=pre.len
 have ao:=xK l
 have aq:=h0.len
 simp only [Tm.cnt] at aa
 have ai:0<zF6 nm:=by
  have:=(yW pre.ok).f
  simp only [zK,x9,oI] at this
  have:=this.2.2.2.2.2
  simp at this
  exact this.1
 have ab:(Tm.raw (.mk 4 nm ot m ty re l) g n).getD tZero=if zB3 (px nm) (l.map λe=>tyZ e g n) then zCi nm else tZero:=by
  rw [<-zU8 ai]
  simp only [Tm.raw]
  rfl
 rw [ab] at hQ
 have hn:zN 4 n=n:=by simp [zN]
 have key:ye Q N 0 0 I.length (0:Nat) (zFg 4 nm ot m t0 t1 r0 r1 a1 I c1) 0 none [] 0 a es c n [] 0 N:=by
  refine up h0 Y (λi xs=>∀ (r:List D) (q p:Nat) (N':Nat) (U:List Ty),N<=N'->p=r.length->All2 Ty.Is U r->U.length=i->(∀ b∈zD r,N<=b)->U++(xs.map λe=>tyZ e g n)=(l.map λe=>tyZ e g n) ->
   ye Q N p q I.length i (zFg 4 nm ot m t0 t1 r0 r1 a1 I c1) 0 none [] 0 a es c n r q N') ?_ ?_ [] 0 0 N [] (oD _) rfl rfl rfl (by simp [zD]) rfl
  ·intro i aj hi r q p N' U ak hp hr ac ae J
   have al:=hr.len
   simp only [my,nR] at J
   rw [<-J] at hQ
   refine tN _ _ _ _ _ _ _ _ _ _ _ _ _ _ _ _ _ _ ?_
   repeat' first|with_reducible intro _|simp only[aj,Y1,Y2,Y3,Y4]|with_reducible refine X ?_ ?_|refine⟨_,_,_,rfl,?_⟩|refine⟨_,rfl,?_⟩|refine And.intro (by first|omega|trivial|(show _=_;rfl)|(with_reducible constructor)<;>first|omega|trivial|rfl) ?_|refine (zQh hr (by omega) _ _ nm) _ _ ?_|(((with_reducible refine And.intro ?_ ?_);· exact wU (by assumption) (by assumption)))|fail
   exact hQ _ _ (by omega) (by assumption) (Own.mono (by assumption) (by omega) (by omega))
  ·intro i x xs O _ am r q p N' U ak hp hr ac ae J
   have hb:=O.b
   have al:=hr.len
   refine tN _ _ _ _ _ _ _ _ _ _ _ _ _ _ _ _ _ _ ?_
   repeat' first|with_reducible intro _|simp only[O.lt,O.w,oH,Y1,Y2,Y3,Y4]|with_reducible refine X ?_ ?_|refine⟨_,_,_,rfl,?_⟩|refine⟨_,rfl,?_⟩|refine And.intro (by first|omega|trivial|(show _=_;rfl)|(with_reducible constructor)<;>first|omega|trivial|rfl) ?_|refine (zD6 hn ih h0 Y pre ah i O.g _ _ _) _ _ ?_|(((with_reducible refine And.intro ?_ ?_);· exact wU (by assumption) (by assumption)))|fail
   all_goals first | (exfalso;omega) | skip
   rename_i hd ho _ _
   refine ⟨by unfold zA;simp only [oL,mB];omega,λc2=>am _ _ _ _ (U++[tyZ x g n]) (by omega) rfl (hr.snoc hd) (by simp [ac]) (λb hb=>?_) (by simpa using J)⟩
   rw [zB] at hb
   rcases oK.1 hb with hb | hb
   ·exact ae b hb
   ·simp only [zD,nR] at hb
    have:=ho.lo b hb
    omega
 refine zT N a es c _ n Q λ_ _=>⟨_,rfl,?_⟩
 repeat' first|with_reducible intro _|simp only[Y1,Y2,Y3,Y4]|with_reducible refine X ?_ ?_|refine⟨_,_,_,rfl,?_⟩|refine⟨_,rfl,?_⟩|refine And.intro (by first|omega|trivial|(show _=_;rfl)|(with_reducible constructor)<;>first|omega|trivial|rfl) ?_|fail
 all_goals first | (exfalso;omega) | exact key
theorem f1 {nm ot:ByteArray} {m n:Int} {ty re:Ty} {l:List Tm} {t0 t1 r0 r1:D} {U:List D} {a1 a:Option Addr} {c1 c:Nat} {g:List Tg} {es:List D}
  (pre:Pre g (.mk 1 nm ot m ty re l) n) (I:Ctx g es) :
  zC6 133 [.sv a 4 es c,.dg 9 (zFg 1 nm ot m t0 t1 r0 r1 a1 U c1),.j n] ((Tm.raw (.mk 1 nm ot m ty re l) g n).getD tZero):=λN Q J=>by
 have aa:=I.all.len
 have O:Tm.raw (.mk 1 nm ot m ty re l) g n=qo g nm n:=by simp [Tm.raw]
 rw [O] at J
 refine zT N a es c _ n Q λ_ _=>⟨_,rfl,?_⟩
 rcases zE9 g nm g.length with hlx | hlx
 ·have hlx:yQ g nm = -1:=hlx
  have:qo g nm n=none:=by simp [qo,hlx]
  rw [this] at J
  repeat' first|with_reducible intro _|simp only[hlx,Y1,Y2,Y3,Y4]|with_reducible refine X ?_ ?_|refine⟨_,_,_,rfl,?_⟩|refine⟨_,rfl,?_⟩|refine And.intro (by first|omega|trivial|(show _=_;rfl)|(with_reducible constructor)<;>first|omega|trivial|rfl) ?_|refine (zCV I a c nm) _ _ ?_|fail
  all_goals first | (exfalso;omega) | skip
  exact J _ _ (by omega) xN yO
 ·have hlx:0<=yQ g nm/\yQ g nm<g.length:=hlx
  have hg:g[(yQ g nm).toNat]?=some g[(yQ g nm).toNat]:=oE (by omega)
  have hx:=I.all.get hg
  have Y:g.getD (yQ g nm).toNat tg0=g[(yQ g nm).toNat]:=zIF hg
  obtain ⟨u0,u1,hd,hs,ht⟩:=hx
  have hm:g[(yQ g nm).toNat]∈g:=mD _
  have ab:=pre.ty _ hm
  have:qo g nm n=if g[(yQ g nm).toNat].lv=n then some g[(yQ g nm).toNat].ty else none:=by
   rw [qo,if_neg (by omega),Y]
  rw [this] at J
  generalize g[(yQ g nm).toNat]=x at *
  repeat' first|with_reducible intro _|simp only[hd,Y1,Y2,Y3,Y4]|with_reducible refine X ?_ ?_|refine⟨_,_,_,rfl,?_⟩|refine⟨_,rfl,?_⟩|refine And.intro (by first|omega|trivial|(show _=_;rfl)|(with_reducible constructor)<;>first|omega|trivial|rfl) ?_|refine (zCV I a c nm) _ _ ?_|refine (zEk _ _ ht (by omega)) _ _ ?_|fail
  all_goals first | (exfalso;omega) | skip
  ·rw [if_pos (by assumption)] at J;exact J _ _ (by omega) (by assumption) (Own.mono (by assumption) (by omega) (by omega))
  ·rw [if_neg (by assumption)] at J;exact J _ _ (by omega) xN yO
theorem zMz {e:Tm} {d:D} (he:e.Is d) (Y:match e with | .mk _ _ _ _ _ _ l=>IHi l) {g:List Tg} {es:List D} (a:Option Addr) (c:Nat) {n:Int} (pre:Pre g e n) (O:Ctx g es) :
  zC6 133 [.sv a 4 es c,.dg 9 d,.j n] ((e.raw g n).getD tZero):=by
 cases e with
 | mk k nm ot m ty re l=>
 dsimp only at Y
 obtain ⟨t0,t1,r0,r1,a1,ab,c1,rfl,hh,I,J⟩:=Tm.is_mk.1 he
 have nd:=yW pre.ok
 have ac:=nd.ar
 have aa:=zIp (k:=k) (nm:=nm) (by omega)
 rcases aa with rfl | rfl | rfl | rfl | rfl | rfl | rfl | rfl | rfl | h | h | h | h
 ·exact f1 pre O
 ·intro N Q hQ
  have U:Tm.raw (.mk 2 nm ot m ty re l) g n=some tInt:=by simp [Tm.raw]
  rw [U] at hQ
  refine zT N a es c _ n Q λ_ _=>⟨_,rfl,?_⟩
  repeat' first|with_reducible intro _|simp only[Y1,Y2,Y3,Y4]|with_reducible refine X ?_ ?_|refine⟨_,_,_,rfl,?_⟩|refine⟨_,rfl,?_⟩|refine And.intro (by first|omega|trivial|(show _=_;rfl)|(with_reducible constructor)<;>first|omega|trivial|rfl) ?_|refine zOJ _ _ ?_|fail
  all_goals first | (exfalso;omega) | skip
  exact hQ _ _ (by omega) (by assumption) (Own.mono (by assumption) (by omega) (by omega))
 ·intro N Q hQ
  have U:Tm.raw (.mk 3 nm ot m ty re l) g n=some tBool:=by simp [Tm.raw]
  rw [U] at hQ
  refine zT N a es c _ n Q λ_ _=>⟨_,rfl,?_⟩
  repeat' first|with_reducible intro _|simp only[Y1,Y2,Y3,Y4]|with_reducible refine X ?_ ?_|refine⟨_,_,_,rfl,?_⟩|refine⟨_,rfl,?_⟩|refine And.intro (by first|omega|trivial|(show _=_;rfl)|(with_reducible constructor)<;>first|omega|trivial|rfl) ?_|refine zHq _ _ ?_|fail
  all_goals first | (exfalso;omega) | skip
  exact hQ _ _ (by omega) (by assumption) (Own.mono (by assumption) (by omega) (by omega))
 ·exact f4 Y hh J I pre O
 ·exact f5 Y hh J I pre O
 ·exact f6 Y hh J I pre O
 ·exact f7 Y hh J I pre O
 ·exact f8 Y hh J I pre O
 ·exact f9 Y hh J I pre O
 all_goals
  intro N Q hQ
  have hk:k=10\/k=11\/k=12\/k=13:=by omega
  refine zT N a es c _ n Q λ_ _=>⟨_,rfl,?_⟩
  repeat' first|with_reducible intro _|simp only[Y1,Y2,Y3,Y4]|with_reducible refine X ?_ ?_|refine⟨_,_,_,rfl,?_⟩|refine⟨_,rfl,?_⟩|refine And.intro (by first|omega|trivial|(show _=_;rfl)|(with_reducible constructor)<;>first|omega|trivial|rfl) ?_|refine (fS hk Y hh J I pre O) _ _ ?_|fail
  all_goals first | (exfalso;omega) | skip
  exact hQ _ _ (by omega) (by assumption) (Own.mono (by assumption) (by omega) (by omega))
theorem zSC (e:Tm) (g:List Tg) (n:Int):tyZ e g n=if ((e.raw g n).getD tZero).valid then (e.raw g n).getD tZero else tZero:=by
 rw [tyZ,Tm.type_eq]
 cases e.raw g n with
 | none=>rfl
 | some t=>
   simp only [vld,om]
   split<;>rfl
theorem zSc:∀ (e:Tm),∀ d,e.Is d->∀ g es a c n,Pre g e n->Ctx g es->zC6 88 [.sv a 4 es c,.dg 9 d,.j n] (tyZ e g n):=by
 refine Tm.ind λk nm ot m ty re l O d hd g es a c n pre I N Q J=>?_
 have hs:=zMz hd O a c pre I
 rw [zSC] at J
 have hc:((Tm.raw (.mk k nm ot m ty re l) g n).getD tZero).cnt<=64:=by
  cases h:Tm.raw (.mk k nm ot m ty re l) g n with
  | none=>simp [tZero,Ty.cnt,zJ]
  | some t=>simpa using zN3 pre h
 generalize (Tm.raw (.mk k nm ot m ty re l) g n).getD tZero=z at *
 refine zI7 N a es c _ n Q λ_ _=>?_
 repeat' first|with_reducible intro _|simp only[Y1,Y2,Y3,Y4]|with_reducible refine X ?_ ?_|refine⟨_,_,_,rfl,?_⟩|refine⟨_,rfl,?_⟩|refine And.intro (by first|omega|trivial|(show _=_;rfl)|(with_reducible constructor)<;>first|omega|trivial|rfl) ?_|refine hs _ _ ?_|refine (xi z _ (by assumption) (by omega)) _ _ ?_|fail
 all_goals first
  | exact J _ _ (by omega) (by rw [if_pos (by assumption)];assumption) (Own.mono (by assumption) (by omega) (by omega))
  | exact J _ _ (by omega) (by rw [if_neg (by simp [*])];exact xN) yO
/-- returns this type and true, or the zero type and false, in memory of its own -/
def zUy (f:FuncId) (args:List PV) (o:Option Ty):Prop:=∀ (N:Nat) (Q:QT [.ag 2,.bool]),(∀ d N',N<=N'->(o.getD tZero).Is d->Own N N' d->Q d o.isSome N')->ACalls prog f [.ag 2,.bool] args N Q
theorem zIZ {g:List Tg} {es:List D} (I:Ctx g es) (hg:∀ x∈g,x.ty.cnt<=1073741824) {e:Tm} {d:D} (he:e.Is d) (hc:e.cnt<=1048576000 / 2) (a:Option Addr) (c:Nat) (n:Int) :
  zUy 40 [.sv a 4 es c,.dg 9 d,.j n] (zGJ g e n):=λN Q J=>by
 refine zHN N a es c d n Q λ_ _=>?_
 cases U:zHW g with
 | false=>
   rw [zGJ,if_neg (by simp [U])] at J
   repeat' first|with_reducible intro _|simp only[U,Y1,Y2,Y3,Y4]|with_reducible refine X ?_ ?_|refine⟨_,_,_,rfl,?_⟩|refine⟨_,rfl,?_⟩|refine And.intro (by first|omega|trivial|(show _=_;rfl)|(with_reducible constructor)<;>first|omega|trivial|rfl) ?_|refine (qM I hg a c) _ _ ?_|fail
   exact J _ _ (by omega) xN yO
 | true=>
   cases Y:zDU e n with
   | false=>
     rw [zGJ,if_neg (by simp [Y])] at J
     repeat' first|with_reducible intro _|simp only[U,Y,Y1,Y2,Y3,Y4]|with_reducible refine X ?_ ?_|refine⟨_,_,_,rfl,?_⟩|refine⟨_,rfl,?_⟩|refine And.intro (by first|omega|trivial|(show _=_;rfl)|(with_reducible constructor)<;>first|omega|trivial|rfl) ?_|refine (qM I hg a c) _ _ ?_|refine (qC e d he (by omega) n) _ _ ?_|fail
     exact J _ _ (by omega) xN yO
   | true=>
     rw [zGJ,if_pos ⟨U,Y⟩] at J
     have hz:=t7 e g n
     repeat' first|with_reducible intro _|simp only[U,Y,Y1,Y2,Y3,Y4]|with_reducible refine X ?_ ?_|refine⟨_,_,_,rfl,?_⟩|refine⟨_,rfl,?_⟩|refine And.intro (by first|omega|trivial|(show _=_;rfl)|(with_reducible constructor)<;>first|omega|trivial|rfl) ?_|refine (qM I hg a c) _ _ ?_|refine (qC e d he (by omega) n) _ _ ?_|refine (zSc e d he g es a c n (zTU U Y hc) I) _ _ ?_|fail
     rename_i hd ho _ _
     rcases hz with ⟨h3,h4⟩ | ⟨h3,h4⟩
     ·rw [h3] at J
      rw [h4] at hd
      obtain ⟨a2,aa,c2,rfl,ab,ac⟩:=Ty.is_mk.1 hd
      repeat' first|with_reducible intro _|simp only[Y1,Y2,Y3,Y4]|with_reducible refine X ?_ ?_|refine⟨_,_,_,rfl,?_⟩|refine⟨_,rfl,?_⟩|refine And.intro (by first|omega|trivial|(show _=_;rfl)|(with_reducible constructor)<;>first|omega|trivial|rfl) ?_|fail
      exact J _ _ (by omega) hd (Own.mono (by assumption) (by omega) (by omega))
     ·rw [h3] at J
      have O:=Ty.valid_nz h4
      generalize tyZ e g n=z at *
      cases z with
      | mk k0 l0=>
      have ae:=hd
      obtain ⟨a2,aa,c2,rfl,ab,ac⟩:=Ty.is_mk.1 hd
      repeat' first|with_reducible intro _|simp only[Y1,Y2,Y3,Y4]|with_reducible refine X ?_ ?_|refine⟨_,_,_,rfl,?_⟩|refine⟨_,rfl,?_⟩|refine And.intro (by first|omega|trivial|(show _=_;rfl)|(with_reducible constructor)<;>first|omega|trivial|rfl) ?_|fail
      have O:(bne k0 0)=true:=by simpa [Ty.k] using O
      rw [O]
      exact J _ _ (by omega) ae (Own.mono (by assumption) (by omega) (by omega))
mutual
def Tm.sz:Tm->Nat
 | .mk _ _ _ _ _ _ l=>1+zw l
def zw:List Tm->Nat
 | []=>0
 | t::I=>t.sz+zw I
end
mutual
def Tm.dp:Tm->Nat
 | .mk _ _ _ _ _ _ l=>tf l+1
def tf:List Tm->Nat
 | []=>0
 | t::I=>max t.dp (tf I)
end
mutual
theorem Tm.sz_cnt:∀ t:Tm,t.sz<=t.cnt
 | .mk _ _ _ _ ty re l=>by simp only [Tm.sz,Tm.cnt];have:=zEZ l;omega
theorem zEZ:∀ l:List Tm,zw l<=zR l
 | []=>oD _
 | t::I=>by simp only [zw,zR];have:=t.sz_cnt;have:=zEZ I;omega
end
mutual
theorem Tm.dp_cnt:∀ t:Tm,t.dp<=t.cnt
 | .mk _ _ _ _ ty re l=>by simp only [Tm.dp,Tm.cnt];have:=zA6 l;omega
theorem zA6:∀ l:List Tm,tf l<=zR l
 | []=>oD _
 | t::I=>by simp only [tf,zR];have:=t.dp_cnt;have:=zA6 I;omega
end
/-- one form of a body's nodes -/
def zAT (k:Int):Bool:=inB k 1 5||k==8
mutual
def Tm.isB:Tm->Bool
 | .mk k _ _ _ _ _ l=>zKm l&&zAT k
def zKm:List Tm->Bool
 | []=>true
 | t::I=>t.isB&&zKm I
end
def Tm.vd (t:Tm):Bool:=decide (t.sz<=80)&&decide (t.dp<=20)&&t.ok
theorem zBb:∀ (t:Tm) (d:D),t.Is d->∀ n:Int,0<=n->n<=1000->rN 89 [.dg 9 d,.j n] (if (t.sz:Int)<=n then n - t.sz else -1):=by
 refine Tm.ind λk nm ot n0 ty re l ih d hd n ae ah N Q hQ=>?_
 obtain ⟨t0,t1,r0,r1,a,es,c,rfl,hh,U,Y⟩:=Tm.is_mk.1 hd
 refine zG6 N _ n Q λ_=>?_
 have key:=up Y U (λi xs=>∀ (m:Int) (N':Nat),N<=N' -> -1<=m->m<=1000->(∀ N'',N'<=N''->Q (if m<0 then -1 else if (zw xs:Int)<=m then m - zw xs else -1) N'') ->
  vE Q N m i (.ag [.j k,.t nm,.t ot,.j n0,t0,t1,r0,r1,.sl a 9 es c]) N') ?_ ?_
 ·rw [i64_in _ (by omega)]
  refine key (n - 1) N (oD _) (by omega) (by omega) λN' O=>Qi (hQ N' O) ?_
  simp only [Tm.sz]
  (repeat' split)<;>omega
 ·intro i aa _ m N' O h1 h2 J
  refine ro _ _ _ _ _ _ ?_
  repeat' first|with_reducible intro _|simp only[aa,Y1,Y2,Y3,Y4]|with_reducible refine X ?_ ?_|refine⟨_,_,_,rfl,?_⟩|refine⟨_,rfl,?_⟩|refine And.intro (by first|omega|trivial|(show _=_;rfl)|(with_reducible constructor)<;>first|omega|trivial|rfl) ?_|fail
  refine Qi (J _ (by assumption)) ?_
  simp only [zw]
  (repeat' split)<;>omega
 ·intro i x xs I _ ab m N' O h1 h2 J
  have hb:=I.b
  refine ro _ _ _ _ _ _ ?_
  repeat' first|with_reducible intro _|simp only[I.lt,I.w,oH,Y1,Y2,Y3,Y4]|with_reducible refine X ?_ ?_|refine⟨_,_,_,rfl,?_⟩|refine⟨_,rfl,?_⟩|refine And.intro (by first|omega|trivial|(show _=_;rfl)|(with_reducible constructor)<;>first|omega|trivial|rfl) ?_|refine (ih x I.m _ I.r m (by omega) (by omega)) _ _ ?_|fail
  ·refine ab _ _ (by omega) (by split<;>omega) (by split<;>omega) λN'' ac=>Qi (J N'' (by omega)) ?_
   simp only [zw]
   (repeat' split)<;>omega
  ·refine Qi (J _ (by assumption)) ?_
   rw [if_pos (by omega)]
   omega
theorem zFa:∀ (t:Tm) (d:D),t.Is d->t.cnt<=1073741824->rN 90 [.dg 9 d] t.dp:=by
 refine Tm.ind λk nm ot n0 ty re l ih d hd hc N Q hQ=>?_
 obtain ⟨t0,t1,r0,r1,a,es,c,rfl,hh,J,U⟩:=Tm.is_mk.1 hd
 refine zFz N _ Q λ_=>?_
 simp only [Tm.cnt] at hc
 have ab:=zA6 l
 have key:=up U J (λi xs=>∀ (m:Nat) (N':Nat),N<=N'->max m (tf xs)=tf l->wO Q N (m:Int) i (.ag [.j k,.t nm,.t ot,.j n0,t0,t1,r0,r1,.sl a 9 es c]) N') ?_ ?_
 ·exact key 0 N (oD _) (by omega)
 ·intro i Y _ m N' O hm
  simp only [tf] at hm
  refine sn _ _ _ _ _ _ ?_
  repeat' first|with_reducible intro _|simp only[Y,Y1,Y2,Y3,Y4]|with_reducible refine X ?_ ?_|refine⟨_,_,_,rfl,?_⟩|refine⟨_,rfl,?_⟩|refine And.intro (by first|omega|trivial|(show _=_;rfl)|(with_reducible constructor)<;>first|omega|trivial|rfl) ?_|fail
  rw [i64_in _ (by omega)]
  refine Qi (hQ _ (oR O (by assumption))) ?_
  simp only [Tm.dp]
  omega
 ·intro i x xs I _ aa m N' O hm
  have hb:=I.b
  have ac:=ym I.m
  simp only [tf] at hm
  refine sn _ _ _ _ _ _ ?_
  repeat' first|with_reducible intro _|simp only[I.lt,I.w,oH,Y1,Y2,Y3,Y4]|with_reducible refine X ?_ ?_|refine⟨_,_,_,rfl,?_⟩|refine⟨_,rfl,?_⟩|refine And.intro (by first|omega|trivial|(show _=_;rfl)|(with_reducible constructor)<;>first|omega|trivial|rfl) ?_|refine (ih x I.m _ I.r (by omega)) _ _ ?_|refine (zCa _ _) _ _ ?_|fail
  have e:max (m:Int) (x.dp:Int)=((max m x.dp:Nat):Int):=by omega
  rw [e]
  exact aa _ _ (by omega) (by omega)
theorem zAH (t:Tm) (d:D) (hd:t.Is d) (hc:t.cnt<=1073741824):vl 41 [.dg 9 d] t.vd:=λN Q I=>by
 refine zAQ N _ Q λ_=>?_
 by_cases O:t.sz<=80
 ·have J:((t.sz:Int)<=80):=by omega
  repeat' first|with_reducible intro _|simp only[if_pos J,Y1,Y2,Y3,Y4]|with_reducible refine X ?_ ?_|refine⟨_,_,_,rfl,?_⟩|refine⟨_,rfl,?_⟩|refine And.intro (by first|omega|trivial|(show _=_;rfl)|(with_reducible constructor)<;>first|omega|trivial|rfl) ?_|refine (zBb t d hd _ (by omega) (by omega)) _ _ ?_|refine (zFa t d hd hc) _ _ ?_|refine (zAh t d hd hc) _ _ ?_|fail
  all_goals first | omega | skip
  ·have U:t.dp<=20:=by omega
   refine Qb (I _ (by omega)) ?_;simp [Tm.vd, *]
  ·have U:¬t.dp<=20:=by omega
   refine Qb (I _ (by omega)) ?_;simp [Tm.vd, *]
 ·have J:¬((t.sz:Int)<=80):=by omega
  repeat' first|with_reducible intro _|simp only[if_neg J,Y1,Y2,Y3,Y4]|with_reducible refine X ?_ ?_|refine⟨_,_,_,rfl,?_⟩|refine⟨_,rfl,?_⟩|refine And.intro (by first|omega|trivial|(show _=_;rfl)|(with_reducible constructor)<;>first|omega|trivial|rfl) ?_|refine (zBb t d hd _ (by omega) (by omega)) _ _ ?_|fail
  all_goals first | omega | skip
  refine Qb (I _ (by omega)) ?_;simp [Tm.vd, *]
theorem zIr:∀ (t:Tm) (d:D),t.Is d->vl 42 [.dg 9 d] t.isB:=by
 refine Tm.ind λk nm ot n0 ty re l ih d hd N Q hQ=>?_
 obtain ⟨t0,t1,r0,r1,a,es,c,rfl,hh,O,U⟩:=Tm.is_mk.1 hd
 refine zJw N _ Q λ_=>?_
 have key:=up U O (λi xs=>∀ (N':Nat),N<=N'->(∀ N'',N'<=N''->Q (zKm xs&&zAT k) N'')->vX Q N i (.ag [.j k,.t nm,.t ot,.j n0,t0,t1,r0,r1,.sl a 9 es c]) N') ?_ ?_
 ·exact key N (oD _) hQ
 ·intro i Y _ N' aa J
  refine pF _ _ _ _ _ ?_
  repeat' first|with_reducible intro _|simp only[Y,Y1,Y2,Y3,Y4]|with_reducible refine X ?_ ?_|refine⟨_,_,_,rfl,?_⟩|refine⟨_,rfl,?_⟩|refine And.intro (by first|omega|trivial|(show _=_;rfl)|(with_reducible constructor)<;>first|omega|trivial|rfl) ?_|refine (yk _ _ _) _ _ ?_|fail
  all_goals (refine Qb (J _ (by omega)) ?_;simp [zKm,zAT, *])
 ·intro i x xs I _ ab N' aa J
  have hb:=I.b
  refine pF _ _ _ _ _ ?_
  repeat' first|with_reducible intro _|simp only[I.lt,I.w,oH,Y1,Y2,Y3,Y4]|with_reducible refine X ?_ ?_|refine⟨_,_,_,rfl,?_⟩|refine⟨_,rfl,?_⟩|refine And.intro (by first|omega|trivial|(show _=_;rfl)|(with_reducible constructor)<;>first|omega|trivial|rfl) ?_|refine (ih x I.m _ I.r) _ _ ?_|fail
  ·refine Qb (J _ (by omega)) ?_;simp [zKm, *]
  ·exact ab _ (by omega) λN'' h=>Qb (J N'' (by omega)) (by simp [zKm, *])
theorem yj (l:List ByteArray) (hl:l.length<=4611686018427387904) (a:Option Addr) (c:Nat) (s:ByteArray):rN 61 [.sv a 0 (zC l) c,.str s] (pp (λx=>decide (x=s)) l 0):=λN Q hQ=>by
 have O:=va l
 have U:(zC l).length<=4611686018427387904:=by rw [O.len];exact hl
 refine zF5 N a _ c s Q λ_=>?_
 refine up O U (λi xs=>∀ (N':Nat),N<=N'->(∀ N'',N'<=N''->Q (pp (λx=>decide (x=s)) xs i) N'')->wI Q N a (zC l) c s i N') ?_ ?_ N (oD _) hQ
 ·intro i aa _ N' Y I
  refine s3 _ _ _ _ _ _ _ _ ?_
  repeat' first|with_reducible intro _|simp only[aa,Y1,Y2,Y3,Y4]|with_reducible refine X ?_ ?_|refine⟨_,_,_,rfl,?_⟩|refine⟨_,rfl,?_⟩|refine And.intro (by first|omega|trivial|(show _=_;rfl)|(with_reducible constructor)<;>first|omega|trivial|rfl) ?_|fail
  exact I _ (by omega)
 ·intro i x xs J _ ab N' Y I
  have hb:=J.b
  have hr:=J.r
  simp only [pp] at I
  refine s3 _ _ _ _ _ _ _ _ ?_
  repeat' first|with_reducible intro _|simp only[J.lt,J.w,oH,hr,Y1,Y2,Y3,Y4]|with_reducible refine X ?_ ?_|refine⟨_,_,_,rfl,?_⟩|refine⟨_,rfl,?_⟩|refine And.intro (by first|omega|trivial|(show _=_;rfl)|(with_reducible constructor)<;>first|omega|trivial|rfl) ?_|fail
  ·rename_i h _ _;subst h;exact Qi (I _ (by omega)) (by simp)
  ·rename_i h;exact ab _ Y λN'' h2=>Qi (I _ h2) (by rw [if_neg (by simpa using h)];simp)
/-- the parameters are well formed, behind the names that were seen -/
def zCy:List ByteArray->List Pm->Bool
 | _,[]=>true
 | seen,p::ps=>yb p.nm&&(p.ty.base&&(!(seen.any λx=>decide (x=p.nm))&&zCy (seen++[p.nm]) ps))
def zAo (g:List Pm):Bool:=zCy [] g&&decide (g.length<=5)
theorem vU (l:List ByteArray) (s:ByteArray):zC l++[.t s]=zC (l++[s]):=by simp [zC]
theorem zW (l:List ByteArray):(zC l).length=l.length:=by simp [zC]
theorem rD {g:List Pm} {es:List D} (h:Pms g es) (hg:g.length<=1073741824) (a:Option Addr) (c:Nat):vl 21 [.sv a 4 es c] (zAo g):=λN Q hQ=>by
 have hl:=h.all.len
 refine zCv N a es c Q λ_=>?_
 have key:=up h.all h.len (λi xs=>∀ (seen:List ByteArray) (q:Nat) (N':Nat),N<=N'->seen.length=i->(∀ N'',N'<=N''->Q (zCy seen xs&&decide (g.length<=5)) N'')->xd Q N a es c (zC seen).length q i (zC seen) q N') ?_ ?_
 ·exact key [] 0 N (oD _) rfl hQ
 ·intro i O hi seen q N' U hs I
  refine tL _ _ _ _ _ _ _ _ _ _ _ ?_
  have e:(((zC seen).length:Nat):Int)=(g.length:Int):=by rw [zW];omega
  repeat' first|with_reducible intro _|simp only[O,e,Y1,Y2,Y3,Y4]|with_reducible refine X ?_ ?_|refine⟨_,_,_,rfl,?_⟩|refine⟨_,rfl,?_⟩|refine And.intro (by first|omega|trivial|(show _=_;rfl)|(with_reducible constructor)<;>first|omega|trivial|rfl) ?_|fail
  refine Qb (I _ (by omega)) ?_
  rw [zCy,m8,nz,nT,nT]
  omega
 ·intro i x xs J _ Y seen q N' U hs I
  have hb:=J.b
  have hm:=J.m
  obtain ⟨t0,t1,hd,aa,ab⟩:=J.r
  simp only [zCy] at I
  refine tL _ _ _ _ _ _ _ _ _ _ _ ?_
  repeat' first|with_reducible intro _|simp only[J.lt,J.w,oH,hd,Y1,Y2,Y3,Y4]|with_reducible refine X ?_ ?_|refine⟨_,_,_,rfl,?_⟩|refine⟨_,rfl,?_⟩|refine And.intro (by first|omega|trivial|(show _=_;rfl)|(with_reducible constructor)<;>first|omega|trivial|rfl) ?_|refine (sV x.nm aa) _ _ ?_|refine (sd x.ty _ ab) _ _ ?_|refine (yj seen (by omega) _ _ x.nm) _ _ ?_|fail
  ·refine Qb (I _ (by omega)) ?_;simp [*]
  ·refine Qb (I _ (by omega)) ?_;simp [*]
  ·rename_i hx _ _
   have:=uG (λy=>decide (y=x.nm)) seen 0 (by omega)
   rw [mG hx] at this
   refine Qb (I _ (by omega)) ?_
   rw [<-this];simp
  ·rename_i hx
   have:=uG (λy=>decide (y=x.nm)) seen 0 (by omega)
   rw [mX hx] at this
   refine ⟨by unfold zA;rw [oL,zW];simp only [oJ,oM];omega,λc1=>?_⟩
   rw [vU]
   refine Y (seen++[x.nm]) _ _ (by omega) (by simp [hs]) λN'' h=>Qb (I N'' (by omega)) ?_
   rw [<-this];clear this;simp [*]
def vF (g:List Pm):List Tg:=g.map λp=>⟨p.nm,p.ty,0⟩
theorem uU (g:List Pm):(vF g).length=g.length:=by simp [vF]
theorem zH4 {g:List Pm} {es:List D} (h:Pms g es) (hg:g.length<=1073741824) (a:Option Addr) (c:Nat) (N:Nat) (Q:QT [.sl 4])
  (hQ:∀ a' J c' N',N<=N'->Ctx (vF g) J->Q a' J c' N'):ACalls prog 44 [.sl 4] [.sv a 4 es c] N Q:=by
 have hl:=h.all.len
 refine zAR N a es c Q λ_=>?_
 have key:=up h.all h.len (λi xs=>∀ (done:List D) (q:Nat) (N':Nat),N<=N'->All2 Tg.Is ((vF g).take i) done->done.length=i->xq Q N a es c done.length q i done q N') ?_ ?_
 ·exact key [] 0 N (oD _) rfl rfl
 ·intro i Y hi done q N' O hd hs
  refine wy _ _ _ _ _ _ _ _ _ _ _ ?_
  rw [oa (by rw [uU];omega)] at hd
  repeat' first|with_reducible intro _|simp only[Y,Y1,Y2,Y3,Y4]|with_reducible refine X ?_ ?_|refine⟨_,_,_,rfl,?_⟩|refine⟨_,rfl,?_⟩|refine And.intro (by first|omega|trivial|(show _=_;rfl)|(with_reducible constructor)<;>first|omega|trivial|rfl) ?_|fail
  exact hQ _ _ _ _ (by omega) ⟨by omega,hd⟩
 ·intro i x xs I _ aa done q N' O hd hs
  have hb:=I.b
  have hm:=I.m
  obtain ⟨t0,t1,ab,ac,ae⟩:=I.r
  refine wy _ _ _ _ _ _ _ _ _ _ _ ?_
  have U:(vF g)[i]?=some ⟨x.nm,x.ty,0⟩:=by rw [vF,oF,I.g];rfl
  repeat' first|with_reducible intro _|simp only[I.lt,I.w,oH,ab,Y1,Y2,Y3,Y4]|with_reducible refine X ?_ ?_|refine⟨_,_,_,rfl,?_⟩|refine⟨_,rfl,?_⟩|refine And.intro (by first|omega|trivial|(show _=_;rfl)|(with_reducible constructor)<;>first|omega|trivial|rfl) ?_|fail
  refine ⟨by unfold zA;rw [oL];simp only [oJ,oM];omega,λc1=>?_⟩
  exact aa _ _ _ O (by rw [zX U];exact hd.snoc ⟨_,_,rfl,ac,ae⟩) (by simp [hs])
/-- a body's type, or none -/
def xb (g:List Pm) (e:Tm):Option Ty:=if zAo g=true/\e.vd=true/\e.isB=true then e.type (vF g) 0 else none
theorem zET:∀ {g:List Pm} {seen:List ByteArray} {x:Pm},zCy seen g=true->x∈g->yb x.nm=true/\x.ty.base=true
 | p::ps,seen,x,h,hx=>by
   simp only [zCy,oI] at h
   rcases oG.1 hx with rfl | hx
   ·exact ⟨h.1,h.2.1⟩
   ·exact zET h.2.2.2 hx
theorem zGh {t:Ty} (h:t.base=true):t.valid=true/\t.cnt=1:=by
 cases t with
 | mk k l=>
   simp only [Ty.base,Ty.k,Ty.as,oI,nS,nl] at h
   have I:l=[]:=oW (by omega)
   subst I
   refine ⟨?_,rfl⟩
   simp only [Ty.valid,Ty.cnt,zJ,Ty.dep,tk,Ty.form,ta,qw]
   rcases h.1 with rfl | rfl<;>decide
mutual
theorem zK0:∀ t:Tm,t.isB=true->t.lev 0=true
 | .mk k _ _ _ _ _ l,h=>by
   simp only [Tm.isB,oI,zAT,nS,yE,nl] at h
   have e:zN k 0=0:=by unfold zN;rw [if_neg (by omega),if_neg (by omega)]
   simp only [Tm.lev,e,zMC l h.1,Bool.and_true];decide
theorem zMC:∀ l:List Tm,zKm l=true->tE l 0=true
 | [],_=>rfl
 | t::I,h=>by
   simp only [zKm,oI] at h
   simp only [tE,zK0 t h.1,zMC I h.2,Bool.and_true]
end
theorem zJe {g:List Pm} {x:Tg} (h:x∈vF g):∃ p∈g,x=⟨p.nm,p.ty,0⟩:=by
 obtain ⟨p,I,rfl⟩:=oS.1 h
 exact ⟨p,I,rfl⟩
theorem zQ3 {g:List Pm} {e:Tm} (J:zAo g=true) (O:e.vd=true) (U:e.isB=true) (hc:e.cnt<=536870000):Pre (vF g) e 0:=by
 simp only [zAo,oI,nO] at J
 simp only [Tm.vd,oI] at O
 refine ⟨O.2,zK0 e U,by rw [uU];omega,λx Y=>?_⟩
 obtain ⟨p,I,rfl⟩:=zJe Y
 have:=(zGh (zET J.1 I).2).2
 show p.ty.cnt<=64
 omega
theorem r6 {g:List Pm} {es:List D} (h:Pms g es) (O:g.length<=1073741824) {e:Tm} {d:D} (J:e.Is d) (hc:e.cnt<=536870000) (a:Option Addr) (c:Nat):zTf 10 [.sv a 4 es c,.dg 9 d] (xb g e):=λN Q I=>by
 refine zEs N a es c d Q λ_ _=>?_
 repeat' first|with_reducible intro _|simp only[Y1,Y2,Y3,Y4]|with_reducible refine X ?_ ?_|refine⟨_,_,_,rfl,?_⟩|refine⟨_,rfl,?_⟩|refine And.intro (by first|omega|trivial|(show _=_;rfl)|(with_reducible constructor)<;>first|omega|trivial|rfl) ?_|refine (rD h O a c) _ _ ?_|refine (zAH e d J (by omega)) _ _ ?_|refine (zIr e d J) _ _ ?_|refine (zH4 h O a c) _ _ ?_|fail
 ·rw [show xb g e=none by unfold xb;rw [if_neg (by simp [*])]] at I
  exact I _ _ (by omega) (xP 0)
 ·rw [show xb g e=none by unfold xb;rw [if_neg (by simp [*])]] at I
  exact I _ _ (by omega) (xP 0)
 ·rw [show xb g e=none by unfold xb;rw [if_neg (by simp [*])]] at I
  exact I _ _ (by omega) (xP 0)
 ·have U:zAo g=true:=by assumption
  have Y:e.vd=true:=by assumption
  have hb:e.isB=true:=by assumption
  rw [show xb g e=e.type (vF g) 0 by unfold xb;rw [if_pos ⟨U,Y,hb⟩]] at I
  exact zHK e d J _ _ _ _ _ (zQ3 U Y hb hc) (by assumption) _ _ λx N4 aa hx _ _ N5 ab=>I _ _ (by omega) hx
theorem zG7:∀ (t:Tm) (d:D),t.Is d->t.cnt<=1073741824->rN 84 [.dg 9 d] t.sz:=by
 refine Tm.ind λk nm ot n0 ty re l ih d hd hc N Q hQ=>?_
 obtain ⟨t0,t1,r0,r1,a,es,c,rfl,hh,J,O⟩:=Tm.is_mk.1 hd
 simp only [Tm.cnt] at hc
 have ab:=zEZ l
 refine zHM N _ Q λ_=>⟨_,_,_,rfl,?_⟩
 refine up O J (λi xs=>∀ (m:Nat) (N':Nat),N<=N'->m+zw xs=1+zw l->w8 Q N m a es c es.length i N') ?_ ?_ 1 N (oD _) rfl
 ·intro i U _ m N' Y hm
  refine qG _ _ _ _ _ _ _ _ _ ?_
  simp only [zw] at hm
  repeat' first|with_reducible intro _|simp only[U,Y1,Y2,Y3,Y4]|with_reducible refine X ?_ ?_|refine⟨_,_,_,rfl,?_⟩|refine⟨_,rfl,?_⟩|refine And.intro (by first|omega|trivial|(show _=_;rfl)|(with_reducible constructor)<;>first|omega|trivial|rfl) ?_|fail
  exact Qi (hQ _ (by omega)) (by simp only [Tm.sz];omega)
 ·intro i x xs I _ aa m N' Y hm
  have hb:=I.b
  have ac:=ym I.m
  simp only [zw] at hm
  refine qG _ _ _ _ _ _ _ _ _ ?_
  repeat' first|with_reducible intro _|simp only[I.lt,I.w,oH,Y1,Y2,Y3,Y4]|with_reducible refine X ?_ ?_|refine⟨_,_,_,rfl,?_⟩|refine⟨_,rfl,?_⟩|refine And.intro (by first|omega|trivial|(show _=_;rfl)|(with_reducible constructor)<;>first|omega|trivial|rfl) ?_|refine (ih x I.m _ I.r (by omega)) _ _ ?_|fail
  rw [i64_in _ (by omega)]
  exact aa (m+x.sz) _ (by omega) (by omega)
theorem zFk:∀ (t:Tm) (d:D),t.Is d->t.cnt<=1073741824->rN 85 [.dg 9 d] t.dp:=by
 refine Tm.ind λk nm ot n0 ty re l ih d hd hc N Q hQ=>?_
 obtain ⟨t0,t1,r0,r1,a,es,c,rfl,hh,J,O⟩:=Tm.is_mk.1 hd
 simp only [Tm.cnt] at hc
 have ab:=zA6 l
 refine zF8 N _ Q λ_=>⟨_,_,_,rfl,?_⟩
 refine up O J (λi xs=>∀ (m:Nat) (N':Nat),N<=N'->max m (tf xs)=tf l->wM Q N m a es c es.length i N') ?_ ?_ 0 N (oD _) (by omega)
 ·intro i U _ m N' Y hm
  refine rB _ _ _ _ _ _ _ _ _ ?_
  simp only [tf] at hm
  repeat' first|with_reducible intro _|simp only[U,Y1,Y2,Y3,Y4]|with_reducible refine X ?_ ?_|refine⟨_,_,_,rfl,?_⟩|refine⟨_,rfl,?_⟩|refine And.intro (by first|omega|trivial|(show _=_;rfl)|(with_reducible constructor)<;>first|omega|trivial|rfl) ?_|fail
  rw [i64_in _ (by omega)]
  exact Qi (hQ _ (by omega)) (by simp only [Tm.dp];omega)
 ·intro i x xs I _ aa m N' Y hm
  have hb:=I.b
  have ac:=ym I.m
  simp only [tf] at hm
  refine rB _ _ _ _ _ _ _ _ _ ?_
  repeat' first|with_reducible intro _|simp only[I.lt,I.w,oH,Y1,Y2,Y3,Y4]|with_reducible refine X ?_ ?_|refine⟨_,_,_,rfl,?_⟩|refine⟨_,rfl,?_⟩|refine And.intro (by first|omega|trivial|(show _=_;rfl)|(with_reducible constructor)<;>first|omega|trivial|rfl) ?_|refine (ih x I.m _ I.r (by omega)) _ _ ?_|fail
  have e:(if (x.dp:Int)>(m:Int) then (x.dp:Int) else (m:Int))=((max m x.dp:Nat):Int):=by split<;>omega
  rw [e]
  exact aa (max m x.dp) _ (by omega) (by omega)
theorem zBY (t:Tm) (d:D) (hd:t.Is d) (hc:t.cnt<=1073741824):vl 39 [.dg 9 d] t.vd:=λN Q I=>by
 refine zAN N _ Q λ_=>?_
 repeat' first|with_reducible intro _|simp only[Y1,Y2,Y3,Y4]|with_reducible refine X ?_ ?_|refine⟨_,_,_,rfl,?_⟩|refine⟨_,rfl,?_⟩|refine And.intro (by first|omega|trivial|(show _=_;rfl)|(with_reducible constructor)<;>first|omega|trivial|rfl) ?_|refine (zAS t d hd hc) _ _ ?_|refine (zG7 t d hd hc) _ _ ?_|refine (zFk t d hd hc) _ _ ?_|fail
 ·have J:t.sz<=80:=by omega
  refine Qb (I _ (by omega)) ?_
  have:decide ((t.dp:Int)<=20)=decide (t.dp<=20):=by rw [nz,nT,nT];omega
  simp [Tm.vd, *]
 ·have J:¬t.sz<=80:=by omega
  refine Qb (I _ (by omega)) ?_;simp [Tm.vd, *]
 ·refine Qb (I _ (by omega)) ?_;simp [Tm.vd, *]
theorem zKG (t:Tm) (d:D) (hd:t.Is d):vl 37 [.dg 9 d] (match t with | .mk k _ _ _ _ _ _=>zAT k):=λN Q J=>by
 cases t with
 | mk k nm ot n0 ty re l=>
 obtain ⟨t0,t1,r0,r1,a,es,c,rfl,U,I,O⟩:=Tm.is_mk.1 hd
 refine zB7 N _ Q λ_=>?_
 repeat' first|with_reducible intro _|simp only[Y1,Y2,Y3,Y4]|with_reducible refine X ?_ ?_|refine⟨_,_,_,rfl,?_⟩|refine⟨_,rfl,?_⟩|refine And.intro (by first|omega|trivial|(show _=_;rfl)|(with_reducible constructor)<;>first|omega|trivial|rfl) ?_|refine (z9 _ _ _) _ _ ?_|fail
 all_goals (refine Qb (J _ (by omega)) ?_;simp [zAT, *])
theorem zDP {p:Tm->Bool} {l:List Tm} {es:List D} (h:All2 Tm.Is l es) (O:es.length<=4611686018427387904) (ad:Addr) (hp:∀ x∈l,∀ d,x.Is d->vl 82 [.dg 9 d,.pd ad 0 (.fn 37 [])] (p x)) (a:Option Addr) (c:Nat) :
  vl 81 [.sv a 9 es c,.fn 82 [.pd ad 0 (.fn 37 [])]] (l.any p):=λN Q U=>by
 have hi:rN 126 [.sv a 9 es c,.fn 82 [.pd ad 0 (.fn 37 [])]] (pp p l 0):=λN Q U=>by
  refine uv N a es c ad Q λ_=>?_
  refine up h O (λi xs=>∀ (N':Nat),N<=N'->(∀ N'',N'<=N''->Q (pp p xs i) N'')->zn Q N a es c ad es.length i N') ?_ ?_ N (oD _) U
  ·intro i Y _ N' aa I
   refine x8 _ _ _ _ _ _ _ _ _ ?_
   repeat' first|with_reducible intro _|simp only[Y,Y1,Y2,Y3,Y4]|with_reducible refine X ?_ ?_|refine⟨_,_,_,rfl,?_⟩|refine⟨_,rfl,?_⟩|refine And.intro (by first|omega|trivial|(show _=_;rfl)|(with_reducible constructor)<;>first|omega|trivial|rfl) ?_|fail
   exact I _ (by omega)
  ·intro i x xs J _ ab N' aa I
   have hb:=J.b
   simp only [pp] at I
   refine x8 _ _ _ _ _ _ _ _ _ ?_
   repeat' first|with_reducible intro _|simp only[J.lt,J.w,oH,Y1,Y2,Y3,Y4]|with_reducible refine X ?_ ?_|refine⟨_,_,_,rfl,?_⟩|refine⟨_,rfl,?_⟩|refine And.intro (by first|omega|trivial|(show _=_;rfl)|(with_reducible constructor)<;>first|omega|trivial|rfl) ?_|refine (hp x J.m _ J.r) _ _ ?_|fail
   ·exact Qi (I _ (by omega)) (by rw [if_pos (by assumption)])
   ·rename_i h;exact ab _ (by omega) λN'' h2=>Qi (I _ (by omega)) (by rw [h];simp)
 refine vi N a es c ad Q λ_=>?_
 repeat' first|with_reducible intro _|simp only[Y1,Y2,Y3,Y4]|with_reducible refine X ?_ ?_|refine⟨_,_,_,rfl,?_⟩|refine⟨_,rfl,?_⟩|refine And.intro (by first|omega|trivial|(show _=_;rfl)|(with_reducible constructor)<;>first|omega|trivial|rfl) ?_|refine hi _ _ ?_|fail
 exact Qb (U _ (by omega)) (uG _ l 0 (by omega)).symm
theorem zL3:∀ l:List Tm,zKm l=!(l.any λx=>!x.isB)
 | []=>rfl
 | t::I=>by simp only [zKm,ml,zL3 I];cases t.isB<;>simp
theorem zKy:∀ (t:Tm) (d:D),t.Is d->vl 36 [.dg 9 d,.fn 37 []] t.isB:=by
 refine Tm.ind λk nm ot n ty re l Y d hd N Q J=>?_
 have U:=zKG _ d hd
 obtain ⟨t0,t1,r0,r1,a,es,c,rfl,hh,I,O⟩:=Tm.is_mk.1 hd
 simp only at U
 refine pa N _ Q λ_=>?_
 simp only [Tm.isB,zL3] at J
 repeat' first|with_reducible intro _|simp only[Y1,Y2,Y3,Y4]|with_reducible refine X ?_ ?_|refine⟨_,_,_,rfl,?_⟩|refine⟨_,rfl,?_⟩|refine And.intro (by first|omega|trivial|(show _=_;rfl)|(with_reducible constructor)<;>first|omega|trivial|rfl) ?_|refine U _ _ ?_|refine (zDP O I _ (λx hx d hd=>λN Q J=>r7 N d _ Q λ_ N1 aa=>Y x hx d hd N1 _ λN2 ab ac N3 ae=>J N3 (by omega)) _ _) _ _ ?_|fail
 all_goals (refine Qb (J _ (by omega)) ?_;simp [*])
theorem zFi (l:List ByteArray) (I:l.length<=4611686018427387904) (a:Option Addr) (c:Nat) (s:ByteArray):rN 58 [.sv a 0 (zC l) c,.str s] (pp (λx=>decide (s=x)) l 0):=λN Q J=>by
 refine zFw N a _ c s Q λ_=>?_
 repeat' first|with_reducible intro _|simp only[Y1,Y2,Y3,Y4]|with_reducible refine X ?_ ?_|refine⟨_,_,_,rfl,?_⟩|refine⟨_,rfl,?_⟩|refine And.intro (by first|omega|trivial|(show _=_;rfl)|(with_reducible constructor)<;>first|omega|trivial|rfl) ?_|refine (zFI l I a c s) _ _ ?_|fail
 exact J _ (by omega)
def uz (g:List Pm):List ByteArray:=g.map (·.nm)
theorem zJd (g:List Pm):(uz g).length=g.length:=by simp [uz]
theorem zI9 {g:List Pm} {es:List D} (h:Pms g es) (hg:g.length<=1073741824) (a:Option Addr) (c:Nat) (N:Nat) (Q:QT [.sl 0])
  (hQ:∀ a' c' N',N<=N'->Q a' (zC (uz g)) c' N'):ACalls prog 55 [.sl 0] [.sv a 4 es c] N Q:=by
 have hl:=h.all.len
 refine zCH N a es c Q λ_=>?_
 have key:=up h.all h.len (λi xs=>∀ (q:Nat) (N':Nat),N<=N'->xM Q N (zC ((uz g).take i)).length q a es c es.length i (zC ((uz g).take i)) q N') ?_ ?_
 ·exact key 0 N (oD _)
 ·intro i U hi q N' J
  refine ur _ _ _ _ _ _ _ _ _ _ _ _ ?_
  rw [oa (by rw [zJd];omega)]
  repeat' first|with_reducible intro _|simp only[U,Y1,Y2,Y3,Y4]|with_reducible refine X ?_ ?_|refine⟨_,_,_,rfl,?_⟩|refine⟨_,rfl,?_⟩|refine And.intro (by first|omega|trivial|(show _=_;rfl)|(with_reducible constructor)<;>first|omega|trivial|rfl) ?_|fail
  exact hQ _ _ _ (by omega)
 ·intro i x xs I _ Y q N' J
  have hb:=I.b
  have hm:=I.m
  obtain ⟨t0,t1,aa,ab,ac⟩:=I.r
  refine ur _ _ _ _ _ _ _ _ _ _ _ _ ?_
  have O:(uz g)[i]?=some x.nm:=by rw [uz,oF,I.g];rfl
  repeat' first|with_reducible intro _|simp only[I.lt,I.w,oH,aa,Y1,Y2,Y3,Y4]|with_reducible refine X ?_ ?_|refine⟨_,_,_,rfl,?_⟩|refine⟨_,rfl,?_⟩|refine And.intro (by first|omega|trivial|(show _=_;rfl)|(with_reducible constructor)<;>first|omega|trivial|rfl) ?_|fail
  refine ⟨by unfold zA;rw [oL,zW,ou];simp only [oJ,oM];omega,λc1=>?_⟩
  rw [vU,<-zX O]
  exact Y _ _ J
theorem zGX {α:Type} (p:α->Bool) (s:α) (hs:p s=true) (rest:List α):∀ (seen:List α) (k:Int),(pp p (seen++s::rest) k=k+seen.length↔seen.any p=false)/\pp p (seen++s::rest) k≥k
 | [],k=>by simp [pp,hs]
 | x :: seen,k=>by
   have I:=zGX p s hs rest seen (k+1)
   simp only [nD,pp,ml,oJ]
   cases J:p x with
   | true=>simp;omega
   | false=>
     simp only [mr,nx,Bool.false_or]
     refine ⟨?_,by omega⟩
     rw [<-I.1];constructor<;>intro h<;>omega
theorem zP3 {s:ByteArray} (l:List ByteArray):(l.any λx=>decide (s=x))=l.any λx=>decide (x=s):=by
 induction l with
 | nil=>rfl
 | cons x l I=>simp only [ml,I,eq_comm]
theorem s8 {g:List Pm} {es:List D} (h:Pms g es) (hg:g.length<=1073741824) (a:Option Addr) (c:Nat):vl 20 [.sv a 4 es c] (zAo g):=λN Q hQ=>by
 have hl:=h.all.len
 refine zDN N a es c Q λ_=>?_
 have ao:=zJd g
 have key:=λ(h5:g.length<=5) a3 c3 (N2:Nat) (aq:N<=N2)=>up h.all h.len (λi xs=>∀ (N':Nat),N2<=N'->(∀ N'',N'<=N''->Q (zCy ((uz g).take i) xs) N'')->xY Q N a3 (zC (uz g)) c3 a es c es.length i N') ?_ ?_
 ·repeat' first|with_reducible intro _|simp only[Y1,Y2,Y3,Y4]|with_reducible refine X ?_ ?_|refine⟨_,_,_,rfl,?_⟩|refine⟨_,rfl,?_⟩|refine And.intro (by first|omega|trivial|(show _=_;rfl)|(with_reducible constructor)<;>first|omega|trivial|rfl) ?_|refine (zI9 h hg a c) _ _ ?_|fail
  ·refine Qb (hQ _ (by omega)) ?_
   have:¬g.length<=5:=by omega
   simp [zAo,this]
  ·have h5:g.length<=5:=by omega
   refine key h5 _ _ _ ?_ _ (oD _) λN'' am=>Qb (hQ N'' ?_) ?_
   all_goals first | omega | skip
   simp [zAo,h5]
 ·intro i aa hi N' ae I
  refine tR _ _ _ _ _ _ _ _ _ _ _ ?_
  repeat' first|with_reducible intro _|simp only[aa,Y1,Y2,Y3,Y4]|with_reducible refine X ?_ ?_|refine⟨_,_,_,rfl,?_⟩|refine⟨_,rfl,?_⟩|refine And.intro (by first|omega|trivial|(show _=_;rfl)|(with_reducible constructor)<;>first|omega|trivial|rfl) ?_|fail
  refine Qb (I _ (by omega)) ?_
  simp [zCy]
 ·intro i x xs J _ ah N' ae I
  have hb:=J.b
  have hm:=J.m
  obtain ⟨t0,t1,ai,aj,ak⟩:=J.r
  simp only [zCy] at I
  have O:(uz g)[i]?=some x.nm:=by rw [uz,oF,J.g];rfl
  have U:=(zGX (λy=>decide (x.nm=y)) x.nm (by simp) ((uz g).drop (i+1)) ((uz g).take i) 0).1
  have ab:(uz g).take i++x.nm::(uz g).drop (i+1)=uz g:=by
   have aa:i<(uz g).length:=(oC.1 O).1
   have:=(oC.1 O).2
   rw [<-this,ms,nZ]
  rw [ab,ou,zP3] at U
  have ac:min i (uz g).length=i:=by omega
  rw [ac] at U
  refine tR _ _ _ _ _ _ _ _ _ _ _ ?_
  repeat' first|with_reducible intro _|simp only[J.lt,J.w,oH,ai,Y1,Y2,Y3,Y4]|with_reducible refine X ?_ ?_|refine⟨_,_,_,rfl,?_⟩|refine⟨_,rfl,?_⟩|refine And.intro (by first|omega|trivial|(show _=_;rfl)|(with_reducible constructor)<;>first|omega|trivial|rfl) ?_|refine (uL x.nm aj) _ _ ?_|refine (sW x.ty _ ak) _ _ ?_|refine (zFi (uz g) (by omega) _ _ x.nm) _ _ ?_|fail
  ·refine Qb (I _ (by omega)) ?_;simp [*]
  ·refine Qb (I _ (by omega)) ?_;simp [*]
  ·rename_i hx _ _
   have Y:¬((uz g).take i).any (λy=>decide (y=x.nm))=false:=λhc=>by have:=U.2 hc;omega
   have al:((uz g).take i).any (λy=>decide (y=x.nm))=true:=by simpa using Y
   refine Qb (I _ (by omega)) ?_
   rw [al];simp
  ·rename_i hx
   have Y:((uz g).take i).any (λy=>decide (y=x.nm))=false:=U.1 (by omega)
   refine ah _ (by omega) λN'' h2=>Qb (I N'' (by omega)) ?_
   rw [Y,zX O];simp [*]
theorem zLb {N N' M:Nat} {a:Option Addr} {d:D} (O:vI M [a]) (h:Own N N' d) (U:M<=N):Off [a] d:=λb I ad J hc=>by
 have:=h.lo _ hc
 have:=O b I ad J
 omega
theorem zP4 {g:List Pm} (J:zAo g=true):zHW (vF g)=true:=by
 simp only [zAo,oI,nO] at J
 simp only [zHW,oI,nO,uU]
 refine ⟨?_,by omega⟩
 have:∀ l:List Pm,(∀ x∈l,yb x.nm=true/\x.ty.base=true)->zI3 (vF l)=true:=by
  intro l
  induction l with
  | nil=>intro _;rfl
  | cons p l Y=>
    intro h
    have O:=h p (by simp)
    have U:=Y λx I=>h x (by simp [I])
    simp only [vF] at U
    simp only [vF,od,zI3,Tg.ok,oI,U,and_true]
    exact ⟨O.1,(zGh O.2).1,by decide⟩
 exact this g λx I=>zET J.1 I
theorem zOS {g:List Pm} {e:Tm} (J:zAo g=true) (O:e.vd=true) (U:e.isB=true):xb g e=zGJ (vF g) e 0:=by
 have I:=O
 simp only [Tm.vd,oI] at I
 rw [xb,if_pos ⟨J,O,U⟩,zGJ,if_pos ⟨zP4 J,by simp [zDU,I.2,zK0 e U]⟩]
theorem rO {g:List Pm} {es:List D} (h:Pms g es) (hg:g.length<=1073741824) (ab:∀ x∈g,x.ty.cnt<=1073741824) {e:Tm} {d:D} (he:e.Is d) (hc:e.cnt<=1048576000 / 2) (a:Option Addr) (c:Nat):zUy 9 [.sv a 4 es c,.dg 9 d] (xb g e):=λN Q J=>by
 have hl:=h.all.len
 refine zEP N a es c d Q λ_ _=>?_
 have key:=λ(hp:zAo g=true) (hv:e.vd=true) (hb:e.isB=true)=>up h.all h.len (λi xs=>∀ (done:List D) (q:Nat) (N':Nat),N<=N'->All2 Tg.Is ((vF g).take i) done->done.length=i->xr Q N done.length q a es c es.length i d 0 none [] 0 done q N') ?_ ?_
 ·repeat' first|with_reducible intro _|simp only[Y1,Y2,Y3,Y4]|with_reducible refine X ?_ ?_|refine⟨_,_,_,rfl,?_⟩|refine⟨_,rfl,?_⟩|refine And.intro (by first|omega|trivial|(show _=_;rfl)|(with_reducible constructor)<;>first|omega|trivial|rfl) ?_|refine (zKy e d he) _ _ ?_|refine (s8 h hg a c) _ _ ?_|refine (zBY e d he (by omega)) _ _ ?_|fail
  ·rw [show xb g e=none by unfold xb;rw [if_neg (by simp [*])]] at J
   exact J _ _ (by omega) (xP 0) yO
  ·rw [show xb g e=none by unfold xb;rw [if_neg (by simp [*])]] at J
   exact J _ _ (by omega) (xP 0) yO
  ·rw [show xb g e=none by unfold xb;rw [if_neg (by simp [*])]] at J
   exact J _ _ (by omega) (xP 0) yO
  ·exact key (by assumption) (by assumption) (by assumption) [] 0 _ (by omega) rfl rfl
 ·intro i ac hi done q N' O hd hs
  refine sE _ _ _ _ _ _ _ _ _ _ _ _ _ _ _ _ _ ?_
  rw [oa (by rw [uU];omega)] at hd
  rw [zOS hp hv hb] at J
  have ae:∀ x∈vF g,x.ty.cnt<=1073741824:=λx hx=>by obtain ⟨p,ah,rfl⟩:=zJe hx;exact ab p ah
  repeat' first|with_reducible intro _|simp only[ac,Y1,Y2,Y3,Y4]|with_reducible refine X ?_ ?_|refine⟨_,_,_,rfl,?_⟩|refine⟨_,rfl,?_⟩|refine And.intro (by first|omega|trivial|(show _=_;rfl)|(with_reducible constructor)<;>first|omega|trivial|rfl) ?_|fail
  rename_i ad ao aq N1 au U
  refine zIZ ⟨by omega,hd⟩ ae he hc ad q 0 N1 _ λx N2 aw hx Y _=>?_
  exact ⟨zLb U Y (oD _),λ_ N3 ai=>J _ _ (by omega) hx (Y.mono (by omega) ai)⟩
 ·intro i x xs I _ aj done q N' O hd hs
  have hb:=I.b
  have hm:=I.m
  obtain ⟨t0,t1,ak,al,am⟩:=I.r
  refine sE _ _ _ _ _ _ _ _ _ _ _ _ _ _ _ _ _ ?_
  have aa:(vF g)[i]?=some ⟨x.nm,x.ty,0⟩:=by rw [vF,oF,I.g];rfl
  repeat' first|with_reducible intro _|simp only[I.lt,I.w,oH,ak,Y1,Y2,Y3,Y4]|with_reducible refine X ?_ ?_|refine⟨_,_,_,rfl,?_⟩|refine⟨_,rfl,?_⟩|refine And.intro (by first|omega|trivial|(show _=_;rfl)|(with_reducible constructor)<;>first|omega|trivial|rfl) ?_|fail
  refine ⟨by unfold zA;rw [oL];simp only [oJ,oM];omega,λc1=>?_⟩
  exact aj _ _ _ O (by rw [zX aa];exact hd.snoc ⟨_,_,rfl,al,am⟩) (by simp [hs])
end Go.Proofs.YtlahkdflngobiaaGreat
