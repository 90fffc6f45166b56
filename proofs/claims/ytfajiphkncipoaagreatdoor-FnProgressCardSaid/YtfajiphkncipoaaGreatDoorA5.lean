/- Parameters: what they are; the laws' sizes, copies, equality and marks on them. -/
import Derived.Test.YtfajiphkncipoaaGreatDoorA4
import Derived.Test.YtfajiphkncipoaaGreatDoorA3
import Derived.Test.YtfajiphkncipoaaGreatDoorKi
set_option linter.unusedVariables false
set_option linter.unusedSimpArgs false
namespace Go.Proofs.YtfajiphkncipoaaGreatDoor
open Go Go.Proofs Go.Proofs.Tryz Go.IntWalk
structure Pm where
 nm:ByteArray
 ty:Ty
 dy:Bool
def Pm.Is (g:Pm) (d:D):Prop:=∃ t0 t1,d=.ag [.t g.nm,t0,t1,.lit (.bool g.dy)]/\g.nm.size<=4611686018427387904/\g.ty.Is (.ag [t0,t1])
theorem xP (n a b:Int):uX 43 [.j n,.j a,.j b] (inB n a b):=λN Q I=>by
 refine zHP N n a b Q ?_
 repeat' first|with_reducible intro _|simp only[Y1,Y2,Y3,Y4]|with_reducible refine X ?_ ?_|refine⟨_,_,_,rfl,?_⟩|refine⟨_,rfl,?_⟩|refine And.intro (by first|omega|trivial|(show _=_;rfl)|(with_reducible constructor)<;>first|omega|trivial|rfl) ?_|fail
 all_goals simpa [inB, *] using I _ (by omega)
def zBl {α:Type} (p:α->Bool):List α->Int->Int
 | [],_ => -1
 | x::xs,i=>if p x then i else zBl p xs (i+1)
theorem pT {α:Type} (p:α->Bool):∀ (l:List α) (i:Int),0<=i->decide (zBl p l i≥0)=l.any p
 | [],i,h=>by simp [zBl]
 | x::xs,i,h=>by
   have I:=pT p xs (i+1) (by omega)
   rw [mM,mG] at I ⊢
   simp only [zBl,List.any_cons,mf]
   by_cases J:p x=true
   ·simp only [J,mm,true_or,iff_true];exact h
   ·simpa [J] using I
/-- a row of words -/
def zA (l:List ByteArray):List D:=l.map λs=>.t s
theorem yu:∀ l:List ByteArray,All2 (λs d=>d=.t s) l (zA l)
 | []=>rfl
 | s::l=>⟨_,_,rfl,rfl,yu l⟩
theorem zJ5 (l:List ByteArray) (hl:l.length<=4611686018427387904) (a:Option Addr) (c:Nat) (s:ByteArray):zBs 172 [.sv a 0 (zA l) c,.str s] (zBl (λx=>decide (s=x)) l 0):=λN Q hQ=>by
 have O:=yu l
 have U:(zA l).length<=4611686018427387904:=by rw [O.len];exact hl
 refine qr N a _ c s Q λ_=>?_
 refine up O U (λi xs=>∀ (N':Nat),N<=N'->(∀ N'',N'<=N''->Q (zBl (λx=>decide (s=x)) xs i) N'')->yX Q N a (zA l) c s ((zA l).length:Int) i N') ?_ ?_ N (oD _) hQ
 ·intro i aa _ N' Y I
  refine vM _ _ _ _ _ _ _ _ _ ?_
  repeat' first|with_reducible intro _|simp only[aa,Y1,Y2,Y3,Y4]|with_reducible refine X ?_ ?_|refine⟨_,_,_,rfl,?_⟩|refine⟨_,rfl,?_⟩|refine And.intro (by first|omega|trivial|(show _=_;rfl)|(with_reducible constructor)<;>first|omega|trivial|rfl) ?_|fail
  exact I _ (by omega)
 ·intro i x xs J _ ab N' Y I
  have hb:=J.b
  have hr:=J.r
  simp only [zBl] at I
  refine vM _ _ _ _ _ _ _ _ _ ?_
  repeat' first|with_reducible intro _|simp only[J.lt,J.w,oH,hr,Y1,Y2,Y3,Y4]|with_reducible refine X ?_ ?_|refine⟨_,_,_,rfl,?_⟩|refine⟨_,rfl,?_⟩|refine And.intro (by first|omega|trivial|(show _=_;rfl)|(with_reducible constructor)<;>first|omega|trivial|rfl) ?_|fail
  ·rename_i h _ _;subst h;exact Qi (I _ (by omega)) (by simp)
  ·rename_i h;exact ab _ Y λN'' h2=>Qi (I _ h2) (by rw [if_neg (by simpa using h)];simp)
theorem ya (l:List ByteArray) (I:l.length<=4611686018427387904) (a:Option Addr) (c:Nat) (s:ByteArray):uX 147 [.sv a 0 (zA l) c,.str s] (l.any λx=>decide (s=x)):=λN Q J=>by
 refine sj N a _ c s Q λ_=>?_
 repeat' first|with_reducible intro _|simp only[Y1,Y2,Y3,Y4]|with_reducible refine X ?_ ?_|refine⟨_,_,_,rfl,?_⟩|refine⟨_,rfl,?_⟩|refine And.intro (by first|omega|trivial|(show _=_;rfl)|(with_reducible constructor)<;>first|omega|trivial|rfl) ?_|refine (zJ5 l I a c s) _ _ ?_|fail
 exact Qb (J _ (by omega)) (pT _ l 0 (by omega)).symm
theorem zAY (s:ByteArray) (hs:s.size<=4611686018427387904):uX 165 [.str s] (uu s):=λN Q Y=>by
 refine zG1 N s Q ?_
 have key:=upN hs (λi=>∀ N',N<=N'->(∀ N'',N'<=N''->Q (uy s i&&zEH s) N'')->yn Q N s (s.size:Int) i N') ?_ ?_
 ·exact key N (oD _) Y
 ·intro J N' O I
  have hc:=ya [bytes [105,102],bytes [108,101,116],bytes [108,105,102,116],bytes [114,101,99],bytes [114,117,110]] (by simp)
  simp only [zA,List.map] at hc
  refine rP _ _ _ _ _ _ ?_
  repeat' first|with_reducible intro _|simp only[J,Y1,Y2,Y3,Y4]|with_reducible refine X ?_ ?_|refine⟨_,_,_,rfl,?_⟩|refine⟨_,rfl,?_⟩|refine And.intro (by first|omega|trivial|(show _=_;rfl)|(with_reducible constructor)<;>first|omega|trivial|rfl) ?_|refine (xP _ _ _) _ _ ?_|refine (hc _ _ _) _ _ ?_|fail
  all_goals (refine Qb (I _ (by omega)) ?_;rw [zBh])
  ·simp only [zEH,List.any_cons,List.any_nil,Bool.or_false, *]
   cases decide (s=bytes [105,102])<;>cases decide (s=bytes [108,101,116])<;>cases decide (s=bytes [108,105,102,116])<;>cases decide (s=bytes [114,101,99])<;>cases decide (s=bytes [114,117,110])<;>rfl
  ·simp [zEH, *]
 ·intro i hi J hw U N' O I
  refine rP _ _ _ _ _ _ ?_
  rw [zAJ hi] at I
  repeat' first|with_reducible intro _|simp only[J,hw,oH,Y1,Y2,Y3,Y4]|with_reducible refine X ?_ ?_|refine⟨_,_,_,rfl,?_⟩|refine⟨_,rfl,?_⟩|refine And.intro (by first|omega|trivial|(show _=_;rfl)|(with_reducible constructor)<;>first|omega|trivial|rfl) ?_|fail
  all_goals first
   | (refine Qb (I _ (by omega)) ?_;unfold zFm zBr;simp only [*];simp;done)
   | (refine U _ (by omega) λN'' h=>Qb (I N'' (by omega)) ?_;unfold zFm zBr;simp only [*];simp;done)
theorem zBH:∀ (t:Ty) (d:D),t.Is d->t.cnt<=1073741824->zBs 187 [.dg 2 d] t.cnt:=by
 refine Ty.ind λk l ih d hd hc N Q hQ=>?_
 obtain ⟨a,es,c,rfl,J,O⟩:=Ty.is_mk.1 hd
 simp only [Ty.cnt] at hc
 refine zBR N _ Q λ_=>⟨_,_,_,rfl,?_⟩
 refine up O J (λi xs=>∀ (m:Nat) (N':Nat),N<=N'->m+zK xs=1+zK l->yo Q N m a es c es.length i N') ?_ ?_ 1 N (oD _) rfl
 ·intro i U _ m N' Y hm
  refine uI _ _ _ _ _ _ _ _ _ ?_
  simp only [zK] at hm
  repeat' first|with_reducible intro _|simp only[U,Y1,Y2,Y3,Y4]|with_reducible refine X ?_ ?_|refine⟨_,_,_,rfl,?_⟩|refine⟨_,rfl,?_⟩|refine And.intro (by first|omega|trivial|(show _=_;rfl)|(with_reducible constructor)<;>first|omega|trivial|rfl) ?_|fail
  exact Qi (hQ _ (by omega)) (by simp only [Ty.cnt];omega)
 ·intro i x xs I _ aa m N' Y hm
  have hb:=I.b
  have ab:=xt I.m
  simp only [zK] at hm
  refine uI _ _ _ _ _ _ _ _ _ ?_
  repeat' first|with_reducible intro _|simp only[I.lt,I.w,oH,Y1,Y2,Y3,Y4]|with_reducible refine X ?_ ?_|refine⟨_,_,_,rfl,?_⟩|refine⟨_,rfl,?_⟩|refine And.intro (by first|omega|trivial|(show _=_;rfl)|(with_reducible constructor)<;>first|omega|trivial|rfl) ?_|refine (ih x I.m _ I.r (by omega)) _ _ ?_|fail
  rw [i64_in _ (by omega)]
  exact aa (m+x.cnt) _ (by omega) (by omega)
theorem pC:∀ (t:Ty) (d:D),t.Is d->t.cnt<=1073741824->zBs 188 [.dg 2 d] t.dep:=by
 refine Ty.ind λk l ih d hd hc N Q hQ=>?_
 obtain ⟨a,es,c,rfl,J,O⟩:=Ty.is_mk.1 hd
 simp only [Ty.cnt] at hc
 have ab:=qF l
 refine zAQ N _ Q λ_=>⟨_,_,_,rfl,?_⟩
 refine up O J (λi xs=>∀ (m:Nat) (N':Nat),N<=N'->max m (sH xs)=sH l->ye Q N m a es c es.length i N') ?_ ?_ 0 N (oD _) (by omega)
 ·intro i U _ m N' Y hm
  refine vh _ _ _ _ _ _ _ _ _ ?_
  simp only [sH] at hm
  repeat' first|with_reducible intro _|simp only[U,Y1,Y2,Y3,Y4]|with_reducible refine X ?_ ?_|refine⟨_,_,_,rfl,?_⟩|refine⟨_,rfl,?_⟩|refine And.intro (by first|omega|trivial|(show _=_;rfl)|(with_reducible constructor)<;>first|omega|trivial|rfl) ?_|fail
  rw [i64_in _ (by omega)]
  exact Qi (hQ _ (by omega)) (by simp only [Ty.dep];omega)
 ·intro i x xs I _ aa m N' Y hm
  have hb:=I.b
  have ac:=xt I.m
  simp only [sH] at hm
  refine vh _ _ _ _ _ _ _ _ _ ?_
  repeat' first|with_reducible intro _|simp only[I.lt,I.w,oH,Y1,Y2,Y3,Y4]|with_reducible refine X ?_ ?_|refine⟨_,_,_,rfl,?_⟩|refine⟨_,rfl,?_⟩|refine And.intro (by first|omega|trivial|(show _=_;rfl)|(with_reducible constructor)<;>first|omega|trivial|rfl) ?_|refine (ih x I.m _ I.r (by omega)) _ _ ?_|fail
  have e:(if (x.dep:Int)>(m:Int) then (x.dep:Int) else (m:Int))=((max m x.dep:Nat):Int):=by split<;>omega
  rw [e]
  exact aa _ _ (by omega) (by omega)
theorem zC2 (t:Ty) (d:D) (hd:t.Is d):uX 190 [.dg 2 d] (t8 t.k t.as.length):=λN Q J=>by
 cases t with
 | mk k l=>
 obtain ⟨a,es,c,rfl,U,O⟩:=Ty.is_mk.1 hd
 have Y:=O.len
 simp only [Ty.k,Ty.as] at J
 refine qO N _ Q λ_=>?_
 cases I:inB k 1 4 with
 | false=>
   repeat' first|with_reducible intro _|simp only[I,Y1,Y2,Y3,Y4]|with_reducible refine X ?_ ?_|refine⟨_,_,_,rfl,?_⟩|refine⟨_,rfl,?_⟩|refine And.intro (by first|omega|trivial|(show _=_;rfl)|(with_reducible constructor)<;>first|omega|trivial|rfl) ?_|refine (xP _ _ _) _ _ ?_|fail
   refine Qb (J _ (by omega)) ?_
   have:¬(1<=k/\k<=4):=λh=>by rw [xu.2 h] at I;cases I
   unfold t8
   rw [if_neg (by omega),if_neg (by omega),if_neg (by omega)]
 | true=>
   have hb:=xu.1 I
   have w0:IntKind.i64.wrap 0=0:=rfl
   have w1:IntKind.i64.wrap 1=1:=rfl
   have w2:IntKind.i64.wrap 2=2:=rfl
   have w3:IntKind.i64.wrap 3=3:=rfl
   have hk:k=1\/k=2\/k=3\/k=4:=by omega
   rcases hk with rfl | rfl | rfl | rfl
   all_goals
    repeat' first|with_reducible intro _|simp only[I,w0,w1,w2,w3,Y1,Y2,Y3,Y4]|with_reducible refine X ?_ ?_|refine⟨_,_,_,rfl,?_⟩|refine⟨_,rfl,?_⟩|refine And.intro (by first|omega|trivial|(show _=_;rfl)|(with_reducible constructor)<;>first|omega|trivial|rfl) ?_|refine (xP _ _ _) _ _ ?_|fail
    refine Qb (J _ (by omega)) ?_
    simp [t8,Y]
theorem zEO:∀ l:List Ty,wO l=!(l.any λx=>!x.form)
 | []=>rfl
 | t::I=>by simp only [wO,List.any_cons,zEO I];cases t.form<;>simp
theorem zC1 {p:Ty->Bool} {l:List Ty} {es:List D} (h:All2 Ty.Is l es) (O:es.length<=4611686018427387904) (ad:Addr) (hp:∀ x∈l,∀ d,x.Is d->uX 204 [.dg 2 d,.pd ad 0 (.fn 190 [])] (p x)) (a:Option Addr) (c:Nat) :
  uX 203 [.sv a 2 es c,.fn 204 [.pd ad 0 (.fn 190 [])]] (l.any p):=λN Q U=>by
 have hi:zBs 209 [.sv a 2 es c,.fn 204 [.pd ad 0 (.fn 190 [])]] (zBl p l 0):=λN Q U=>by
  refine ub N a es c ad Q λ_=>?_
  refine up h O (λi xs=>∀ (N':Nat),N<=N'->(∀ N'',N'<=N''->Q (zBl p xs i) N'')->zo Q N a es c ad es.length i N') ?_ ?_ N (oD _) U
  ·intro i Y _ N' aa I
   refine xd _ _ _ _ _ _ _ _ _ ?_
   repeat' first|with_reducible intro _|simp only[Y,Y1,Y2,Y3,Y4]|with_reducible refine X ?_ ?_|refine⟨_,_,_,rfl,?_⟩|refine⟨_,rfl,?_⟩|refine And.intro (by first|omega|trivial|(show _=_;rfl)|(with_reducible constructor)<;>first|omega|trivial|rfl) ?_|fail
   exact I _ (by omega)
  ·intro i x xs J _ ab N' aa I
   have hb:=J.b
   simp only [zBl] at I
   refine xd _ _ _ _ _ _ _ _ _ ?_
   repeat' first|with_reducible intro _|simp only[J.lt,J.w,oH,Y1,Y2,Y3,Y4]|with_reducible refine X ?_ ?_|refine⟨_,_,_,rfl,?_⟩|refine⟨_,rfl,?_⟩|refine And.intro (by first|omega|trivial|(show _=_;rfl)|(with_reducible constructor)<;>first|omega|trivial|rfl) ?_|refine (hp x J.m _ J.r) _ _ ?_|fail
   ·exact Qi (I _ (by omega)) (by rw [if_pos (by assumption)])
   ·rename_i h;exact ab _ (by omega) λN'' h2=>Qi (I _ (by omega)) (by rw [h];simp)
 refine vV N a es c ad Q λ_=>?_
 repeat' first|with_reducible intro _|simp only[Y1,Y2,Y3,Y4]|with_reducible refine X ?_ ?_|refine⟨_,_,_,rfl,?_⟩|refine⟨_,rfl,?_⟩|refine And.intro (by first|omega|trivial|(show _=_;rfl)|(with_reducible constructor)<;>first|omega|trivial|rfl) ?_|refine hi _ _ ?_|fail
 exact Qb (U _ (by omega)) (pT _ l 0 (by omega)).symm
theorem zLc:∀ (t:Ty) (d:D),t.Is d->uX 189 [.dg 2 d,.fn 190 []] t.form:=by
 refine Ty.ind λk l Y d hd N Q I=>?_
 have O:=hd
 obtain ⟨a,es,c,rfl,J,U⟩:=Ty.is_mk.1 hd
 refine pe N _ Q λ_=>?_
 simp only [Ty.form,zEO] at I
 repeat' first|with_reducible intro _|simp only[Y1,Y2,Y3,Y4]|with_reducible refine X ?_ ?_|refine⟨_,_,_,rfl,?_⟩|refine⟨_,rfl,?_⟩|refine And.intro (by first|omega|trivial|(show _=_;rfl)|(with_reducible constructor)<;>first|omega|trivial|rfl) ?_|refine (zC2 _ _ O) _ _ ?_|refine (zC1 U J _ (λx hx d hd=>λN Q I=>qM N d _ Q λ_ N1 aa=>Y x hx d hd N1 _ λN2 ab ac N3 ae=>I N3 (by omega)) _ _) _ _ ?_|fail
 ·have h:t8 (Ty.mk k l).k (Ty.mk k l).as.length=true:=by assumption
  exact Qb (I _ (by omega)) (by simp only [Ty.k,Ty.as] at h;rw [h,Bool.and_true])
 ·rename_i h _ _
  exact Qb (I _ (by omega)) (by simp only [Ty.k,Ty.as] at h;rw [h,Bool.and_false])
theorem u2 (t:Ty) (d:D) (hd:t.Is d) (hc:t.cnt<=1073741824):uX 167 [.dg 2 d] t.valid:=λN Q I=>by
 refine pw N _ Q λ_=>?_
 repeat' first|with_reducible intro _|simp only[Y1,Y2,Y3,Y4]|with_reducible refine X ?_ ?_|refine⟨_,_,_,rfl,?_⟩|refine⟨_,rfl,?_⟩|refine And.intro (by first|omega|trivial|(show _=_;rfl)|(with_reducible constructor)<;>first|omega|trivial|rfl) ?_|refine (zBH t d hd hc) _ _ ?_|refine (pC t d hd hc) _ _ ?_|refine (zLc t d hd) _ _ ?_|fail
 ·refine Qb (I _ (by omega)) ?_
  have J:t.cnt<=30:=by omega
  have O:t.dep<=8:=by omega
  simp [Ty.valid, *]
 ·refine Qb (I _ (by omega)) ?_
  have O:¬t.dep<=8:=by omega
  simp [Ty.valid, *]
 ·refine Qb (I _ (by omega)) ?_
  have J:¬t.cnt<=30:=by omega
  simp [Ty.valid, *]
theorem xm:∀ (t u:Ty) (d e:D),t.Is d->u.Is e->uX 139 [.dg 2 d,.dg 2 e] (zCg t u):=by
 refine Ty.ind λk l ih u d e hd he N Q Y=>?_
 cases u with
 | mk k' l'=>
 obtain ⟨a,es,c,rfl,aa,ab⟩:=Ty.is_mk.1 hd
 obtain ⟨a',U,c',rfl,ae,O⟩:=Ty.is_mk.1 he
 have hl:=ab.len
 have al:=O.len
 simp only [zCg] at Y
 have hf:uX 168 [.sv a 2 es c,.sv a' 2 U c',.fn 139 []] (tk l l'):=λN Q Y=>by
  have key:l.length=l'.length->∀ (N':Nat),N<=N'->(∀ N'',N'<=N''->Q (tk l (l'.drop 0)) N'')->zS Q N a' U c' a es c es.length (0:Nat) N':=by
   intro am
   refine up ab aa (λi xs=>∀ (N':Nat),N<=N'->(∀ N'',N'<=N''->Q (tk xs (l'.drop i)) N'')->zS Q N a' U c' a es c es.length i N') ?_ ?_
   ·intro i ah hi N' ai I
    refine xZ _ _ _ _ _ _ _ _ _ _ _ ?_
    repeat' first|with_reducible intro _|simp only[ah,Y1,Y2,Y3,Y4]|with_reducible refine X ?_ ?_|refine⟨_,_,_,rfl,?_⟩|refine⟨_,rfl,?_⟩|refine And.intro (by first|omega|trivial|(show _=_;rfl)|(with_reducible constructor)<;>first|omega|trivial|rfl) ?_|fail
    refine Qb (I _ (by assumption)) ?_
    rw [mA (by omega)]
    rfl
   ·intro i x xs J _ aj N' ai I
    have hb:=J.b
    have ac:i<l'.length:=by omega
    have hg:l'[i]?=some l'[i]:=oG ac
    have ak:l'.drop i=l'[i]::l'.drop (i+1):=mV ac
    refine xZ _ _ _ _ _ _ _ _ _ _ _ ?_
    rw [ak] at I
    repeat' first|with_reducible intro _|simp only[J.lt,J.w,oH,Y1,Y2,Y3,Y4]|with_reducible refine X ?_ ?_|refine⟨_,_,_,rfl,?_⟩|refine⟨_,rfl,?_⟩|refine And.intro (by first|omega|trivial|(show _=_;rfl)|(with_reducible constructor)<;>first|omega|trivial|rfl) ?_|refine (ih x J.m _ _ _ J.r (O.get hg)) _ _ ?_|fail
    ·exact Qb (I _ (by omega)) (by simp [tk, *])
    ·exact aj _ (by omega) λN'' h=>Qb (I N'' (by omega)) (by simp [tk, *])
  refine uY N _ _ _ _ _ _ Q λ_ _=>?_
  repeat' first|with_reducible intro _|simp only[Y1,Y2,Y3,Y4]|with_reducible refine X ?_ ?_|refine⟨_,_,_,rfl,?_⟩|refine⟨_,rfl,?_⟩|refine And.intro (by first|omega|trivial|(show _=_;rfl)|(with_reducible constructor)<;>first|omega|trivial|rfl) ?_|fail
  ·exact Qb (Y _ (by assumption)) (zCx (by omega))
  ·exact key (by omega) N (oD _) Y
 refine zCC N _ _ Q λ_ _=>?_
 repeat' first|with_reducible intro _|simp only[Y1,Y2,Y3,Y4]|with_reducible refine X ?_ ?_|refine⟨_,_,_,rfl,?_⟩|refine⟨_,rfl,?_⟩|refine And.intro (by first|omega|trivial|(show _=_;rfl)|(with_reducible constructor)<;>first|omega|trivial|rfl) ?_|refine hf _ _ ?_|fail
 ·exact Qb (Y _ (by omega)) (by simp [*])
 ·exact Qb (Y _ (by omega)) (by simp [*])
theorem qk (s:ByteArray):zBs 164 [.str s] (zCk s):=λN Q I=>by
 refine zEq N s Q ?_
 repeat' first|with_reducible intro _|simp only[Y1,Y2,Y3,Y4]|with_reducible refine X ?_ ?_|refine⟨_,_,_,rfl,?_⟩|refine⟨_,rfl,?_⟩|refine And.intro (by first|omega|trivial|(show _=_;rfl)|(with_reducible constructor)<;>first|omega|trivial|rfl) ?_|fail
 all_goals (refine Qi (I _ (by assumption)) ?_;unfold zCk;(repeat' split)<;>first | rfl | contradiction)
def arI (k:Int) (nm:ByteArray):Int:=
 if k=4 then zCk nm else if k=5 then 3 else if k=7\/k=8 then 2 else if k=6\/k=9\/k=10\/k=11\/k=12\/k=13 then 1 else 0
theorem zIX {k n:Int} {nm ot:ByteArray} {t0 t1 r0 r1 x:D}:zBs 137 [.dg 9 (.ag [.j k,.t nm,.t ot,.j n,t0,t1,r0,r1,x])] (arI k nm):=λN Q I=>by
 refine zIW N _ Q λ_=>?_
 repeat' first|with_reducible intro _|simp only[Y1,Y2,Y3,Y4]|with_reducible refine X ?_ ?_|refine⟨_,_,_,rfl,?_⟩|refine⟨_,rfl,?_⟩|refine And.intro (by first|omega|trivial|(show _=_;rfl)|(with_reducible constructor)<;>first|omega|trivial|rfl) ?_|refine (qk _) _ _ ?_|fail
 all_goals (refine Qi (I _ (by omega)) ?_;simp [arI, *])
theorem uO (n:Int):uX 166 [.j n] (inB n 0 10006):=λN Q I=>by
 refine zDJ N n Q ?_
 repeat' first|with_reducible intro _|simp only[Y1,Y2,Y3,Y4]|with_reducible refine X ?_ ?_|refine⟨_,_,_,rfl,?_⟩|refine⟨_,rfl,?_⟩|refine And.intro (by first|omega|trivial|(show _=_;rfl)|(with_reducible constructor)<;>first|omega|trivial|rfl) ?_|refine (xP _ _ _) _ _ ?_|fail
 exact I _ (by omega)
def zFG (k:Int) (nm ot:ByteArray) (n:Int) (ty re:Ty):Bool:=
 if k=1\/k=8 then uu nm else if k=2 then inB n 0 10006 else if k=3 then inB n 0 1 else if k=4 then decide (zCk nm>0)
 else if k=6 then uu nm&&ty.valid else if k=9 then uu nm&&(uu ot&&(!decide (nm=ot)&&(ty.valid&&re.valid))) else inB k 1 13
theorem zE8 {k n:Int} {nm ot:ByteArray} {ty re:Ty} {t0 t1 r0 r1 x:D} (h:Tm.Hd nm ot ty re t0 t1 r0 r1) (hc:ty.cnt<=1073741824) (I:re.cnt<=1073741824) :
  uX 138 [.dg 9 (.ag [.j k,.t nm,.t ot,.j n,t0,t1,r0,r1,x])] (zFG k nm ot n ty re):=λN Q J=>by
 refine zEz N _ Q λ_=>?_
 repeat' first|with_reducible intro _|simp only[Y1,Y2,Y3,Y4]|with_reducible refine X ?_ ?_|refine⟨_,_,_,rfl,?_⟩|refine⟨_,rfl,?_⟩|refine And.intro (by first|omega|trivial|(show _=_;rfl)|(with_reducible constructor)<;>first|omega|trivial|rfl) ?_|refine (qk _) _ _ ?_|refine (zAY _ h.nm) _ _ ?_|refine (zAY _ h.ot) _ _ ?_|refine (uO _) _ _ ?_|refine (xP _ _ _) _ _ ?_|refine (u2 _ _ h.ty hc) _ _ ?_|refine (u2 _ _ h.re I) _ _ ?_|fail
 all_goals (refine Qb (J _ (by omega)) ?_;simp [zFG, *])
theorem zII (t:Ty):zCg t t=true:=(zAL t t).2 rfl
def zLd (k:Int) (nm ot:ByteArray) (n:Int) (ty re:Ty) (m:Int):Bool:=
 decide (m=arI k nm)&&(zFG k nm ot n ty re&&((decide (k=1\/k=8\/k=4\/k=6\/k=9)||decide (nm=bytes []))&&((decide (k=9)||decide (ot=bytes []))&&((decide (k=2\/k=3)||decide (n=0)) &&
  ((decide (k=6\/k=9)||zCg ty tZero)&&(decide (k=9)||zCg re tZero))))))
theorem zEm {k n:Int} {nm ot:ByteArray} {ty re:Ty} {t0 t1 r0 r1:D} {a:Option Addr} {es:List D} {c:Nat} (h:Tm.Hd nm ot ty re t0 t1 r0 r1) (hc:ty.cnt<=1073741824) (I:re.cnt<=1073741824) :
  uX 99 [.dg 9 (.ag [.j k,.t nm,.t ot,.j n,t0,t1,r0,r1,.sl a 9 es c])] (zLd k nm ot n ty re es.length):=λN Q J=>by
 refine zGz N _ Q λ_=>?_
 repeat' first|with_reducible intro _|simp only[Y1,Y2,Y3,Y4]|with_reducible refine X ?_ ?_|refine⟨_,_,_,rfl,?_⟩|refine⟨_,rfl,?_⟩|refine And.intro (by first|omega|trivial|(show _=_;rfl)|(with_reducible constructor)<;>first|omega|trivial|rfl) ?_|refine zIX _ _ ?_|refine (zE8 h hc I) _ _ ?_|refine (xm ty tZero _ _ h.ty zBO) _ _ ?_|refine (xm re tZero _ _ h.re zBO) _ _ ?_|refine (xm ty ty _ _ h.ty h.ty) _ _ ?_|refine (xm re re _ _ h.re h.re) _ _ ?_|fail
 all_goals first | (exfalso;omega) | (refine Qb (J _ (by omega)) ?_;simp [zLd,zII, *];done) | (refine Qb (J _ (by omega)) ?_;simp_all [zLd,zII];done)
theorem zQS (t:Ty):zCg t tZero=t.zero:=by
 cases t with
 | mk k l => cases l<;>simp [zCg,tZero,tk,Ty.zero,Ty.k,Ty.as]
             try omega
theorem zLr {t:Ty} (h:t.zero=true):t.valid=false:=by
 cases t with
 | mk k l=>
   simp only [Ty.zero,Ty.k,Ty.as,oJ,nj] at h
   simp [Ty.valid,Ty.form,t8,h.1]
theorem zTN (n:Int):inB n 0 0=decide (n=0):=by
 rw [mM,xu,mG];omega
theorem zp (t:Ty) (b:Bool):(!t.valid&&(t.zero&&b))=(t.zero&&b):=by
 cases h:t.zero with
 | false=>simp
 | true=>rw [zLr h];simp
theorem zOs (k:Int) (nm ot:ByteArray) (n:Int) (ty re:Ty) (m:Int) (hm:0<=m):zLd k nm ot n ty re m=(zU k nm ot n ty re&&m==zEX k nm):=by
 by_cases Y:k=1\/k=2\/k=3\/k=4\/k=5\/k=6\/k=7\/k=8\/k=9\/k=10\/k=11\/k=12\/k=13
 ·rw [zS0 m]
  have b5:inB 5 1 13=true:=rfl
  have b7:inB 7 1 13=true:=rfl
  have I:inB 10 1 13=true:=rfl
  have J:inB 11 1 13=true:=rfl
  have O:inB 12 1 13=true:=rfl
  have U:inB 13 1 13=true:=rfl
  rcases Y with rfl | rfl | rfl | rfl | rfl | rfl | rfl | rfl | rfl | rfl | rfl | rfl | rfl
  all_goals
   simp [zLd,arI,zFG,zU,zEW,uS,zEX,zQS,zTN,zp,b5,b7,I,J,O,U]
   try (rw [mM];simp [and_comm,and_left_comm,and_assoc])
 ·have h1:zEX k nm = -1:=by
   unfold zEX;rw [if_neg (by omega),if_neg (by omega),if_neg (by omega),if_neg (by omega),if_neg (by omega)]
  have h2:inB k 1 13=false:=by
   cases h:inB k 1 13 with
   | false=>rfl
   | true=>have:=xu.1 h;omega
  have h3:zFG k nm ot n ty re=false:=by
   unfold zFG;rw [if_neg (by omega),if_neg (by omega),if_neg (by omega),if_neg (by omega),if_neg (by omega),if_neg (by omega),h2]
  have h4:(m==zEX k nm)=false:=by rw [h1,zS0];exact mN (by omega)
  rw [h4,zLd,h3]
  simp
theorem zPC {k n:Int} {nm ot:ByteArray} {ty re:Ty} {t0 t1 r0 r1:D} {a:Option Addr} {es:List D} {c:Nat} (h:Tm.Hd nm ot ty re t0 t1 r0 r1) (hc:ty.cnt<=1073741824) (I:re.cnt<=1073741824) :
  uX 99 [.dg 9 (.ag [.j k,.t nm,.t ot,.j n,t0,t1,r0,r1,.sl a 9 es c])] (zU k nm ot n ty re&&(es.length:Int)==zEX k nm):=by
 rw [<-zOs _ _ _ _ _ _ _ (by omega)]
 exact zEm h hc I
theorem zH3:∀ l:List Tm,tK l=!(l.any λx=>!x.ok)
 | []=>rfl
 | t::I=>by simp only [tK,List.any_cons,zH3 I];cases t.ok<;>simp
theorem zCq {p:Tm->Bool} {l:List Tm} {es:List D} (h:All2 Tm.Is l es) (O:es.length<=4611686018427387904) (ad:Addr) (hp:∀ x∈l,∀ d,x.Is d->uX 136 [.dg 9 d,.pd ad 0 (.fn 99 [])] (p x)) (a:Option Addr) (c:Nat) :
  uX 135 [.sv a 9 es c,.fn 136 [.pd ad 0 (.fn 99 [])]] (l.any p):=λN Q U=>by
 have hi:zBs 163 [.sv a 9 es c,.fn 136 [.pd ad 0 (.fn 99 [])]] (zBl p l 0):=λN Q U=>by
  refine uc N a es c ad Q λ_=>?_
  refine up h O (λi xs=>∀ (N':Nat),N<=N'->(∀ N'',N'<=N''->Q (zBl p xs i) N'')->zq Q N a es c ad es.length i N') ?_ ?_ N (oD _) U
  ·intro i Y _ N' aa I
   refine xa _ _ _ _ _ _ _ _ _ ?_
   repeat' first|with_reducible intro _|simp only[Y,Y1,Y2,Y3,Y4]|with_reducible refine X ?_ ?_|refine⟨_,_,_,rfl,?_⟩|refine⟨_,rfl,?_⟩|refine And.intro (by first|omega|trivial|(show _=_;rfl)|(with_reducible constructor)<;>first|omega|trivial|rfl) ?_|fail
   exact I _ (by omega)
  ·intro i x xs J _ ab N' aa I
   have hb:=J.b
   simp only [zBl] at I
   refine xa _ _ _ _ _ _ _ _ _ ?_
   repeat' first|with_reducible intro _|simp only[J.lt,J.w,oH,Y1,Y2,Y3,Y4]|with_reducible refine X ?_ ?_|refine⟨_,_,_,rfl,?_⟩|refine⟨_,rfl,?_⟩|refine And.intro (by first|omega|trivial|(show _=_;rfl)|(with_reducible constructor)<;>first|omega|trivial|rfl) ?_|refine (hp x J.m _ J.r) _ _ ?_|fail
   ·exact Qi (I _ (by omega)) (by rw [if_pos (by assumption)])
   ·rename_i h;exact ab _ (by omega) λN'' h2=>Qi (I _ (by omega)) (by rw [h];simp)
 refine vR N a es c ad Q λ_=>?_
 repeat' first|with_reducible intro _|simp only[Y1,Y2,Y3,Y4]|with_reducible refine X ?_ ?_|refine⟨_,_,_,rfl,?_⟩|refine⟨_,rfl,?_⟩|refine And.intro (by first|omega|trivial|(show _=_;rfl)|(with_reducible constructor)<;>first|omega|trivial|rfl) ?_|refine hi _ _ ?_|fail
 exact Qb (U _ (by omega)) (pT _ l 0 (by omega)).symm
theorem zLi:∀ (t:Tm) (d:D),t.Is d->t.G->uX 98 [.dg 9 d,.fn 99 []] t.ok:=by
 refine Tm.ind λk nm ot n ty re l Y d hd hc N Q I=>?_
 obtain ⟨t0,t1,r0,r1,a,es,c,rfl,hh,J,O⟩:=Tm.is_mk.1 hd
 have hl:=O.len
 obtain ⟨g1,g2,_,g4⟩:=hc
 refine pZ N _ Q λ_=>?_
 simp only [Tm.ok,zH3,<-hl] at I
 repeat' first|with_reducible intro _|simp only[Y1,Y2,Y3,Y4]|with_reducible refine X ?_ ?_|refine⟨_,_,_,rfl,?_⟩|refine⟨_,rfl,?_⟩|refine And.intro (by first|omega|trivial|(show _=_;rfl)|(with_reducible constructor)<;>first|omega|trivial|rfl) ?_|refine (zPC hh (by omega) (by omega)) _ _ ?_|refine (zCq O J _ (λx U d hd=>λN Q I=>qN N d _ Q λ_ N1 aa=>Y x U d hd (zj g4 U) N1 _ λN2 ab ac N3 ae=>I N3 (by omega)) _ _) _ _ ?_|fail
 ·have h:(zU k nm ot n ty re&&(es.length:Int)==zEX k nm)=true:=by assumption
  exact Qb (I _ (by omega)) (by rw [h,Bool.and_true])
 ·have h:(zU k nm ot n ty re&&(es.length:Int)==zEX k nm)=false:=by assumption
  exact Qb (I _ (by omega)) (by rw [h,Bool.and_false])
theorem u4 (t:Tm) (d:D) (hd:t.Is d) (hc:t.G):uX 58 [.dg 9 d] t.ok:=λN Q I=>by
 refine zHH N _ Q λ_=>?_
 repeat' first|with_reducible intro _|simp only[Y1,Y2,Y3,Y4]|with_reducible refine X ?_ ?_|refine⟨_,_,_,rfl,?_⟩|refine⟨_,rfl,?_⟩|refine And.intro (by first|omega|trivial|(show _=_;rfl)|(with_reducible constructor)<;>first|omega|trivial|rfl) ?_|refine (zLi t d hd hc) _ _ ?_|fail
 exact I _ (by omega)
theorem zJD {k n m:Int} {c1 I J O U Y c8:D} (h:0<=m/\m<=2):zBs 100 [.dg 9 (.ag [.j k,c1,I,.j n,J,O,U,Y,c8]),.j m] (zR k m):=λN Q hQ=>by
 refine sR N _ m Q λ_=>?_
 rw [i64_in (m+1) (by omega),i64_in (m - 1) (by omega)]
 repeat' first|with_reducible intro _|simp only[Y1,Y2,Y3,Y4]|with_reducible refine X ?_ ?_|refine⟨_,_,_,rfl,?_⟩|refine⟨_,rfl,?_⟩|refine And.intro (by first|omega|trivial|(show _=_;rfl)|(with_reducible constructor)<;>first|omega|trivial|rfl) ?_|fail
 all_goals (refine Qi (hQ _ (by omega)) ?_;simp [zR, *])
theorem zBv (d:D) (m:Int):uX 60 [.dg 9 d,.j m] (inB m 0 2):=λN Q I=>by
 refine zA8 N _ m Q λ_=>?_
 repeat' first|with_reducible intro _|simp only[Y1,Y2,Y3,Y4]|with_reducible refine X ?_ ?_|refine⟨_,_,_,rfl,?_⟩|refine⟨_,rfl,?_⟩|refine And.intro (by first|omega|trivial|(show _=_;rfl)|(with_reducible constructor)<;>first|omega|trivial|rfl) ?_|refine (xP _ _ _) _ _ ?_|fail
 exact I _ (by omega)
theorem zPR:∀ (t:Tm) (d:D),t.Is d->∀ m:Int,uX 59 [.dg 9 d,.j m,.fn 60 []] (t.lev m):=by
 refine Tm.ind λk nm ot n ty re l ih d hd m N Q hQ=>?_
 obtain ⟨t0,t1,r0,r1,a,es,c,rfl,hh,U,Y⟩:=Tm.is_mk.1 hd
 have hl:=Y.len
 refine zCH N _ m Q λ_=>?_
 cases I:inB m 0 2 with
 | false=>
   repeat' first|with_reducible intro _|simp only[I,Y1,Y2,Y3,Y4]|with_reducible refine X ?_ ?_|refine⟨_,_,_,rfl,?_⟩|refine⟨_,rfl,?_⟩|refine And.intro (by first|omega|trivial|(show _=_;rfl)|(with_reducible constructor)<;>first|omega|trivial|rfl) ?_|refine (zBv _ _) _ _ ?_|fail
   exact Qb (hQ _ (by omega)) (by simp [Tm.lev,I])
 | true=>
   have hb:=xu.1 I
   have key:=up Y U (λi xs=>∀ (N':Nat),N<=N'->(∀ N'',N'<=N''->Q (uC xs (zR k m)) N'')->wj Q N m a es c es.length i (.ag [.j k,.t nm,.t ot,.j n,t0,t1,r0,r1,.sl a 9 es c]) N') ?_ ?_
   ·repeat' first|with_reducible intro _|simp only[I,Y1,Y2,Y3,Y4]|with_reducible refine X ?_ ?_|refine⟨_,_,_,rfl,?_⟩|refine⟨_,rfl,?_⟩|refine And.intro (by first|omega|trivial|(show _=_;rfl)|(with_reducible constructor)<;>first|omega|trivial|rfl) ?_|refine (zBv _ _) _ _ ?_|fail
    exact key _ (by omega) λN'' h=>Qb (hQ N'' (by omega)) (by simp [Tm.lev,I])
   ·intro i aa _ N' ab O
    refine s8 _ _ _ _ _ _ _ _ _ _ ?_
    repeat' first|with_reducible intro _|simp only[aa,Y1,Y2,Y3,Y4]|with_reducible refine X ?_ ?_|refine⟨_,_,_,rfl,?_⟩|refine⟨_,rfl,?_⟩|refine And.intro (by first|omega|trivial|(show _=_;rfl)|(with_reducible constructor)<;>first|omega|trivial|rfl) ?_|fail
    exact Qb (O _ (by omega)) (by simp [uC])
   ·intro i x xs J _ ac N' ab O
    have ae:=J.b
    refine s8 _ _ _ _ _ _ _ _ _ _ ?_
    repeat' first|with_reducible intro _|simp only[J.lt,J.w,oH,Y1,Y2,Y3,Y4]|with_reducible refine X ?_ ?_|refine⟨_,_,_,rfl,?_⟩|refine⟨_,rfl,?_⟩|refine And.intro (by first|omega|trivial|(show _=_;rfl)|(with_reducible constructor)<;>first|omega|trivial|rfl) ?_|refine (zJD hb) _ _ ?_|refine (ih x J.m _ J.r _) _ _ ?_|fail
    ·refine Qb (O _ (by omega)) ?_;simp [uC, *]
    ·exact ac _ (by omega) λN'' h=>Qb (O N'' (by omega)) (by simp [uC, *])
theorem sU (t:Tm) (d:D) (hd:t.Is d) (hc:t.G) (m:Int):uX 32 [.dg 9 d,.j m] (qx t m):=λN Q I=>by
 refine zEK N _ m Q λ_=>?_
 repeat' first|with_reducible intro _|simp only[Y1,Y2,Y3,Y4]|with_reducible refine X ?_ ?_|refine⟨_,_,_,rfl,?_⟩|refine⟨_,rfl,?_⟩|refine And.intro (by first|omega|trivial|(show _=_;rfl)|(with_reducible constructor)<;>first|omega|trivial|rfl) ?_|refine (u4 t d hd hc) _ _ ?_|refine (zPR t d hd m) _ _ ?_|fail
 all_goals (refine Qb (I _ (by omega)) ?_;simp [qx, *])
theorem zR2:∀ (t:Ty) (d:D),t.Is d->t.cnt<=1073741824->zRB 103 [.dg 2 d] t:=by
 refine Ty.ind λk l ih d hd hc N Q hQ=>?_
 obtain ⟨a,es,c,rfl,Y,aa⟩:=Ty.is_mk.1 hd
 have hl:=aa.len
 simp only [Ty.cnt] at hc
 have al:=qw l
 refine zDx N _ Q λ_=>⟨_,rfl,_,_,_,rfl,?_⟩
 have key:=up aa Y (λi xs=>∀ (N':Nat),N<=N'->(i=0->w7 Q N a es c es.length i 0 none [] 0 k none [] 0 N')/\∀ (m q:Nat) (r:List D),m=r.length->All2 Ty.Is (l.take i) r->OwnL N N' r ->
  yb Q N a es c es.length i 0 none [] 0 k m q r q N') ?_ ?_
 ·exact (key N (oD _)).1 rfl
 ·intro i ab hi N' ai
  refine ⟨λh0=>tR _ _ _ _ _ _ _ _ _ _ _ _ _ _ _ _ ?_,λm q r hm U ho=>vi _ _ _ _ _ _ _ _ _ _ _ _ _ _ _ _ _ ?_⟩
  ·repeat' first|with_reducible intro _|simp only[ab,Y1,Y2,Y3,Y4]|with_reducible refine X ?_ ?_|refine⟨_,_,_,rfl,?_⟩|refine⟨_,rfl,?_⟩|refine And.intro (by first|omega|trivial|(show _=_;rfl)|(with_reducible constructor)<;>first|omega|trivial|rfl) ?_|fail
   have:l=[]:=oU (by omega)
   subst this
   exact hQ _ _ (by omega) (xV _) zHM
  ·repeat' first|with_reducible intro _|simp only[ab,Y1,Y2,Y3,Y4]|with_reducible refine X ?_ ?_|refine⟨_,_,_,rfl,?_⟩|refine⟨_,rfl,?_⟩|refine And.intro (by first|omega|trivial|(show _=_;rfl)|(with_reducible constructor)<;>first|omega|trivial|rfl) ?_|fail
   rename_i a' N3 J hf N4 aj
   rw [oq (by omega)] at U
   exact hQ _ _ (by omega) (Ty.is_mk.2 ⟨_,_,_,rfl,by have:=U.len;omega,U⟩) (zFn (y8 (xR ((zFC ho hf (by omega)).mono (oD _) aj))))
 ·intro i x xs I _ ac N' ai
  have hb:=I.b
  have am:=xt I.m
  refine ⟨λh0=>tR _ _ _ _ _ _ _ _ _ _ _ _ _ _ _ _ ?_,λm q r hm U ho=>vi _ _ _ _ _ _ _ _ _ _ _ _ _ _ _ _ _ ?_⟩
  ·repeat' first|with_reducible intro _|simp only[I.lt,I.w,oH,Y1,Y2,Y3,Y4]|with_reducible refine X ?_ ?_|refine⟨_,_,_,rfl,?_⟩|refine⟨_,rfl,?_⟩|refine And.intro (by first|omega|trivial|(show _=_;rfl)|(with_reducible constructor)<;>first|omega|trivial|rfl) ?_|refine (ih x I.m _ I.r (by omega)) _ _ ?_|fail
   rename_i N2 ae d' N3 J hx O ak ah
   subst h0
   exact ⟨by unfold zB;simp,λc2=>(ac _ (by omega)).2 _ _ _ rfl (by rw [wK I.g];exact ⟨_,_,rfl,hx,rfl⟩) (xR (O.mono (by omega) (oD _)))⟩
  ·repeat' first|with_reducible intro _|simp only[I.lt,I.w,oH,Y1,Y2,Y3,Y4]|with_reducible refine X ?_ ?_|refine⟨_,_,_,rfl,?_⟩|refine⟨_,rfl,?_⟩|refine And.intro (by first|omega|trivial|(show _=_;rfl)|(with_reducible constructor)<;>first|omega|trivial|rfl) ?_|refine (ih x I.m _ I.r (by omega)) _ _ ?_|fail
   rename_i N2 ae d' N3 J hx O ak ah
   have ao:=U.len
   have aq:(l.take i).length=i:=by rw [nA];omega
   refine ⟨by unfold zB;simp only [oI,nk];omega,λc2=>?_⟩
   exact (ac _ (by omega)).2 _ _ _ rfl (by rw [wK I.g];exact U.snoc hx) (xz (ho.mono (oD _) ae) (xR O) (by omega) J)
theorem uM {a:Option Addr} {z c:Nat} {es:List D}:∀ x∈(D.sl a z es c).foot,x∈zF es\/∃ ad,a=some ad/\x=ad.block:=by
 intro x hx
 cases a with
 | none=>simp only [D.foot] at hx;exact .inl hx
 | some ad=>
   simp only [D.foot] at hx
   split at hx
   ·simp at hx
   ·rcases oF.1 hx with rfl | hx
    ·exact .inr ⟨ad,rfl,rfl⟩
    ·exact .inl hx
theorem w9 {bs:List (Option Addr)} {N N':Nat} {d:D} (J:wJ N bs) (O:Own N N' d):Off bs d:=λa U ad I Y=>by
 have:=J a U ad I
 have:=O.lo _ Y
 omega
mutual
def Tm.sz:Tm->Nat
 | .mk _ _ _ _ _ _ l=>1+rC l
def rC:List Tm->Nat
 | []=>0
 | t::I=>t.sz+rC I
end
/-- one form of a body's nodes -/
def zSW (k:Int):Bool:=inB k 1 5||k==8
mutual
def Tm.isB:Tm->Bool
 | .mk k _ _ _ _ _ l=>zTB l&&zSW k
def zTB:List Tm->Bool
 | []=>true
 | t::I=>t.isB&&zTB I
end
def Tm.vd (t:Tm):Bool:=decide (t.sz<=80)&&decide (t.dp<=20)&&t.ok
theorem zAc:∀ (t:Tm) (d:D),t.Is d->∀ n:Int,0<=n->n<=1000->zBs 200 [.dg 9 d,.j n] (if (t.sz:Int)<=n then n - t.sz else -1):=by
 refine Tm.ind λk nm ot n0 ty re l ih d hd n ae ah N Q hQ=>?_
 obtain ⟨t0,t1,r0,r1,a,es,c,rfl,hh,U,Y⟩:=Tm.is_mk.1 hd
 refine zF3 N _ n Q λ_=>?_
 have key:=up Y U (λi xs=>∀ (m:Int) (N':Nat),N<=N' -> -1<=m->m<=1000->(∀ N'',N'<=N''->Q (if m<0 then -1 else if (rC xs:Int)<=m then m - rC xs else -1) N'') ->
  wv Q N m i (.ag [.j k,.t nm,.t ot,.j n0,t0,t1,r0,r1,.sl a 9 es c]) N') ?_ ?_
 ·rw [i64_in _ (by omega)]
  refine key (n - 1) N (oD _) (by omega) (by omega) λN' O=>Qi (hQ N' O) ?_
  simp only [Tm.sz]
  (repeat' split)<;>omega
 ·intro i aa _ m N' O h1 h2 J
  refine rE _ _ _ _ _ _ ?_
  repeat' first|with_reducible intro _|simp only[aa,Y1,Y2,Y3,Y4]|with_reducible refine X ?_ ?_|refine⟨_,_,_,rfl,?_⟩|refine⟨_,rfl,?_⟩|refine And.intro (by first|omega|trivial|(show _=_;rfl)|(with_reducible constructor)<;>first|omega|trivial|rfl) ?_|fail
  refine Qi (J _ (by assumption)) ?_
  simp only [rC]
  (repeat' split)<;>omega
 ·intro i x xs I _ ab m N' O h1 h2 J
  have hb:=I.b
  refine rE _ _ _ _ _ _ ?_
  repeat' first|with_reducible intro _|simp only[I.lt,I.w,oH,Y1,Y2,Y3,Y4]|with_reducible refine X ?_ ?_|refine⟨_,_,_,rfl,?_⟩|refine⟨_,rfl,?_⟩|refine And.intro (by first|omega|trivial|(show _=_;rfl)|(with_reducible constructor)<;>first|omega|trivial|rfl) ?_|refine (ih x I.m _ I.r m (by omega) (by omega)) _ _ ?_|fail
  ·refine ab _ _ (by omega) (by split<;>omega) (by split<;>omega) λN'' ac=>Qi (J N'' (by omega)) ?_
   simp only [rC]
   (repeat' split)<;>omega
  ·refine Qi (J _ (by assumption)) ?_
   rw [if_pos (by omega)]
   omega
theorem zEg:∀ (t:Tm) (d:D),t.Is d->t.cnt<=1073741824->zBs 201 [.dg 9 d] t.dp:=by
 refine Tm.ind λk nm ot n0 ty re l ih d hd hc N Q hQ=>?_
 obtain ⟨t0,t1,r0,r1,a,es,c,rfl,hh,J,U⟩:=Tm.is_mk.1 hd
 refine zEx N _ Q λ_=>?_
 simp only [Tm.cnt] at hc
 have ab:=zDj l
 have key:=up U J (λi xs=>∀ (m:Nat) (N':Nat),N<=N'->max m (wr xs)=wr l->xq Q N (m:Int) i (.ag [.j k,.t nm,.t ot,.j n0,t0,t1,r0,r1,.sl a 9 es c]) N') ?_ ?_
 ·exact key 0 N (oD _) (by omega)
 ·intro i Y _ m N' O hm
  simp only [wr] at hm
  refine sO _ _ _ _ _ _ ?_
  repeat' first|with_reducible intro _|simp only[Y,Y1,Y2,Y3,Y4]|with_reducible refine X ?_ ?_|refine⟨_,_,_,rfl,?_⟩|refine⟨_,rfl,?_⟩|refine And.intro (by first|omega|trivial|(show _=_;rfl)|(with_reducible constructor)<;>first|omega|trivial|rfl) ?_|fail
  rw [i64_in _ (by omega)]
  refine Qi (hQ _ (oS O (by assumption))) ?_
  simp only [Tm.dp]
  omega
 ·intro i x xs I _ aa m N' O hm
  have hb:=I.b
  have ac:=qy I.m
  simp only [wr] at hm
  refine sO _ _ _ _ _ _ ?_
  repeat' first|with_reducible intro _|simp only[I.lt,I.w,oH,Y1,Y2,Y3,Y4]|with_reducible refine X ?_ ?_|refine⟨_,_,_,rfl,?_⟩|refine⟨_,rfl,?_⟩|refine And.intro (by first|omega|trivial|(show _=_;rfl)|(with_reducible constructor)<;>first|omega|trivial|rfl) ?_|refine (ih x I.m _ I.r (by omega)) _ _ ?_|refine (zBd _ _) _ _ ?_|fail
  have e:max (m:Int) (x.dp:Int)=((max m x.dp:Nat):Int):=by omega
  rw [e]
  exact aa _ _ (by omega) (by omega)
theorem pE (t:Tm) (d:D) (hd:t.Is d) (hc:t.cnt<=1073741824):uX 185 [.dg 9 d] t.vd:=λN Q I=>by
 refine pP N _ Q λ_=>?_
 by_cases O:t.sz<=80
 ·have J:((t.sz:Int)<=80):=by omega
  repeat' first|with_reducible intro _|simp only[if_pos J,Y1,Y2,Y3,Y4]|with_reducible refine X ?_ ?_|refine⟨_,_,_,rfl,?_⟩|refine⟨_,rfl,?_⟩|refine And.intro (by first|omega|trivial|(show _=_;rfl)|(with_reducible constructor)<;>first|omega|trivial|rfl) ?_|refine (zAc t d hd _ (by omega) (by omega)) _ _ ?_|refine (zEg t d hd hc) _ _ ?_|refine (zGS t d hd hc) _ _ ?_|fail
  all_goals first | omega | skip
  ·have U:t.dp<=20:=by omega
   refine Qb (I _ (by omega)) ?_;simp [Tm.vd, *]
  ·have U:¬t.dp<=20:=by omega
   refine Qb (I _ (by omega)) ?_;simp [Tm.vd, *]
 ·have J:¬((t.sz:Int)<=80):=by omega
  repeat' first|with_reducible intro _|simp only[if_neg J,Y1,Y2,Y3,Y4]|with_reducible refine X ?_ ?_|refine⟨_,_,_,rfl,?_⟩|refine⟨_,rfl,?_⟩|refine And.intro (by first|omega|trivial|(show _=_;rfl)|(with_reducible constructor)<;>first|omega|trivial|rfl) ?_|refine (zAc t d hd _ (by omega) (by omega)) _ _ ?_|fail
  all_goals first | omega | skip
  refine Qb (I _ (by omega)) ?_;simp [Tm.vd, *]
theorem yx (l:List ByteArray) (hl:l.length<=4611686018427387904) (a:Option Addr) (c:Nat) (s:ByteArray):zBs 123 [.sv a 0 (zA l) c,.str s] (zBl (λx=>decide (x=s)) l 0):=λN Q hQ=>by
 have O:=yu l
 have U:(zA l).length<=4611686018427387904:=by rw [O.len];exact hl
 refine zE5 N a _ c s Q λ_=>?_
 refine up O U (λi xs=>∀ (N':Nat),N<=N'->(∀ N'',N'<=N''->Q (zBl (λx=>decide (x=s)) xs i) N'')->xi Q N a (zA l) c s i N') ?_ ?_ N (oD _) hQ
 ·intro i aa _ N' Y I
  refine sT _ _ _ _ _ _ _ _ ?_
  repeat' first|with_reducible intro _|simp only[aa,Y1,Y2,Y3,Y4]|with_reducible refine X ?_ ?_|refine⟨_,_,_,rfl,?_⟩|refine⟨_,rfl,?_⟩|refine And.intro (by first|omega|trivial|(show _=_;rfl)|(with_reducible constructor)<;>first|omega|trivial|rfl) ?_|fail
  exact I _ (by omega)
 ·intro i x xs J _ ab N' Y I
  have hb:=J.b
  have hr:=J.r
  simp only [zBl] at I
  refine sT _ _ _ _ _ _ _ _ ?_
  repeat' first|with_reducible intro _|simp only[J.lt,J.w,oH,hr,Y1,Y2,Y3,Y4]|with_reducible refine X ?_ ?_|refine⟨_,_,_,rfl,?_⟩|refine⟨_,rfl,?_⟩|refine And.intro (by first|omega|trivial|(show _=_;rfl)|(with_reducible constructor)<;>first|omega|trivial|rfl) ?_|fail
  ·rename_i h _ _;subst h;exact Qi (I _ (by omega)) (by simp)
  ·rename_i h;exact ab _ Y λN'' h2=>Qi (I _ h2) (by rw [if_neg (by simpa using h)];simp)
theorem vB (l:List ByteArray) (s:ByteArray):zA l++[.t s]=zA (l++[s]):=by simp [zA]
theorem zE (l:List ByteArray):(zA l).length=l.length:=by simp [zA]
end Go.Proofs.YtfajiphkncipoaaGreatDoor
