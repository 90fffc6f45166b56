/- Parameters: what they are; the laws' sizes, copies, equality and marks on them. -/
import Derived.Test.YtmfjakahanbnlaaGreatDoorA4
import Derived.Test.YtmfjakahanbnlaaGreatDoorA3
import Derived.Test.YtmfjakahanbnlaaGreatDoorKi
set_option linter.unusedVariables false
set_option linter.unusedSimpArgs false
namespace Go.Proofs.YtmfjakahanbnlaaGreatDoor
open Go Go.Proofs Go.Proofs.Tryz Go.IntWalk
structure Pm where
 nm:ByteArray
 ty:Ty
 dy:Bool
def Pm.Is (g:Pm) (d:D):Prop:=∃ t0 t1,d=.ag [.lit (.string g.nm),t0,t1,.lit (.bool g.dy)]/\g.nm.size<=4611686018427387904/\g.ty.Is (.ag [t0,t1])
theorem yX (n a b:Int):ue 65 [.int .i64 n,.int .i64 a,.int .i64 b] (inB n a b):=λN Q I=>by
 refine zIj N n a b Q ?_
 repeat' first|with_reducible intro _|simp only[Y1,Y2,Y3,Y4]|with_reducible refine X ?_ ?_|refine⟨_,_,_,rfl,?_⟩|refine⟨_,rfl,?_⟩|refine And.intro (by first|omega|trivial|(show _=_;rfl)|(with_reducible constructor)<;>first|omega|trivial|rfl) ?_|fail
 all_goals simpa [inB, *] using I _ (by omega)
def zC4 {α:Type} (p:α->Bool):List α->Int->Int
 | [],_ => -1
 | x::xs,i=>if p x then i else zC4 p xs (i+1)
theorem zAJ {α:Type} (p:α->Bool):∀ (l:List α) (i:Int),0<=i->decide (zC4 p l i≥0)=l.any p
 | [],i,h=>by simp [zC4]
 | x::xs,i,h=>by
   have I:=zAJ p xs (i+1) (by omega)
   rw [mG,mC] at I ⊢
   simp only [zC4,List.any_cons,mT]
   by_cases J:p x=true
   ·simp only [J,me,true_or,iff_true];exact h
   ·simpa [J] using I
/-- a row of words -/
def zA (l:List ByteArray):List D:=l.map λs=>.lit (.string s)
theorem yn:∀ l:List ByteArray,All2 (λs d=>d=.lit (.string s)) l (zA l)
 | []=>rfl
 | s::l=>⟨_,_,rfl,rfl,yn l⟩
theorem zLJ (l:List ByteArray) (hl:l.length<=4611686018427387904) (a:Option Addr) (c:Nat) (s:ByteArray):pc 241 [.sv a 0 (zA l) c,.str s] (zC4 (λx=>decide (s=x)) l 0):=λN Q hQ=>by
 have O:=yn l
 have U:(zA l).length<=4611686018427387904:=by rw [O.len];exact hl
 refine pV N a _ c s Q λ_=>?_
 refine up O U (λi xs=>∀ (N':Nat),N<=N'->(∀ N'',N'<=N''->Q (zC4 (λx=>decide (s=x)) xs i) N'')->yV Q N a (zA l) c s ((zA l).length:Int) i N') ?_ ?_ N (oD _) hQ
 ·intro i aa _ N' Y I
  refine vM _ _ _ _ _ _ _ _ _ ?_
  repeat' first|with_reducible intro _|simp only[aa,Y1,Y2,Y3,Y4]|with_reducible refine X ?_ ?_|refine⟨_,_,_,rfl,?_⟩|refine⟨_,rfl,?_⟩|refine And.intro (by first|omega|trivial|(show _=_;rfl)|(with_reducible constructor)<;>first|omega|trivial|rfl) ?_|fail
  exact I _ (by omega)
 ·intro i x xs J _ ab N' Y I
  have hb:=J.b
  have hr:=J.r
  simp only [zC4] at I
  refine vM _ _ _ _ _ _ _ _ _ ?_
  repeat' first|with_reducible intro _|simp only[J.lt,J.w,oG,hr,Y1,Y2,Y3,Y4]|with_reducible refine X ?_ ?_|refine⟨_,_,_,rfl,?_⟩|refine⟨_,rfl,?_⟩|refine And.intro (by first|omega|trivial|(show _=_;rfl)|(with_reducible constructor)<;>first|omega|trivial|rfl) ?_|fail
  ·rename_i h _ _;subst h;exact Qi (I _ (by omega)) (by simp)
  ·rename_i h;exact ab _ Y λN'' h2=>Qi (I _ h2) (by rw [if_neg (by simpa using h)];simp)
theorem yb (l:List ByteArray) (I:l.length<=4611686018427387904) (a:Option Addr) (c:Nat) (s:ByteArray):ue 184 [.sv a 0 (zA l) c,.str s] (l.any λx=>decide (s=x)):=λN Q J=>by
 refine s9 N a _ c s Q λ_=>?_
 repeat' first|with_reducible intro _|simp only[Y1,Y2,Y3,Y4]|with_reducible refine X ?_ ?_|refine⟨_,_,_,rfl,?_⟩|refine⟨_,rfl,?_⟩|refine And.intro (by first|omega|trivial|(show _=_;rfl)|(with_reducible constructor)<;>first|omega|trivial|rfl) ?_|refine (zLJ l I a c s) _ _ ?_|fail
 exact Qb (J _ (by omega)) (zAJ _ l 0 (by omega)).symm
theorem zAw (s:ByteArray) (hs:s.size<=4611686018427387904):ue 237 [.str s] (yc s):=λN Q Y=>by
 refine zHu N s Q ?_
 have key:=upN hs (λi=>∀ N',N<=N'->(∀ N'',N'<=N''->Q (u5 s i&&zDl s) N'')->yj Q N s (s.size:Int) i N') ?_ ?_
 ·exact key N (oD _) Y
 ·intro J N' O I
  have hc:=yb [bytes [105,102],bytes [108,101,116],bytes [108,105,102,116],bytes [114,101,99],bytes [114,117,110]] (by simp)
  simp only [zA,List.map] at hc
  refine rG _ _ _ _ _ _ ?_
  repeat' first|with_reducible intro _|simp only[J,Y1,Y2,Y3,Y4]|with_reducible refine X ?_ ?_|refine⟨_,_,_,rfl,?_⟩|refine⟨_,rfl,?_⟩|refine And.intro (by first|omega|trivial|(show _=_;rfl)|(with_reducible constructor)<;>first|omega|trivial|rfl) ?_|refine (yX _ _ _) _ _ ?_|refine (hc _ _ _) _ _ ?_|fail
  all_goals (refine Qb (I _ (by omega)) ?_;rw [zCJ])
  ·simp only [zDl,List.any_cons,List.any_nil,Bool.or_false, *]
   cases decide (s=bytes [105,102])<;>cases decide (s=bytes [108,101,116])<;>cases decide (s=bytes [108,105,102,116])<;>cases decide (s=bytes [114,101,99])<;>cases decide (s=bytes [114,117,110])<;>rfl
  ·simp [zDl, *]
 ·intro i hi J hw U N' O I
  refine rG _ _ _ _ _ _ ?_
  rw [zAN hi] at I
  repeat' first|with_reducible intro _|simp only[J,hw,oG,Y1,Y2,Y3,Y4]|with_reducible refine X ?_ ?_|refine⟨_,_,_,rfl,?_⟩|refine⟨_,rfl,?_⟩|refine And.intro (by first|omega|trivial|(show _=_;rfl)|(with_reducible constructor)<;>first|omega|trivial|rfl) ?_|fail
  all_goals first
   | (refine Qb (I _ (by omega)) ?_;unfold zGw zCC;simp only [*];simp;done)
   | (refine U _ (by omega) λN'' h=>Qb (I N'' (by omega)) ?_;unfold zGw zCC;simp only [*];simp;done)
theorem zBl:∀ (t:Ty) (d:D),t.Is d->t.cnt<=1073741824->pc 275 [.dg 2 d] t.cnt:=by
 refine Ty.ind λk l ih d hd hc N Q hQ=>?_
 obtain ⟨a,es,c,rfl,J,O⟩:=Ty.is_mk.1 hd
 simp only [Ty.cnt] at hc
 refine zBe N _ Q λ_=>⟨_,_,_,rfl,?_⟩
 refine up O J (λi xs=>∀ (m:Nat) (N':Nat),N<=N'->m+zi xs=1+zi l->yx Q N m a es c es.length i N') ?_ ?_ 1 N (oD _) rfl
 ·intro i U _ m N' Y hm
  refine uO _ _ _ _ _ _ _ _ _ ?_
  simp only [zi] at hm
  repeat' first|with_reducible intro _|simp only[U,Y1,Y2,Y3,Y4]|with_reducible refine X ?_ ?_|refine⟨_,_,_,rfl,?_⟩|refine⟨_,rfl,?_⟩|refine And.intro (by first|omega|trivial|(show _=_;rfl)|(with_reducible constructor)<;>first|omega|trivial|rfl) ?_|fail
  exact Qi (hQ _ (by omega)) (by simp only [Ty.cnt];omega)
 ·intro i x xs I _ aa m N' Y hm
  have hb:=I.b
  have ab:=w6 I.m
  simp only [zi] at hm
  refine uO _ _ _ _ _ _ _ _ _ ?_
  repeat' first|with_reducible intro _|simp only[I.lt,I.w,oG,Y1,Y2,Y3,Y4]|with_reducible refine X ?_ ?_|refine⟨_,_,_,rfl,?_⟩|refine⟨_,rfl,?_⟩|refine And.intro (by first|omega|trivial|(show _=_;rfl)|(with_reducible constructor)<;>first|omega|trivial|rfl) ?_|refine (ih x I.m _ I.r (by omega)) _ _ ?_|fail
  rw [i64_in _ (by omega)]
  exact aa (m+x.cnt) _ (by omega) (by omega)
theorem zAb:∀ (t:Ty) (d:D),t.Is d->t.cnt<=1073741824->pc 276 [.dg 2 d] t.dep:=by
 refine Ty.ind λk l ih d hd hc N Q hQ=>?_
 obtain ⟨a,es,c,rfl,J,O⟩:=Ty.is_mk.1 hd
 simp only [Ty.cnt] at hc
 have ab:=qR l
 refine zAk N _ Q λ_=>⟨_,_,_,rfl,?_⟩
 refine up O J (λi xs=>∀ (m:Nat) (N':Nat),N<=N'->max m (sQ xs)=sQ l->yf Q N m a es c es.length i N') ?_ ?_ 0 N (oD _) (by omega)
 ·intro i U _ m N' Y hm
  refine ve _ _ _ _ _ _ _ _ _ ?_
  simp only [sQ] at hm
  repeat' first|with_reducible intro _|simp only[U,Y1,Y2,Y3,Y4]|with_reducible refine X ?_ ?_|refine⟨_,_,_,rfl,?_⟩|refine⟨_,rfl,?_⟩|refine And.intro (by first|omega|trivial|(show _=_;rfl)|(with_reducible constructor)<;>first|omega|trivial|rfl) ?_|fail
  rw [i64_in _ (by omega)]
  exact Qi (hQ _ (by omega)) (by simp only [Ty.dep];omega)
 ·intro i x xs I _ aa m N' Y hm
  have hb:=I.b
  have ac:=w6 I.m
  simp only [sQ] at hm
  refine ve _ _ _ _ _ _ _ _ _ ?_
  repeat' first|with_reducible intro _|simp only[I.lt,I.w,oG,Y1,Y2,Y3,Y4]|with_reducible refine X ?_ ?_|refine⟨_,_,_,rfl,?_⟩|refine⟨_,rfl,?_⟩|refine And.intro (by first|omega|trivial|(show _=_;rfl)|(with_reducible constructor)<;>first|omega|trivial|rfl) ?_|refine (ih x I.m _ I.r (by omega)) _ _ ?_|fail
  have e:(if (x.dep:Int)>(m:Int) then (x.dep:Int) else (m:Int))=((max m x.dep:Nat):Int):=by split<;>omega
  rw [e]
  exact aa _ _ (by omega) (by omega)
theorem zFI (t:Ty) (d:D) (hd:t.Is d):ue 277 [.dg 2 d] (zFm t.k t.as.length):=λN Q J=>by
 cases t with
 | mk k l=>
 obtain ⟨a,es,c,rfl,U,O⟩:=Ty.is_mk.1 hd
 have Y:=O.len
 simp only [Ty.k,Ty.as] at J
 refine qv N _ Q λ_=>?_
 cases I:inB k 1 4 with
 | false=>
   repeat' first|with_reducible intro _|simp only[I,Y1,Y2,Y3,Y4]|with_reducible refine X ?_ ?_|refine⟨_,_,_,rfl,?_⟩|refine⟨_,rfl,?_⟩|refine And.intro (by first|omega|trivial|(show _=_;rfl)|(with_reducible constructor)<;>first|omega|trivial|rfl) ?_|refine (yX _ _ _) _ _ ?_|fail
   refine Qb (J _ (by omega)) ?_
   have:¬(1<=k/\k<=4):=λh=>by rw [yN.2 h] at I;cases I
   unfold zFm
   rw [if_neg (by omega),if_neg (by omega),if_neg (by omega)]
 | true=>
   have hb:=yN.1 I
   have w0:IntKind.i64.wrap 0=0:=rfl
   have w1:IntKind.i64.wrap 1=1:=rfl
   have w2:IntKind.i64.wrap 2=2:=rfl
   have w3:IntKind.i64.wrap 3=3:=rfl
   have hk:k=1\/k=2\/k=3\/k=4:=by omega
   rcases hk with rfl | rfl | rfl | rfl
   all_goals
    repeat' first|with_reducible intro _|simp only[I,w0,w1,w2,w3,Y1,Y2,Y3,Y4]|with_reducible refine X ?_ ?_|refine⟨_,_,_,rfl,?_⟩|refine⟨_,rfl,?_⟩|refine And.intro (by first|omega|trivial|(show _=_;rfl)|(with_reducible constructor)<;>first|omega|trivial|rfl) ?_|refine (yX _ _ _) _ _ ?_|fail
    refine Qb (J _ (by omega)) ?_
    simp [zFm,Y]
theorem zDx:∀ l:List Ty,tO l=!(l.any λx=>!x.form)
 | []=>rfl
 | t::I=>by simp only [tO,List.any_cons,zDx I];cases t.form<;>simp
theorem zDf {p:Ty->Bool} {l:List Ty} {es:List D} (h:All2 Ty.Is l es) (O:es.length<=4611686018427387904) (ad:Addr) (hp:∀ x∈l,∀ d,x.Is d->ue 281 [.dg 2 d,.pd ad 0 (.fn 277 [])] (p x)) (a:Option Addr) (c:Nat) :
  ue 280 [.sv a 2 es c,.fn 281 [.pd ad 0 (.fn 277 [])]] (l.any p):=λN Q U=>by
 have hi:pc 296 [.sv a 2 es c,.fn 281 [.pd ad 0 (.fn 277 [])]] (zC4 p l 0):=λN Q U=>by
  refine uj N a es c ad Q λ_=>?_
  refine up h O (λi xs=>∀ (N':Nat),N<=N'->(∀ N'',N'<=N''->Q (zC4 p xs i) N'')->zr Q N a es c ad es.length i N') ?_ ?_ N (oD _) U
  ·intro i Y _ N' aa I
   refine xj _ _ _ _ _ _ _ _ _ ?_
   repeat' first|with_reducible intro _|simp only[Y,Y1,Y2,Y3,Y4]|with_reducible refine X ?_ ?_|refine⟨_,_,_,rfl,?_⟩|refine⟨_,rfl,?_⟩|refine And.intro (by first|omega|trivial|(show _=_;rfl)|(with_reducible constructor)<;>first|omega|trivial|rfl) ?_|fail
   exact I _ (by omega)
  ·intro i x xs J _ ab N' aa I
   have hb:=J.b
   simp only [zC4] at I
   refine xj _ _ _ _ _ _ _ _ _ ?_
   repeat' first|with_reducible intro _|simp only[J.lt,J.w,oG,Y1,Y2,Y3,Y4]|with_reducible refine X ?_ ?_|refine⟨_,_,_,rfl,?_⟩|refine⟨_,rfl,?_⟩|refine And.intro (by first|omega|trivial|(show _=_;rfl)|(with_reducible constructor)<;>first|omega|trivial|rfl) ?_|refine (hp x J.m _ J.r) _ _ ?_|fail
   ·exact Qi (I _ (by omega)) (by rw [if_pos (by assumption)])
   ·rename_i h;exact ab _ (by omega) λN'' h2=>Qi (I _ (by omega)) (by rw [h];simp)
 refine vZ N a es c ad Q λ_=>?_
 repeat' first|with_reducible intro _|simp only[Y1,Y2,Y3,Y4]|with_reducible refine X ?_ ?_|refine⟨_,_,_,rfl,?_⟩|refine⟨_,rfl,?_⟩|refine And.intro (by first|omega|trivial|(show _=_;rfl)|(with_reducible constructor)<;>first|omega|trivial|rfl) ?_|refine hi _ _ ?_|fail
 exact Qb (U _ (by omega)) (zAJ _ l 0 (by omega)).symm
theorem zNJ:∀ (t:Ty) (d:D),t.Is d->ue 251 [.dg 2 d,.fn 277 []] t.form:=by
 refine Ty.ind λk l Y d hd N Q I=>?_
 have O:=hd
 obtain ⟨a,es,c,rfl,J,U⟩:=Ty.is_mk.1 hd
 refine p6 N _ Q λ_=>?_
 simp only [Ty.form,zDx] at I
 repeat' first|with_reducible intro _|simp only[Y1,Y2,Y3,Y4]|with_reducible refine X ?_ ?_|refine⟨_,_,_,rfl,?_⟩|refine⟨_,rfl,?_⟩|refine And.intro (by first|omega|trivial|(show _=_;rfl)|(with_reducible constructor)<;>first|omega|trivial|rfl) ?_|refine (zFI _ _ O) _ _ ?_|refine (zDf U J _ (λx hx d hd=>λN Q I=>qm N d _ Q λ_ N1 aa=>Y x hx d hd N1 _ λN2 ab ac N3 ae=>I N3 (by omega)) _ _) _ _ ?_|fail
 ·have h:zFm (Ty.mk k l).k (Ty.mk k l).as.length=true:=by assumption
  exact Qb (I _ (by omega)) (by simp only [Ty.k,Ty.as] at h;rw [h,Bool.and_true])
 ·rename_i h _ _
  exact Qb (I _ (by omega)) (by simp only [Ty.k,Ty.as] at h;rw [h,Bool.and_false])
theorem tL (t:Ty) (d:D) (hd:t.Is d) (hc:t.cnt<=1073741824):ue 239 [.dg 2 d] t.valid:=λN Q I=>by
 refine pi N _ Q λ_=>?_
 repeat' first|with_reducible intro _|simp only[Y1,Y2,Y3,Y4]|with_reducible refine X ?_ ?_|refine⟨_,_,_,rfl,?_⟩|refine⟨_,rfl,?_⟩|refine And.intro (by first|omega|trivial|(show _=_;rfl)|(with_reducible constructor)<;>first|omega|trivial|rfl) ?_|refine (zBl t d hd hc) _ _ ?_|refine (zAb t d hd hc) _ _ ?_|refine (zNJ t d hd) _ _ ?_|fail
 ·refine Qb (I _ (by omega)) ?_
  have J:t.cnt<=30:=by omega
  have O:t.dep<=8:=by omega
  simp [Ty.valid, *]
 ·refine Qb (I _ (by omega)) ?_
  have O:¬t.dep<=8:=by omega
  simp [Ty.valid, *]
 ·refine Qb (I _ (by omega)) ?_
  have J:¬t.cnt<=30:=by omega
  simp [Ty.valid, *]
theorem xn:∀ (t u:Ty) (d e:D),t.Is d->u.Is e->ue 113 [.dg 2 d,.dg 2 e] (zNU t u):=by
 refine Ty.ind λk l ih u d e hd he N Q Y=>?_
 cases u with
 | mk k' l'=>
 obtain ⟨a,es,c,rfl,aa,ab⟩:=Ty.is_mk.1 hd
 obtain ⟨a',U,c',rfl,ae,O⟩:=Ty.is_mk.1 he
 have hl:=ab.len
 have al:=O.len
 simp only [zNU] at Y
 have hf:ue 180 [.sv a 2 es c,.sv a' 2 U c',.fn 113 []] (sJ l l'):=λN Q Y=>by
  have key:l.length=l'.length->∀ (N':Nat),N<=N'->(∀ N'',N'<=N''->Q (sJ l (l'.drop 0)) N'')->zQ Q N a' U c' a es c es.length (0:Nat) N':=by
   intro am
   refine up ab aa (λi xs=>∀ (N':Nat),N<=N'->(∀ N'',N'<=N''->Q (sJ xs (l'.drop i)) N'')->zQ Q N a' U c' a es c es.length i N') ?_ ?_
   ·intro i ah hi N' ai I
    refine xg _ _ _ _ _ _ _ _ _ _ _ ?_
    repeat' first|with_reducible intro _|simp only[ah,Y1,Y2,Y3,Y4]|with_reducible refine X ?_ ?_|refine⟨_,_,_,rfl,?_⟩|refine⟨_,rfl,?_⟩|refine And.intro (by first|omega|trivial|(show _=_;rfl)|(with_reducible constructor)<;>first|omega|trivial|rfl) ?_|fail
    refine Qb (I _ (by assumption)) ?_
    rw [nw (by omega)]
    rfl
   ·intro i x xs J _ aj N' ai I
    have hb:=J.b
    have ac:i<l'.length:=by omega
    have hg:l'[i]?=some l'[i]:=oF ac
    have ak:l'.drop i=l'[i]::l'.drop (i+1):=mS ac
    refine xg _ _ _ _ _ _ _ _ _ _ _ ?_
    rw [ak] at I
    repeat' first|with_reducible intro _|simp only[J.lt,J.w,oG,Y1,Y2,Y3,Y4]|with_reducible refine X ?_ ?_|refine⟨_,_,_,rfl,?_⟩|refine⟨_,rfl,?_⟩|refine And.intro (by first|omega|trivial|(show _=_;rfl)|(with_reducible constructor)<;>first|omega|trivial|rfl) ?_|refine (ih x J.m _ _ _ J.r (O.get hg)) _ _ ?_|fail
    ·exact Qb (I _ (by omega)) (by simp [sJ, *])
    ·exact aj _ (by omega) λN'' h=>Qb (I N'' (by omega)) (by simp [sJ, *])
  refine uf N _ _ _ _ _ _ Q λ_ _=>?_
  repeat' first|with_reducible intro _|simp only[Y1,Y2,Y3,Y4]|with_reducible refine X ?_ ?_|refine⟨_,_,_,rfl,?_⟩|refine⟨_,rfl,?_⟩|refine And.intro (by first|omega|trivial|(show _=_;rfl)|(with_reducible constructor)<;>first|omega|trivial|rfl) ?_|fail
  ·exact Qb (Y _ (by assumption)) (zEL (by omega))
  ·exact key (by omega) N (oD _) Y
 refine zCs N _ _ Q λ_ _=>?_
 repeat' first|with_reducible intro _|simp only[Y1,Y2,Y3,Y4]|with_reducible refine X ?_ ?_|refine⟨_,_,_,rfl,?_⟩|refine⟨_,rfl,?_⟩|refine And.intro (by first|omega|trivial|(show _=_;rfl)|(with_reducible constructor)<;>first|omega|trivial|rfl) ?_|refine hf _ _ ?_|fail
 ·exact Qb (Y _ (by omega)) (by simp [*])
 ·exact Qb (Y _ (by omega)) (by simp [*])
theorem pD (s:ByteArray):pc 236 [.str s] (zDC s):=λN Q I=>by
 refine zFd N s Q ?_
 repeat' first|with_reducible intro _|simp only[Y1,Y2,Y3,Y4]|with_reducible refine X ?_ ?_|refine⟨_,_,_,rfl,?_⟩|refine⟨_,rfl,?_⟩|refine And.intro (by first|omega|trivial|(show _=_;rfl)|(with_reducible constructor)<;>first|omega|trivial|rfl) ?_|fail
 all_goals (refine Qi (I _ (by assumption)) ?_;unfold zDC;(repeat' split)<;>first | rfl | contradiction)
def arI (k:Int) (nm:ByteArray):Int:=
 if k=4 then zDC nm else if k=5 then 3 else if k=7\/k=8 then 2 else if k=6\/k=9\/k=10\/k=11\/k=12\/k=13 then 1 else 0
theorem zKP {k n:Int} {nm ot:ByteArray} {t0 t1 r0 r1 x:D}:pc 178 [.dg 9 (.ag [.lit (.int .i64 k),.lit (.string nm),.lit (.string ot),.lit (.int .i64 n),t0,t1,r0,r1,x])] (arI k nm):=λN Q I=>by
 refine zJf N _ Q λ_=>?_
 repeat' first|with_reducible intro _|simp only[Y1,Y2,Y3,Y4]|with_reducible refine X ?_ ?_|refine⟨_,_,_,rfl,?_⟩|refine⟨_,rfl,?_⟩|refine And.intro (by first|omega|trivial|(show _=_;rfl)|(with_reducible constructor)<;>first|omega|trivial|rfl) ?_|refine (pD _) _ _ ?_|fail
 all_goals (refine Qi (I _ (by omega)) ?_;simp [arI, *])
theorem uX (n:Int):ue 238 [.int .i64 n] (inB n 0 10006):=λN Q I=>by
 refine zFQ N n Q ?_
 repeat' first|with_reducible intro _|simp only[Y1,Y2,Y3,Y4]|with_reducible refine X ?_ ?_|refine⟨_,_,_,rfl,?_⟩|refine⟨_,rfl,?_⟩|refine And.intro (by first|omega|trivial|(show _=_;rfl)|(with_reducible constructor)<;>first|omega|trivial|rfl) ?_|refine (yX _ _ _) _ _ ?_|fail
 exact I _ (by omega)
def zGY (k:Int) (nm ot:ByteArray) (n:Int) (ty re:Ty):Bool:=
 if k=1\/k=8 then yc nm else if k=2 then inB n 0 10006 else if k=3 then inB n 0 1 else if k=4 then decide (zDC nm>0)
 else if k=6 then yc nm&&ty.valid else if k=9 then yc nm&&(yc ot&&(!decide (nm=ot)&&(ty.valid&&re.valid))) else inB k 1 13
theorem zFi {k n:Int} {nm ot:ByteArray} {ty re:Ty} {t0 t1 r0 r1 x:D} (h:Tm.Hd nm ot ty re t0 t1 r0 r1) (hc:ty.cnt<=1073741824) (I:re.cnt<=1073741824) :
  ue 179 [.dg 9 (.ag [.lit (.int .i64 k),.lit (.string nm),.lit (.string ot),.lit (.int .i64 n),t0,t1,r0,r1,x])] (zGY k nm ot n ty re):=λN Q J=>by
 refine zF3 N _ Q λ_=>?_
 repeat' first|with_reducible intro _|simp only[Y1,Y2,Y3,Y4]|with_reducible refine X ?_ ?_|refine⟨_,_,_,rfl,?_⟩|refine⟨_,rfl,?_⟩|refine And.intro (by first|omega|trivial|(show _=_;rfl)|(with_reducible constructor)<;>first|omega|trivial|rfl) ?_|refine (pD _) _ _ ?_|refine (zAw _ h.nm) _ _ ?_|refine (zAw _ h.ot) _ _ ?_|refine (uX _) _ _ ?_|refine (yX _ _ _) _ _ ?_|refine (tL _ _ h.ty hc) _ _ ?_|refine (tL _ _ h.re I) _ _ ?_|fail
 all_goals (refine Qb (J _ (by omega)) ?_;simp [zGY, *])
theorem zA4 (t:Ty):zNU t t=true:=(zMC t t).2 rfl
def zMt (k:Int) (nm ot:ByteArray) (n:Int) (ty re:Ty) (m:Int):Bool:=
 decide (m=arI k nm)&&(zGY k nm ot n ty re&&((decide (k=1\/k=8\/k=4\/k=6\/k=9)||decide (nm=bytes []))&&((decide (k=9)||decide (ot=bytes []))&&((decide (k=2\/k=3)||decide (n=0)) &&
  ((decide (k=6\/k=9)||zNU ty tZero)&&(decide (k=9)||zNU re tZero))))))
theorem zGI {k n:Int} {nm ot:ByteArray} {ty re:Ty} {t0 t1 r0 r1:D} {a:Option Addr} {es:List D} {c:Nat} (h:Tm.Hd nm ot ty re t0 t1 r0 r1) (hc:ty.cnt<=1073741824) (I:re.cnt<=1073741824) :
  ue 112 [.dg 9 (.ag [.lit (.int .i64 k),.lit (.string nm),.lit (.string ot),.lit (.int .i64 n),t0,t1,r0,r1,.sl a 9 es c])] (zMt k nm ot n ty re es.length):=λN Q J=>by
 refine zHd N _ Q λ_=>?_
 repeat' first|with_reducible intro _|simp only[Y1,Y2,Y3,Y4]|with_reducible refine X ?_ ?_|refine⟨_,_,_,rfl,?_⟩|refine⟨_,rfl,?_⟩|refine And.intro (by first|omega|trivial|(show _=_;rfl)|(with_reducible constructor)<;>first|omega|trivial|rfl) ?_|refine zKP _ _ ?_|refine (zFi h hc I) _ _ ?_|refine (xn ty tZero _ _ h.ty zPP) _ _ ?_|refine (xn re tZero _ _ h.re zPP) _ _ ?_|refine (xn ty ty _ _ h.ty h.ty) _ _ ?_|refine (xn re re _ _ h.re h.re) _ _ ?_|fail
 all_goals first | (exfalso;omega) | (refine Qb (J _ (by omega)) ?_;simp [zMt,zA4, *];done) | (refine Qb (J _ (by omega)) ?_;simp_all [zMt,zA4];done)
theorem zSR (t:Ty):zNU t tZero=t.zero:=by
 cases t with
 | mk k l => cases l<;>simp [zNU,tZero,sJ,Ty.zero,Ty.k,Ty.as]
             try omega
theorem zMn {t:Ty} (h:t.zero=true):t.valid=false:=by
 cases t with
 | mk k l=>
   simp only [Ty.zero,Ty.k,Ty.as,oK,mB] at h
   simp [Ty.valid,Ty.form,zFm,h.1]
theorem zUj (n:Int):inB n 0 0=decide (n=0):=by
 rw [mG,yN,mC];omega
theorem zp (t:Ty) (b:Bool):(!t.valid&&(t.zero&&b))=(t.zero&&b):=by
 cases h:t.zero with
 | false=>simp
 | true=>rw [zMn h];simp
theorem zP4 (k:Int) (nm ot:ByteArray) (n:Int) (ty re:Ty) (m:Int) (hm:0<=m):zMt k nm ot n ty re m=(zH k nm ot n ty re&&m==zFR k nm):=by
 by_cases Y:k=1\/k=2\/k=3\/k=4\/k=5\/k=6\/k=7\/k=8\/k=9\/k=10\/k=11\/k=12\/k=13
 ·rw [zUC m]
  have b5:inB 5 1 13=true:=rfl
  have b7:inB 7 1 13=true:=rfl
  have I:inB 10 1 13=true:=rfl
  have J:inB 11 1 13=true:=rfl
  have O:inB 12 1 13=true:=rfl
  have U:inB 13 1 13=true:=rfl
  rcases Y with rfl | rfl | rfl | rfl | rfl | rfl | rfl | rfl | rfl | rfl | rfl | rfl | rfl
  all_goals
   simp [zMt,arI,zGY,zH,rE,xB,zFR,zSR,zUj,zp,b5,b7,I,J,O,U]
   try (rw [mG];simp [and_comm,and_left_comm,and_assoc])
 ·have h1:zFR k nm = -1:=by
   unfold zFR;rw [if_neg (by omega),if_neg (by omega),if_neg (by omega),if_neg (by omega),if_neg (by omega)]
  have h2:inB k 1 13=false:=by
   cases h:inB k 1 13 with
   | false=>rfl
   | true=>have:=yN.1 h;omega
  have h3:zGY k nm ot n ty re=false:=by
   unfold zGY;rw [if_neg (by omega),if_neg (by omega),if_neg (by omega),if_neg (by omega),if_neg (by omega),if_neg (by omega),h2]
  have h4:(m==zFR k nm)=false:=by rw [h1,zUC];exact mH (by omega)
  rw [h4,zMt,h3]
  simp
theorem zPo {k n:Int} {nm ot:ByteArray} {ty re:Ty} {t0 t1 r0 r1:D} {a:Option Addr} {es:List D} {c:Nat} (h:Tm.Hd nm ot ty re t0 t1 r0 r1) (hc:ty.cnt<=1073741824) (I:re.cnt<=1073741824) :
  ue 112 [.dg 9 (.ag [.lit (.int .i64 k),.lit (.string nm),.lit (.string ot),.lit (.int .i64 n),t0,t1,r0,r1,.sl a 9 es c])] (zH k nm ot n ty re&&(es.length:Int)==zFR k nm):=by
 rw [<-zP4 _ _ _ _ _ _ _ (by omega)]
 exact zGI h hc I
theorem zKY:∀ l:List Tm,th l=!(l.any λx=>!x.ok)
 | []=>rfl
 | t::I=>by simp only [th,List.any_cons,zKY I];cases t.ok<;>simp
theorem zEG {p:Tm->Bool} {l:List Tm} {es:List D} (h:All2 Tm.Is l es) (O:es.length<=4611686018427387904) (ad:Addr) (hp:∀ x∈l,∀ d,x.Is d->ue 177 [.dg 9 d,.pd ad 0 (.fn 112 [])] (p x)) (a:Option Addr) (c:Nat) :
  ue 176 [.sv a 9 es c,.fn 177 [.pd ad 0 (.fn 112 [])]] (l.any p):=λN Q U=>by
 have hi:pc 235 [.sv a 9 es c,.fn 177 [.pd ad 0 (.fn 112 [])]] (zC4 p l 0):=λN Q U=>by
  refine uh N a es c ad Q λ_=>?_
  refine up h O (λi xs=>∀ (N':Nat),N<=N'->(∀ N'',N'<=N''->Q (zC4 p xs i) N'')->zt Q N a es c ad es.length i N') ?_ ?_ N (oD _) U
  ·intro i Y _ N' aa I
   refine xe _ _ _ _ _ _ _ _ _ ?_
   repeat' first|with_reducible intro _|simp only[Y,Y1,Y2,Y3,Y4]|with_reducible refine X ?_ ?_|refine⟨_,_,_,rfl,?_⟩|refine⟨_,rfl,?_⟩|refine And.intro (by first|omega|trivial|(show _=_;rfl)|(with_reducible constructor)<;>first|omega|trivial|rfl) ?_|fail
   exact I _ (by omega)
  ·intro i x xs J _ ab N' aa I
   have hb:=J.b
   simp only [zC4] at I
   refine xe _ _ _ _ _ _ _ _ _ ?_
   repeat' first|with_reducible intro _|simp only[J.lt,J.w,oG,Y1,Y2,Y3,Y4]|with_reducible refine X ?_ ?_|refine⟨_,_,_,rfl,?_⟩|refine⟨_,rfl,?_⟩|refine And.intro (by first|omega|trivial|(show _=_;rfl)|(with_reducible constructor)<;>first|omega|trivial|rfl) ?_|refine (hp x J.m _ J.r) _ _ ?_|fail
   ·exact Qi (I _ (by omega)) (by rw [if_pos (by assumption)])
   ·rename_i h;exact ab _ (by omega) λN'' h2=>Qi (I _ (by omega)) (by rw [h];simp)
 refine vW N a es c ad Q λ_=>?_
 repeat' first|with_reducible intro _|simp only[Y1,Y2,Y3,Y4]|with_reducible refine X ?_ ?_|refine⟨_,_,_,rfl,?_⟩|refine⟨_,rfl,?_⟩|refine And.intro (by first|omega|trivial|(show _=_;rfl)|(with_reducible constructor)<;>first|omega|trivial|rfl) ?_|refine hi _ _ ?_|fail
 exact Qb (U _ (by omega)) (zAJ _ l 0 (by omega)).symm
theorem zMw:∀ (t:Tm) (d:D),t.Is d->t.cnt<=1073741824->ue 111 [.dg 9 d,.fn 112 []] t.ok:=by
 refine Tm.ind λk nm ot n ty re l Y d hd hc N Q I=>?_
 obtain ⟨t0,t1,r0,r1,a,es,c,rfl,hh,J,O⟩:=Tm.is_mk.1 hd
 have hl:=O.len
 simp only [Tm.cnt] at hc
 refine zAg N _ Q λ_=>?_
 simp only [Tm.ok,zKY,<-hl] at I
 repeat' first|with_reducible intro _|simp only[Y1,Y2,Y3,Y4]|with_reducible refine X ?_ ?_|refine⟨_,_,_,rfl,?_⟩|refine⟨_,rfl,?_⟩|refine And.intro (by first|omega|trivial|(show _=_;rfl)|(with_reducible constructor)<;>first|omega|trivial|rfl) ?_|refine (zPo hh (by omega) (by omega)) _ _ ?_|refine (zEG O J _ (λx U d hd=>λN Q I=>qw N d _ Q λ_ N1 aa=>Y x U d hd (by have:=w4 U;omega) N1 _ λN2 ab ac N3 ae=>I N3 (by omega)) _ _) _ _ ?_|fail
 ·have h:(zH k nm ot n ty re&&(es.length:Int)==zFR k nm)=true:=by assumption
  exact Qb (I _ (by omega)) (by rw [h,Bool.and_true])
 ·have h:(zH k nm ot n ty re&&(es.length:Int)==zFR k nm)=false:=by assumption
  exact Qb (I _ (by omega)) (by rw [h,Bool.and_false])
theorem sH (t:Tm) (d:D) (hd:t.Is d) (hc:t.cnt<=1073741824):ue 50 [.dg 9 d] t.ok:=λN Q I=>by
 refine zIV N _ Q λ_=>?_
 repeat' first|with_reducible intro _|simp only[Y1,Y2,Y3,Y4]|with_reducible refine X ?_ ?_|refine⟨_,_,_,rfl,?_⟩|refine⟨_,rfl,?_⟩|refine And.intro (by first|omega|trivial|(show _=_;rfl)|(with_reducible constructor)<;>first|omega|trivial|rfl) ?_|refine (zMw t d hd hc) _ _ ?_|fail
 exact I _ (by omega)
theorem zLK {k n m:Int} {I J O U Y c7 c8:D} (h:0<=m/\m<=2):pc 224 [.dg 9 (.ag [.lit (.int .i64 k),I,J,.lit (.int .i64 n),O,U,Y,c7,c8]),.int .i64 m] (ya k m):=λN Q hQ=>by
 refine s5 N _ m Q λ_=>?_
 rw [i64_in (m+1) (by omega),i64_in (m - 1) (by omega)]
 repeat' first|with_reducible intro _|simp only[Y1,Y2,Y3,Y4]|with_reducible refine X ?_ ?_|refine⟨_,_,_,rfl,?_⟩|refine⟨_,rfl,?_⟩|refine And.intro (by first|omega|trivial|(show _=_;rfl)|(with_reducible constructor)<;>first|omega|trivial|rfl) ?_|fail
 all_goals (refine Qi (hQ _ (by omega)) ?_;simp [ya, *])
theorem zCG (d:D) (m:Int):ue 162 [.dg 9 d,.int .i64 m] (inB m 0 2):=λN Q I=>by
 refine zB2 N _ m Q λ_=>?_
 repeat' first|with_reducible intro _|simp only[Y1,Y2,Y3,Y4]|with_reducible refine X ?_ ?_|refine⟨_,_,_,rfl,?_⟩|refine⟨_,rfl,?_⟩|refine And.intro (by first|omega|trivial|(show _=_;rfl)|(with_reducible constructor)<;>first|omega|trivial|rfl) ?_|refine (yX _ _ _) _ _ ?_|fail
 exact I _ (by omega)
theorem zPq:∀ (t:Tm) (d:D),t.Is d->∀ m:Int,ue 161 [.dg 9 d,.int .i64 m,.fn 162 []] (t.lev m):=by
 refine Tm.ind λk nm ot n ty re l ih d hd m N Q hQ=>?_
 obtain ⟨t0,t1,r0,r1,a,es,c,rfl,hh,U,Y⟩:=Tm.is_mk.1 hd
 have hl:=Y.len
 refine zDF N _ m Q λ_=>?_
 cases I:inB m 0 2 with
 | false=>
   repeat' first|with_reducible intro _|simp only[I,Y1,Y2,Y3,Y4]|with_reducible refine X ?_ ?_|refine⟨_,_,_,rfl,?_⟩|refine⟨_,rfl,?_⟩|refine And.intro (by first|omega|trivial|(show _=_;rfl)|(with_reducible constructor)<;>first|omega|trivial|rfl) ?_|refine (zCG _ _) _ _ ?_|fail
   exact Qb (hQ _ (by omega)) (by simp [Tm.lev,I])
 | true=>
   have hb:=yN.1 I
   have key:=up Y U (λi xs=>∀ (N':Nat),N<=N'->(∀ N'',N'<=N''->Q (rN xs (ya k m)) N'')->wa Q N m a es c es.length i (.ag [.lit (.int .i64 k),.lit (.string nm),.lit (.string ot),.lit (.int .i64 n),t0,t1,r0,r1,.sl a 9 es c]) N') ?_ ?_
   ·repeat' first|with_reducible intro _|simp only[I,Y1,Y2,Y3,Y4]|with_reducible refine X ?_ ?_|refine⟨_,_,_,rfl,?_⟩|refine⟨_,rfl,?_⟩|refine And.intro (by first|omega|trivial|(show _=_;rfl)|(with_reducible constructor)<;>first|omega|trivial|rfl) ?_|refine (zCG _ _) _ _ ?_|fail
    exact key _ (by omega) λN'' h=>Qb (hQ N'' (by omega)) (by simp [Tm.lev,I])
   ·intro i aa _ N' ab O
    refine rP _ _ _ _ _ _ _ _ _ _ ?_
    repeat' first|with_reducible intro _|simp only[aa,Y1,Y2,Y3,Y4]|with_reducible refine X ?_ ?_|refine⟨_,_,_,rfl,?_⟩|refine⟨_,rfl,?_⟩|refine And.intro (by first|omega|trivial|(show _=_;rfl)|(with_reducible constructor)<;>first|omega|trivial|rfl) ?_|fail
    exact Qb (O _ (by omega)) (by simp [rN])
   ·intro i x xs J _ ac N' ab O
    have ae:=J.b
    refine rP _ _ _ _ _ _ _ _ _ _ ?_
    repeat' first|with_reducible intro _|simp only[J.lt,J.w,oG,Y1,Y2,Y3,Y4]|with_reducible refine X ?_ ?_|refine⟨_,_,_,rfl,?_⟩|refine⟨_,rfl,?_⟩|refine And.intro (by first|omega|trivial|(show _=_;rfl)|(with_reducible constructor)<;>first|omega|trivial|rfl) ?_|refine (zLK hb) _ _ ?_|refine (ih x J.m _ J.r _) _ _ ?_|fail
    ·refine Qb (O _ (by omega)) ?_;simp [rN, *]
    ·exact ac _ (by omega) λN'' h=>Qb (O N'' (by omega)) (by simp [rN, *])
theorem uS (t:Tm) (d:D) (hd:t.Is d) (hc:t.cnt<=1073741824) (m:Int):ue 102 [.dg 9 d,.int .i64 m] (qn t m):=λN Q I=>by
 refine zFK N _ m Q λ_=>?_
 repeat' first|with_reducible intro _|simp only[Y1,Y2,Y3,Y4]|with_reducible refine X ?_ ?_|refine⟨_,_,_,rfl,?_⟩|refine⟨_,rfl,?_⟩|refine And.intro (by first|omega|trivial|(show _=_;rfl)|(with_reducible constructor)<;>first|omega|trivial|rfl) ?_|refine (sH t d hd hc) _ _ ?_|refine (zPq t d hd m) _ _ ?_|fail
 all_goals (refine Qb (I _ (by omega)) ?_;simp [qn, *])
theorem zTf:∀ (t:Ty) (d:D),t.Is d->t.cnt<=1073741824->zSf 226 [.dg 2 d] t:=by
 refine Ty.ind λk l ih d hd hc N Q hQ=>?_
 obtain ⟨a,es,c,rfl,Y,aa⟩:=Ty.is_mk.1 hd
 have hl:=aa.len
 simp only [Ty.cnt] at hc
 have al:=pQ l
 refine zEs N _ Q λ_=>⟨_,rfl,_,_,_,rfl,?_⟩
 have key:=up aa Y (λi xs=>∀ (N':Nat),N<=N'->(i=0->vB Q N a es c es.length i 0 none [] 0 k none [] 0 N')/\∀ (m q:Nat) (r:List D),m=r.length->All2 Ty.Is (l.take i) r->OwnL N N' r ->
  yg Q N a es c es.length i 0 none [] 0 k m q r q N') ?_ ?_
 ·exact (key N (oD _)).1 rfl
 ·intro i ab hi N' ai
  refine ⟨λh0=>tv _ _ _ _ _ _ _ _ _ _ _ _ _ _ _ _ ?_,λm q r hm U ho=>vh _ _ _ _ _ _ _ _ _ _ _ _ _ _ _ _ _ ?_⟩
  ·repeat' first|with_reducible intro _|simp only[ab,Y1,Y2,Y3,Y4]|with_reducible refine X ?_ ?_|refine⟨_,_,_,rfl,?_⟩|refine⟨_,rfl,?_⟩|refine And.intro (by first|omega|trivial|(show _=_;rfl)|(with_reducible constructor)<;>first|omega|trivial|rfl) ?_|fail
   have:l=[]:=oa (by omega)
   subst this
   exact hQ _ _ (by omega) (xb _) zHZ
  ·repeat' first|with_reducible intro _|simp only[ab,Y1,Y2,Y3,Y4]|with_reducible refine X ?_ ?_|refine⟨_,_,_,rfl,?_⟩|refine⟨_,rfl,?_⟩|refine And.intro (by first|omega|trivial|(show _=_;rfl)|(with_reducible constructor)<;>first|omega|trivial|rfl) ?_|fail
   rename_i a' N3 J hf N4 aj
   rw [oi (by omega)] at U
   exact hQ _ _ (by omega) (Ty.is_mk.2 ⟨_,_,_,rfl,by have:=U.len;omega,U⟩) (zGt (xG (xY ((zCR ho hf (by omega)).mono (oD _) aj))))
 ·intro i x xs I _ ac N' ai
  have hb:=I.b
  have am:=w6 I.m
  refine ⟨λh0=>tv _ _ _ _ _ _ _ _ _ _ _ _ _ _ _ _ ?_,λm q r hm U ho=>vh _ _ _ _ _ _ _ _ _ _ _ _ _ _ _ _ _ ?_⟩
  ·repeat' first|with_reducible intro _|simp only[I.lt,I.w,oG,Y1,Y2,Y3,Y4]|with_reducible refine X ?_ ?_|refine⟨_,_,_,rfl,?_⟩|refine⟨_,rfl,?_⟩|refine And.intro (by first|omega|trivial|(show _=_;rfl)|(with_reducible constructor)<;>first|omega|trivial|rfl) ?_|refine (ih x I.m _ I.r (by omega)) _ _ ?_|fail
   rename_i N2 ae d' N3 J hx O ak ah
   subst h0
   exact ⟨by unfold zB;simp,λc2=>(ac _ (by omega)).2 _ _ _ rfl (by rw [wm I.g];exact ⟨_,_,rfl,hx,rfl⟩) (xY (O.mono (by omega) (oD _)))⟩
  ·repeat' first|with_reducible intro _|simp only[I.lt,I.w,oG,Y1,Y2,Y3,Y4]|with_reducible refine X ?_ ?_|refine⟨_,_,_,rfl,?_⟩|refine⟨_,rfl,?_⟩|refine And.intro (by first|omega|trivial|(show _=_;rfl)|(with_reducible constructor)<;>first|omega|trivial|rfl) ?_|refine (ih x I.m _ I.r (by omega)) _ _ ?_|fail
   rename_i N2 ae d' N3 J hx O ak ah
   have ao:=U.len
   have aq:(l.take i).length=i:=by rw [nD];omega
   refine ⟨by unfold zB;simp only [oH,md];omega,λc2=>?_⟩
   exact (ac _ (by omega)).2 _ _ _ rfl (by rw [wm I.g];exact U.snoc hx) (wB (ho.mono (oD _) ae) (xY O) (by omega) J)
theorem uU {a:Option Addr} {z c:Nat} {es:List D}:∀ x∈(D.sl a z es c).foot,x∈zG es\/∃ ad,a=some ad/\x=ad.block:=by
 intro x hx
 cases a with
 | none=>simp only [D.foot] at hx;exact .inl hx
 | some ad=>
   simp only [D.foot] at hx
   split at hx
   ·simp at hx
   ·rcases oI.1 hx with rfl | hx
    ·exact .inr ⟨ad,rfl,rfl⟩
    ·exact .inl hx
theorem vD {bs:List (Option Addr)} {N N':Nat} {d:D} (J:wL N bs) (O:Own N N' d):Off bs d:=λa U ad I Y=>by
 have:=J a U ad I
 have:=O.lo _ Y
 omega
mutual
def Tm.sz:Tm->Nat
 | .mk _ _ _ _ _ _ l=>1+zT l
def zT:List Tm->Nat
 | []=>0
 | t::I=>t.sz+zT I
end
mutual
def Tm.dp:Tm->Nat
 | .mk _ _ _ _ _ _ l=>rK l+1
def rK:List Tm->Nat
 | []=>0
 | t::I=>max t.dp (rK I)
end
mutual
theorem Tm.sz_cnt:∀ t:Tm,t.sz<=t.cnt
 | .mk _ _ _ _ ty re l=>by simp only [Tm.sz,Tm.cnt];have:=zJH l;omega
theorem zJH:∀ l:List Tm,zT l<=zJ l
 | []=>oD _
 | t::I=>by simp only [zT,zJ];have:=t.sz_cnt;have:=zJH I;omega
end
mutual
theorem Tm.dp_cnt:∀ t:Tm,t.dp<=t.cnt
 | .mk _ _ _ _ ty re l=>by simp only [Tm.dp,Tm.cnt];have:=zET l;omega
theorem zET:∀ l:List Tm,rK l<=zJ l
 | []=>oD _
 | t::I=>by simp only [rK,zJ];have:=t.dp_cnt;have:=zET I;omega
end
/-- one form of a body's nodes -/
def zTw (k:Int):Bool:=inB k 1 5||k==8
mutual
def Tm.isB:Tm->Bool
 | .mk k _ _ _ _ _ l=>zUX l&&zTw k
def zUX:List Tm->Bool
 | []=>true
 | t::I=>t.isB&&zUX I
end
def Tm.vd (t:Tm):Bool:=decide (t.sz<=80)&&decide (t.dp<=20)&&t.ok
theorem p4:∀ (t:Tm) (d:D),t.Is d->∀ n:Int,0<=n->n<=1000->pc 302 [.dg 9 d,.int .i64 n] (if (t.sz:Int)<=n then n - t.sz else -1):=by
 refine Tm.ind λk nm ot n0 ty re l ih d hd n ae ah N Q hQ=>?_
 obtain ⟨t0,t1,r0,r1,a,es,c,rfl,hh,U,Y⟩:=Tm.is_mk.1 hd
 refine zIv N _ n Q λ_=>?_
 have key:=up Y U (λi xs=>∀ (m:Int) (N':Nat),N<=N' -> -1<=m->m<=1000->(∀ N'',N'<=N''->Q (if m<0 then -1 else if (zT xs:Int)<=m then m - zT xs else -1) N'') ->
  wY Q N m i (.ag [.lit (.int .i64 k),.lit (.string nm),.lit (.string ot),.lit (.int .i64 n0),t0,t1,r0,r1,.sl a 9 es c]) N') ?_ ?_
 ·rw [i64_in _ (by omega)]
  refine key (n - 1) N (oD _) (by omega) (by omega) λN' O=>Qi (hQ N' O) ?_
  simp only [Tm.sz]
  (repeat' split)<;>omega
 ·intro i aa _ m N' O h1 h2 J
  refine rM _ _ _ _ _ _ ?_
  repeat' first|with_reducible intro _|simp only[aa,Y1,Y2,Y3,Y4]|with_reducible refine X ?_ ?_|refine⟨_,_,_,rfl,?_⟩|refine⟨_,rfl,?_⟩|refine And.intro (by first|omega|trivial|(show _=_;rfl)|(with_reducible constructor)<;>first|omega|trivial|rfl) ?_|fail
  refine Qi (J _ (by assumption)) ?_
  simp only [zT]
  (repeat' split)<;>omega
 ·intro i x xs I _ ab m N' O h1 h2 J
  have hb:=I.b
  refine rM _ _ _ _ _ _ ?_
  repeat' first|with_reducible intro _|simp only[I.lt,I.w,oG,Y1,Y2,Y3,Y4]|with_reducible refine X ?_ ?_|refine⟨_,_,_,rfl,?_⟩|refine⟨_,rfl,?_⟩|refine And.intro (by first|omega|trivial|(show _=_;rfl)|(with_reducible constructor)<;>first|omega|trivial|rfl) ?_|refine (ih x I.m _ I.r m (by omega) (by omega)) _ _ ?_|fail
  ·refine ab _ _ (by omega) (by split<;>omega) (by split<;>omega) λN'' ac=>Qi (J N'' (by omega)) ?_
   simp only [zT]
   (repeat' split)<;>omega
  ·refine Qi (J _ (by assumption)) ?_
   rw [if_pos (by omega)]
   omega
theorem zGP:∀ (t:Tm) (d:D),t.Is d->t.cnt<=1073741824->pc 303 [.dg 9 d] t.dp:=by
 refine Tm.ind λk nm ot n0 ty re l ih d hd hc N Q hQ=>?_
 obtain ⟨t0,t1,r0,r1,a,es,c,rfl,hh,J,U⟩:=Tm.is_mk.1 hd
 refine zFa N _ Q λ_=>?_
 simp only [Tm.cnt] at hc
 have ab:=zET l
 have key:=up U J (λi xs=>∀ (m:Nat) (N':Nat),N<=N'->max m (rK xs)=rK l->xp Q N (m:Int) i (.ag [.lit (.int .i64 k),.lit (.string nm),.lit (.string ot),.lit (.int .i64 n0),t0,t1,r0,r1,.sl a 9 es c]) N') ?_ ?_
 ·exact key 0 N (oD _) (by omega)
 ·intro i Y _ m N' O hm
  simp only [rK] at hm
  refine sj _ _ _ _ _ _ ?_
  repeat' first|with_reducible intro _|simp only[Y,Y1,Y2,Y3,Y4]|with_reducible refine X ?_ ?_|refine⟨_,_,_,rfl,?_⟩|refine⟨_,rfl,?_⟩|refine And.intro (by first|omega|trivial|(show _=_;rfl)|(with_reducible constructor)<;>first|omega|trivial|rfl) ?_|fail
  rw [i64_in _ (by omega)]
  refine Qi (hQ _ (oT O (by assumption))) ?_
  simp only [Tm.dp]
  omega
 ·intro i x xs I _ aa m N' O hm
  have hb:=I.b
  have ac:=w4 I.m
  simp only [rK] at hm
  refine sj _ _ _ _ _ _ ?_
  repeat' first|with_reducible intro _|simp only[I.lt,I.w,oG,Y1,Y2,Y3,Y4]|with_reducible refine X ?_ ?_|refine⟨_,_,_,rfl,?_⟩|refine⟨_,rfl,?_⟩|refine And.intro (by first|omega|trivial|(show _=_;rfl)|(with_reducible constructor)<;>first|omega|trivial|rfl) ?_|refine (ih x I.m _ I.r (by omega)) _ _ ?_|refine (zCS _ _) _ _ ?_|fail
  have e:max (m:Int) (x.dp:Int)=((max m x.dp:Nat):Int):=by omega
  rw [e]
  exact aa _ _ (by omega) (by omega)
theorem zAx (t:Tm) (d:D) (hd:t.Is d) (hc:t.cnt<=1073741824):ue 288 [.dg 9 d] t.vd:=λN Q I=>by
 refine zAK N _ Q λ_=>?_
 by_cases O:t.sz<=80
 ·have J:((t.sz:Int)<=80):=by omega
  repeat' first|with_reducible intro _|simp only[if_pos J,Y1,Y2,Y3,Y4]|with_reducible refine X ?_ ?_|refine⟨_,_,_,rfl,?_⟩|refine⟨_,rfl,?_⟩|refine And.intro (by first|omega|trivial|(show _=_;rfl)|(with_reducible constructor)<;>first|omega|trivial|rfl) ?_|refine (p4 t d hd _ (by omega) (by omega)) _ _ ?_|refine (zGP t d hd hc) _ _ ?_|refine (zAr t d hd hc) _ _ ?_|fail
  all_goals first | omega | skip
  ·have U:t.dp<=20:=by omega
   refine Qb (I _ (by omega)) ?_;simp [Tm.vd, *]
  ·have U:¬t.dp<=20:=by omega
   refine Qb (I _ (by omega)) ?_;simp [Tm.vd, *]
 ·have J:¬((t.sz:Int)<=80):=by omega
  repeat' first|with_reducible intro _|simp only[if_neg J,Y1,Y2,Y3,Y4]|with_reducible refine X ?_ ?_|refine⟨_,_,_,rfl,?_⟩|refine⟨_,rfl,?_⟩|refine And.intro (by first|omega|trivial|(show _=_;rfl)|(with_reducible constructor)<;>first|omega|trivial|rfl) ?_|refine (p4 t d hd _ (by omega) (by omega)) _ _ ?_|fail
  all_goals first | omega | skip
  refine Qb (I _ (by omega)) ?_;simp [Tm.vd, *]
theorem y9 (l:List ByteArray) (hl:l.length<=4611686018427387904) (a:Option Addr) (c:Nat) (s:ByteArray):pc 234 [.sv a 0 (zA l) c,.str s] (zC4 (λx=>decide (x=s)) l 0):=λN Q hQ=>by
 have O:=yn l
 have U:(zA l).length<=4611686018427387904:=by rw [O.len];exact hl
 refine zFe N a _ c s Q λ_=>?_
 refine up O U (λi xs=>∀ (N':Nat),N<=N'->(∀ N'',N'<=N''->Q (zC4 (λx=>decide (x=s)) xs i) N'')->xr Q N a (zA l) c s i N') ?_ ?_ N (oD _) hQ
 ·intro i aa _ N' Y I
  refine sd _ _ _ _ _ _ _ _ ?_
  repeat' first|with_reducible intro _|simp only[aa,Y1,Y2,Y3,Y4]|with_reducible refine X ?_ ?_|refine⟨_,_,_,rfl,?_⟩|refine⟨_,rfl,?_⟩|refine And.intro (by first|omega|trivial|(show _=_;rfl)|(with_reducible constructor)<;>first|omega|trivial|rfl) ?_|fail
  exact I _ (by omega)
 ·intro i x xs J _ ab N' Y I
  have hb:=J.b
  have hr:=J.r
  simp only [zC4] at I
  refine sd _ _ _ _ _ _ _ _ ?_
  repeat' first|with_reducible intro _|simp only[J.lt,J.w,oG,hr,Y1,Y2,Y3,Y4]|with_reducible refine X ?_ ?_|refine⟨_,_,_,rfl,?_⟩|refine⟨_,rfl,?_⟩|refine And.intro (by first|omega|trivial|(show _=_;rfl)|(with_reducible constructor)<;>first|omega|trivial|rfl) ?_|fail
  ·rename_i h _ _;subst h;exact Qi (I _ (by omega)) (by simp)
  ·rename_i h;exact ab _ Y λN'' h2=>Qi (I _ h2) (by rw [if_neg (by simpa using h)];simp)
theorem w7 (l:List ByteArray) (s:ByteArray):zA l++[.lit (.string s)]=zA (l++[s]):=by simp [zA]
theorem zE (l:List ByteArray):(zA l).length=l.length:=by simp [zA]
end Go.Proofs.YtmfjakahanbnlaaGreatDoor
