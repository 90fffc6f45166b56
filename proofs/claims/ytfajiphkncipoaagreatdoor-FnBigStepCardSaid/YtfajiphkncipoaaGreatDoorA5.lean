/- Parameters: what they are; the laws' sizes, copies, equality and marks on them. -/
import Derived.Test.YtfajiphkncipoaaGreatDoorA4
import Derived.Test.YtfajiphkncipoaaGreatDoorA3
import Derived.Test.YtfajiphkncipoaaGreatDoorKi
set_option linter.unusedVariables false
set_option linter.unusedSimpArgs false
namespace Go.Proofs.YtfajiphkncipoaaGreatDoor
open Go Go.Proofs Go.Proofs.Tryz Go.IntWalk
structure Pm where
 nm:ByteArray
 ty:Ty
 dy:Bool
def Pm.Is (g:Pm) (d:D):Prop:=∃ t0 t1,d=.ag [.t g.nm,t0,t1,.lit (.bool g.dy)]/\g.nm.size<=4611686018427387904/\g.ty.Is (.ag [t0,t1])
theorem yL (n a b:Int):uo 43 [.j n,.j a,.j b] (inB n a b):=λN Q I=>by
 refine zII N n a b Q ?_
 repeat' first|with_reducible intro _|simp only[Y1,Y2,Y3,Y4]|with_reducible refine X ?_ ?_|refine⟨_,_,_,rfl,?_⟩|refine⟨_,rfl,?_⟩|refine And.intro (by first|omega|trivial|(show _=_;rfl)|(with_reducible constructor)<;>first|omega|trivial|rfl) ?_|fail
 all_goals simpa [inB, *] using I _ (by omega)
def zCP {α:Type} (p:α->Bool):List α->Int->Int
 | [],_ => -1
 | x::xs,i=>if p x then i else zCP p xs (i+1)
theorem zAD {α:Type} (p:α->Bool):∀ (l:List α) (i:Int),0<=i->decide (zCP p l i≥0)=l.any p
 | [],i,h=>by simp [zCP]
 | x::xs,i,h=>by
   have I:=zAD p xs (i+1) (by omega)
   rw [mR,mK] at I ⊢
   simp only [zCP,List.any_cons,me]
   by_cases J:p x=true
   ·simp only [J,mm,true_or,iff_true];exact h
   ·simpa [J] using I
/-- a row of words -/
def zA (l:List ByteArray):List D:=l.map λs=>.t s
theorem xI:∀ l:List ByteArray,All2 (λs d=>d=.t s) l (zA l)
 | []=>rfl
 | s::l=>⟨_,_,rfl,rfl,xI l⟩
theorem zKr (l:List ByteArray) (hl:l.length<=4611686018427387904) (a:Option Addr) (c:Nat) (s:ByteArray):zBL 172 [.sv a 0 (zA l) c,.str s] (zCP (λx=>decide (s=x)) l 0):=λN Q hQ=>by
 have O:=xI l
 have U:(zA l).length<=4611686018427387904:=by rw [O.len];exact hl
 refine pQ N a _ c s Q λ_=>?_
 refine up O U (λi xs=>∀ (N':Nat),N<=N'->(∀ N'',N'<=N''->Q (zCP (λx=>decide (s=x)) xs i) N'')->ye Q N a (zA l) c s ((zA l).length:Int) i N') ?_ ?_ N (oB _) hQ
 ·intro i aa _ N' Y I
  refine vg _ _ _ _ _ _ _ _ _ ?_
  repeat' first|with_reducible intro _|simp only[aa,Y1,Y2,Y3,Y4]|with_reducible refine X ?_ ?_|refine⟨_,_,_,rfl,?_⟩|refine⟨_,rfl,?_⟩|refine And.intro (by first|omega|trivial|(show _=_;rfl)|(with_reducible constructor)<;>first|omega|trivial|rfl) ?_|fail
  exact I _ (by omega)
 ·intro i x xs J _ ab N' Y I
  have hb:=J.b
  have hr:=J.r
  simp only [zCP] at I
  refine vg _ _ _ _ _ _ _ _ _ ?_
  repeat' first|with_reducible intro _|simp only[J.lt,J.w,oF,hr,Y1,Y2,Y3,Y4]|with_reducible refine X ?_ ?_|refine⟨_,_,_,rfl,?_⟩|refine⟨_,rfl,?_⟩|refine And.intro (by first|omega|trivial|(show _=_;rfl)|(with_reducible constructor)<;>first|omega|trivial|rfl) ?_|fail
  ·rename_i h _ _;subst h;exact Qi (I _ (by omega)) (by simp)
  ·rename_i h;exact ab _ Y λN'' h2=>Qi (I _ h2) (by rw [if_neg (by simpa using h)];simp)
theorem yj (l:List ByteArray) (I:l.length<=4611686018427387904) (a:Option Addr) (c:Nat) (s:ByteArray):uo 147 [.sv a 0 (zA l) c,.str s] (l.any λx=>decide (s=x)):=λN Q J=>by
 refine rD N a _ c s Q λ_=>?_
 repeat' first|with_reducible intro _|simp only[Y1,Y2,Y3,Y4]|with_reducible refine X ?_ ?_|refine⟨_,_,_,rfl,?_⟩|refine⟨_,rfl,?_⟩|refine And.intro (by first|omega|trivial|(show _=_;rfl)|(with_reducible constructor)<;>first|omega|trivial|rfl) ?_|refine (zKr l I a c s) _ _ ?_|fail
 exact Qb (J _ (by omega)) (zAD _ l 0 (by omega)).symm
theorem zA6 (s:ByteArray) (hs:s.size<=4611686018427387904):uo 165 [.str s] (ym s):=λN Q Y=>by
 refine zHt N s Q ?_
 have key:=upN hs (λi=>∀ N',N<=N'->(∀ N'',N'<=N''->Q (tJ s i&&zEu s) N'')->y9 Q N s (s.size:Int) i N') ?_ ?_
 ·exact key N (oB _) Y
 ·intro J N' O I
  have hc:=yj [bytes [105,102],bytes [108,101,116],bytes [108,105,102,116],bytes [114,101,99],bytes [114,117,110]] (by simp)
  simp only [zA,List.map] at hc
  refine rr _ _ _ _ _ _ ?_
  repeat' first|with_reducible intro _|simp only[J,Y1,Y2,Y3,Y4]|with_reducible refine X ?_ ?_|refine⟨_,_,_,rfl,?_⟩|refine⟨_,rfl,?_⟩|refine And.intro (by first|omega|trivial|(show _=_;rfl)|(with_reducible constructor)<;>first|omega|trivial|rfl) ?_|refine (yL _ _ _) _ _ ?_|refine (hc _ _ _) _ _ ?_|fail
  all_goals (refine Qb (I _ (by omega)) ?_;rw [zCL])
  ·simp only [zEu,List.any_cons,List.any_nil,Bool.or_false, *]
   cases decide (s=bytes [105,102])<;>cases decide (s=bytes [108,101,116])<;>cases decide (s=bytes [108,105,102,116])<;>cases decide (s=bytes [114,101,99])<;>cases decide (s=bytes [114,117,110])<;>rfl
  ·simp [zEu, *]
 ·intro i hi J hw U N' O I
  refine rr _ _ _ _ _ _ ?_
  rw [zAs hi] at I
  repeat' first|with_reducible intro _|simp only[J,hw,oF,Y1,Y2,Y3,Y4]|with_reducible refine X ?_ ?_|refine⟨_,_,_,rfl,?_⟩|refine⟨_,rfl,?_⟩|refine And.intro (by first|omega|trivial|(show _=_;rfl)|(with_reducible constructor)<;>first|omega|trivial|rfl) ?_|fail
  all_goals first
   | (refine Qb (I _ (by omega)) ?_;unfold zGc zCW;simp only [*];simp;done)
   | (refine U _ (by omega) λN'' h=>Qb (I N'' (by omega)) ?_;unfold zGc zCW;simp only [*];simp;done)
theorem zBq:∀ (t:Ty) (d:D),t.Is d->t.cnt<=1073741824->zBL 187 [.dg 2 d] t.cnt:=by
 refine Ty.ind λk l ih d hd hc N Q hQ=>?_
 obtain ⟨a,es,c,rfl,J,O⟩:=Ty.is_mk.1 hd
 simp only [Ty.cnt] at hc
 refine zB7 N _ Q λ_=>⟨_,_,_,rfl,?_⟩
 refine up O J (λi xs=>∀ (m:Nat) (N':Nat),N<=N'->m+zm xs=1+zm l->xC Q N m a es c es.length i N') ?_ ?_ 1 N (oB _) rfl
 ·intro i U _ m N' Y hm
  refine uX _ _ _ _ _ _ _ _ _ ?_
  simp only [zm] at hm
  repeat' first|with_reducible intro _|simp only[U,Y1,Y2,Y3,Y4]|with_reducible refine X ?_ ?_|refine⟨_,_,_,rfl,?_⟩|refine⟨_,rfl,?_⟩|refine And.intro (by first|omega|trivial|(show _=_;rfl)|(with_reducible constructor)<;>first|omega|trivial|rfl) ?_|fail
  exact Qi (hQ _ (by omega)) (by simp only [Ty.cnt];omega)
 ·intro i x xs I _ aa m N' Y hm
  have hb:=I.b
  have ab:=vK I.m
  simp only [zm] at hm
  refine uX _ _ _ _ _ _ _ _ _ ?_
  repeat' first|with_reducible intro _|simp only[I.lt,I.w,oF,Y1,Y2,Y3,Y4]|with_reducible refine X ?_ ?_|refine⟨_,_,_,rfl,?_⟩|refine⟨_,rfl,?_⟩|refine And.intro (by first|omega|trivial|(show _=_;rfl)|(with_reducible constructor)<;>first|omega|trivial|rfl) ?_|refine (ih x I.m _ I.r (by omega)) _ _ ?_|fail
  rw [i64_in _ (by omega)]
  exact aa (m+x.cnt) _ (by omega) (by omega)
theorem pe:∀ (t:Ty) (d:D),t.Is d->t.cnt<=1073741824->zBL 188 [.dg 2 d] t.dep:=by
 refine Ty.ind λk l ih d hd hc N Q hQ=>?_
 obtain ⟨a,es,c,rfl,J,O⟩:=Ty.is_mk.1 hd
 simp only [Ty.cnt] at hc
 have ab:=qc l
 refine zAx N _ Q λ_=>⟨_,_,_,rfl,?_⟩
 refine up O J (λi xs=>∀ (m:Nat) (N':Nat),N<=N'->max m (sT xs)=sT l->yq Q N m a es c es.length i N') ?_ ?_ 0 N (oB _) (by omega)
 ·intro i U _ m N' Y hm
  refine v6 _ _ _ _ _ _ _ _ _ ?_
  simp only [sT] at hm
  repeat' first|with_reducible intro _|simp only[U,Y1,Y2,Y3,Y4]|with_reducible refine X ?_ ?_|refine⟨_,_,_,rfl,?_⟩|refine⟨_,rfl,?_⟩|refine And.intro (by first|omega|trivial|(show _=_;rfl)|(with_reducible constructor)<;>first|omega|trivial|rfl) ?_|fail
  rw [i64_in _ (by omega)]
  exact Qi (hQ _ (by omega)) (by simp only [Ty.dep];omega)
 ·intro i x xs I _ aa m N' Y hm
  have hb:=I.b
  have ac:=vK I.m
  simp only [sT] at hm
  refine v6 _ _ _ _ _ _ _ _ _ ?_
  repeat' first|with_reducible intro _|simp only[I.lt,I.w,oF,Y1,Y2,Y3,Y4]|with_reducible refine X ?_ ?_|refine⟨_,_,_,rfl,?_⟩|refine⟨_,rfl,?_⟩|refine And.intro (by first|omega|trivial|(show _=_;rfl)|(with_reducible constructor)<;>first|omega|trivial|rfl) ?_|refine (ih x I.m _ I.r (by omega)) _ _ ?_|fail
  have e:(if (x.dep:Int)>(m:Int) then (x.dep:Int) else (m:Int))=((max m x.dep:Nat):Int):=by split<;>omega
  rw [e]
  exact aa _ _ (by omega) (by omega)
theorem zDj (t:Ty) (d:D) (hd:t.Is d):uo 190 [.dg 2 d] (zFz t.k t.as.length):=λN Q J=>by
 cases t with
 | mk k l=>
 obtain ⟨a,es,c,rfl,U,O⟩:=Ty.is_mk.1 hd
 have Y:=O.len
 simp only [Ty.k,Ty.as] at J
 refine qm N _ Q λ_=>?_
 cases I:inB k 1 4 with
 | false=>
   repeat' first|with_reducible intro _|simp only[I,Y1,Y2,Y3,Y4]|with_reducible refine X ?_ ?_|refine⟨_,_,_,rfl,?_⟩|refine⟨_,rfl,?_⟩|refine And.intro (by first|omega|trivial|(show _=_;rfl)|(with_reducible constructor)<;>first|omega|trivial|rfl) ?_|refine (yL _ _ _) _ _ ?_|fail
   refine Qb (J _ (by omega)) ?_
   have:¬(1<=k/\k<=4):=λh=>by rw [yQ.2 h] at I;cases I
   unfold zFz
   rw [if_neg (by omega),if_neg (by omega),if_neg (by omega)]
 | true=>
   have hb:=yQ.1 I
   have w0:IntKind.i64.wrap 0=0:=rfl
   have w1:IntKind.i64.wrap 1=1:=rfl
   have w2:IntKind.i64.wrap 2=2:=rfl
   have w3:IntKind.i64.wrap 3=3:=rfl
   have hk:k=1\/k=2\/k=3\/k=4:=by omega
   rcases hk with rfl | rfl | rfl | rfl
   all_goals
    repeat' first|with_reducible intro _|simp only[I,w0,w1,w2,w3,Y1,Y2,Y3,Y4]|with_reducible refine X ?_ ?_|refine⟨_,_,_,rfl,?_⟩|refine⟨_,rfl,?_⟩|refine And.intro (by first|omega|trivial|(show _=_;rfl)|(with_reducible constructor)<;>first|omega|trivial|rfl) ?_|refine (yL _ _ _) _ _ ?_|fail
    refine Qb (J _ (by omega)) ?_
    simp [zFz,Y]
theorem zE0:∀ l:List Ty,tP l=!(l.any λx=>!x.form)
 | []=>rfl
 | t::I=>by simp only [tP,List.any_cons,zE0 I];cases t.form<;>simp
theorem zDi {p:Ty->Bool} {l:List Ty} {es:List D} (h:All2 Ty.Is l es) (O:es.length<=4611686018427387904) (ad:Addr) (hp:∀ x∈l,∀ d,x.Is d->uo 204 [.dg 2 d,.pd ad 0 (.fn 190 [])] (p x)) (a:Option Addr) (c:Nat) :
  uo 203 [.sv a 2 es c,.fn 204 [.pd ad 0 (.fn 190 [])]] (l.any p):=λN Q U=>by
 have hi:zBL 209 [.sv a 2 es c,.fn 204 [.pd ad 0 (.fn 190 [])]] (zCP p l 0):=λN Q U=>by
  refine uv N a es c ad Q λ_=>?_
  refine up h O (λi xs=>∀ (N':Nat),N<=N'->(∀ N'',N'<=N''->Q (zCP p xs i) N'')->yB Q N a es c ad es.length i N') ?_ ?_ N (oB _) U
  ·intro i Y _ N' aa I
   refine xz _ _ _ _ _ _ _ _ _ ?_
   repeat' first|with_reducible intro _|simp only[Y,Y1,Y2,Y3,Y4]|with_reducible refine X ?_ ?_|refine⟨_,_,_,rfl,?_⟩|refine⟨_,rfl,?_⟩|refine And.intro (by first|omega|trivial|(show _=_;rfl)|(with_reducible constructor)<;>first|omega|trivial|rfl) ?_|fail
   exact I _ (by omega)
  ·intro i x xs J _ ab N' aa I
   have hb:=J.b
   simp only [zCP] at I
   refine xz _ _ _ _ _ _ _ _ _ ?_
   repeat' first|with_reducible intro _|simp only[J.lt,J.w,oF,Y1,Y2,Y3,Y4]|with_reducible refine X ?_ ?_|refine⟨_,_,_,rfl,?_⟩|refine⟨_,rfl,?_⟩|refine And.intro (by first|omega|trivial|(show _=_;rfl)|(with_reducible constructor)<;>first|omega|trivial|rfl) ?_|refine (hp x J.m _ J.r) _ _ ?_|fail
   ·exact Qi (I _ (by omega)) (by rw [if_pos (by assumption)])
   ·rename_i h;exact ab _ (by omega) λN'' h2=>Qi (I _ (by omega)) (by rw [h];simp)
 refine vo N a es c ad Q λ_=>?_
 repeat' first|with_reducible intro _|simp only[Y1,Y2,Y3,Y4]|with_reducible refine X ?_ ?_|refine⟨_,_,_,rfl,?_⟩|refine⟨_,rfl,?_⟩|refine And.intro (by first|omega|trivial|(show _=_;rfl)|(with_reducible constructor)<;>first|omega|trivial|rfl) ?_|refine hi _ _ ?_|fail
 exact Qb (U _ (by omega)) (zAD _ l 0 (by omega)).symm
theorem zMN:∀ (t:Ty) (d:D),t.Is d->uo 189 [.dg 2 d,.fn 190 []] t.form:=by
 refine Ty.ind λk l Y d hd N Q I=>?_
 have O:=hd
 obtain ⟨a,es,c,rfl,J,U⟩:=Ty.is_mk.1 hd
 refine zAR N _ Q λ_=>?_
 simp only [Ty.form,zE0] at I
 repeat' first|with_reducible intro _|simp only[Y1,Y2,Y3,Y4]|with_reducible refine X ?_ ?_|refine⟨_,_,_,rfl,?_⟩|refine⟨_,rfl,?_⟩|refine And.intro (by first|omega|trivial|(show _=_;rfl)|(with_reducible constructor)<;>first|omega|trivial|rfl) ?_|refine (zDj _ _ O) _ _ ?_|refine (zDi U J _ (λx hx d hd=>λN Q I=>qk N d _ Q λ_ N1 aa=>Y x hx d hd N1 _ λN2 ab ac N3 ae=>I N3 (by omega)) _ _) _ _ ?_|fail
 ·have h:zFz (Ty.mk k l).k (Ty.mk k l).as.length=true:=by assumption
  exact Qb (I _ (by omega)) (by simp only [Ty.k,Ty.as] at h;rw [h,Bool.and_true])
 ·rename_i h _ _
  exact Qb (I _ (by omega)) (by simp only [Ty.k,Ty.as] at h;rw [h,Bool.and_false])
theorem tO (t:Ty) (d:D) (hd:t.Is d) (hc:t.cnt<=1073741824):uo 167 [.dg 2 d] t.valid:=λN Q I=>by
 refine zAZ N _ Q λ_=>?_
 repeat' first|with_reducible intro _|simp only[Y1,Y2,Y3,Y4]|with_reducible refine X ?_ ?_|refine⟨_,_,_,rfl,?_⟩|refine⟨_,rfl,?_⟩|refine And.intro (by first|omega|trivial|(show _=_;rfl)|(with_reducible constructor)<;>first|omega|trivial|rfl) ?_|refine (zBq t d hd hc) _ _ ?_|refine (pe t d hd hc) _ _ ?_|refine (zMN t d hd) _ _ ?_|fail
 ·refine Qb (I _ (by omega)) ?_
  have J:t.cnt<=30:=by omega
  have O:t.dep<=8:=by omega
  simp [Ty.valid, *]
 ·refine Qb (I _ (by omega)) ?_
  have O:¬t.dep<=8:=by omega
  simp [Ty.valid, *]
 ·refine Qb (I _ (by omega)) ?_
  have J:¬t.cnt<=30:=by omega
  simp [Ty.valid, *]
theorem wH:∀ (t u:Ty) (d e:D),t.Is d->u.Is e->uo 139 [.dg 2 d,.dg 2 e] (zMr t u):=by
 refine Ty.ind λk l ih u d e hd he N Q Y=>?_
 cases u with
 | mk k' l'=>
 obtain ⟨a,es,c,rfl,aa,ab⟩:=Ty.is_mk.1 hd
 obtain ⟨a',U,c',rfl,ae,O⟩:=Ty.is_mk.1 he
 have hl:=ab.len
 have al:=O.len
 simp only [zMr] at Y
 have hf:uo 168 [.sv a 2 es c,.sv a' 2 U c',.fn 139 []] (sG l l'):=λN Q Y=>by
  have key:l.length=l'.length->∀ (N':Nat),N<=N'->(∀ N'',N'<=N''->Q (sG l (l'.drop 0)) N'')->zV Q N a' U c' a es c es.length (0:Nat) N':=by
   intro am
   refine up ab aa (λi xs=>∀ (N':Nat),N<=N'->(∀ N'',N'<=N''->Q (sG xs (l'.drop i)) N'')->zV Q N a' U c' a es c es.length i N') ?_ ?_
   ·intro i ah hi N' ai I
    refine xt _ _ _ _ _ _ _ _ _ _ _ ?_
    repeat' first|with_reducible intro _|simp only[ah,Y1,Y2,Y3,Y4]|with_reducible refine X ?_ ?_|refine⟨_,_,_,rfl,?_⟩|refine⟨_,rfl,?_⟩|refine And.intro (by first|omega|trivial|(show _=_;rfl)|(with_reducible constructor)<;>first|omega|trivial|rfl) ?_|fail
    refine Qb (I _ (by assumption)) ?_
    rw [mD (by omega)]
    rfl
   ·intro i x xs J _ aj N' ai I
    have hb:=J.b
    have ac:i<l'.length:=by omega
    have hg:l'[i]?=some l'[i]:=oG ac
    have ak:l'.drop i=l'[i]::l'.drop (i+1):=ni ac
    refine xt _ _ _ _ _ _ _ _ _ _ _ ?_
    rw [ak] at I
    repeat' first|with_reducible intro _|simp only[J.lt,J.w,oF,Y1,Y2,Y3,Y4]|with_reducible refine X ?_ ?_|refine⟨_,_,_,rfl,?_⟩|refine⟨_,rfl,?_⟩|refine And.intro (by first|omega|trivial|(show _=_;rfl)|(with_reducible constructor)<;>first|omega|trivial|rfl) ?_|refine (ih x J.m _ _ _ J.r (O.get hg)) _ _ ?_|fail
    ·exact Qb (I _ (by omega)) (by simp [sG, *])
    ·exact aj _ (by omega) λN'' h=>Qb (I N'' (by omega)) (by simp [sG, *])
  refine ut N _ _ _ _ _ _ Q λ_ _=>?_
  repeat' first|with_reducible intro _|simp only[Y1,Y2,Y3,Y4]|with_reducible refine X ?_ ?_|refine⟨_,_,_,rfl,?_⟩|refine⟨_,rfl,?_⟩|refine And.intro (by first|omega|trivial|(show _=_;rfl)|(with_reducible constructor)<;>first|omega|trivial|rfl) ?_|fail
  ·exact Qb (Y _ (by assumption)) (zDd (by omega))
  ·exact key (by omega) N (oB _) Y
 refine zCr N _ _ Q λ_ _=>?_
 repeat' first|with_reducible intro _|simp only[Y1,Y2,Y3,Y4]|with_reducible refine X ?_ ?_|refine⟨_,_,_,rfl,?_⟩|refine⟨_,rfl,?_⟩|refine And.intro (by first|omega|trivial|(show _=_;rfl)|(with_reducible constructor)<;>first|omega|trivial|rfl) ?_|refine hf _ _ ?_|fail
 ·exact Qb (Y _ (by omega)) (by simp [*])
 ·exact Qb (Y _ (by omega)) (by simp [*])
theorem pF (s:ByteArray):zBL 164 [.str s] (zDB s):=λN Q I=>by
 refine zFX N s Q ?_
 repeat' first|with_reducible intro _|simp only[Y1,Y2,Y3,Y4]|with_reducible refine X ?_ ?_|refine⟨_,_,_,rfl,?_⟩|refine⟨_,rfl,?_⟩|refine And.intro (by first|omega|trivial|(show _=_;rfl)|(with_reducible constructor)<;>first|omega|trivial|rfl) ?_|fail
 all_goals (refine Qi (I _ (by assumption)) ?_;unfold zDB;(repeat' split)<;>first | rfl | contradiction)
def arI (k:Int) (nm:ByteArray):Int:=
 if k=4 then zDB nm else if k=5 then 3 else if k=7\/k=8 then 2 else if k=6\/k=9\/k=10\/k=11\/k=12\/k=13 then 1 else 0
theorem zJK {k n:Int} {nm ot:ByteArray} {t0 t1 r0 r1 x:D}:zBL 137 [.dg 9 (.ag [.j k,.t nm,.t ot,.j n,t0,t1,r0,r1,x])] (arI k nm):=λN Q I=>by
 refine zJJ N _ Q λ_=>?_
 repeat' first|with_reducible intro _|simp only[Y1,Y2,Y3,Y4]|with_reducible refine X ?_ ?_|refine⟨_,_,_,rfl,?_⟩|refine⟨_,rfl,?_⟩|refine And.intro (by first|omega|trivial|(show _=_;rfl)|(with_reducible constructor)<;>first|omega|trivial|rfl) ?_|refine (pF _) _ _ ?_|fail
 all_goals (refine Qi (I _ (by omega)) ?_;simp [arI, *])
theorem ud (n:Int):uo 166 [.j n] (inB n 0 10006):=λN Q I=>by
 refine zDz N n Q ?_
 repeat' first|with_reducible intro _|simp only[Y1,Y2,Y3,Y4]|with_reducible refine X ?_ ?_|refine⟨_,_,_,rfl,?_⟩|refine⟨_,rfl,?_⟩|refine And.intro (by first|omega|trivial|(show _=_;rfl)|(with_reducible constructor)<;>first|omega|trivial|rfl) ?_|refine (yL _ _ _) _ _ ?_|fail
 exact I _ (by omega)
def zF4 (k:Int) (nm ot:ByteArray) (n:Int) (ty re:Ty):Bool:=
 if k=1\/k=8 then ym nm else if k=2 then inB n 0 10006 else if k=3 then inB n 0 1 else if k=4 then decide (zDB nm>0)
 else if k=6 then ym nm&&ty.valid else if k=9 then ym nm&&(ym ot&&(!decide (nm=ot)&&(ty.valid&&re.valid))) else inB k 1 13
theorem zFx {k n:Int} {nm ot:ByteArray} {ty re:Ty} {t0 t1 r0 r1 x:D} (h:Tm.Hd nm ot ty re t0 t1 r0 r1) (hc:ty.cnt<=1073741824) (I:re.cnt<=1073741824) :
  uo 138 [.dg 9 (.ag [.j k,.t nm,.t ot,.j n,t0,t1,r0,r1,x])] (zF4 k nm ot n ty re):=λN Q J=>by
 refine zFi N _ Q λ_=>?_
 repeat' first|with_reducible intro _|simp only[Y1,Y2,Y3,Y4]|with_reducible refine X ?_ ?_|refine⟨_,_,_,rfl,?_⟩|refine⟨_,rfl,?_⟩|refine And.intro (by first|omega|trivial|(show _=_;rfl)|(with_reducible constructor)<;>first|omega|trivial|rfl) ?_|refine (pF _) _ _ ?_|refine (zA6 _ h.nm) _ _ ?_|refine (zA6 _ h.ot) _ _ ?_|refine (ud _) _ _ ?_|refine (yL _ _ _) _ _ ?_|refine (tO _ _ h.ty hc) _ _ ?_|refine (tO _ _ h.re I) _ _ ?_|fail
 all_goals (refine Qb (J _ (by omega)) ?_;simp [zF4, *])
theorem tg (t:Ty):zMr t t=true:=(zLc t t).2 rfl
def zMO (k:Int) (nm ot:ByteArray) (n:Int) (ty re:Ty) (m:Int):Bool:=
 decide (m=arI k nm)&&(zF4 k nm ot n ty re&&((decide (k=1\/k=8\/k=4\/k=6\/k=9)||decide (nm=bytes []))&&((decide (k=9)||decide (ot=bytes []))&&((decide (k=2\/k=3)||decide (n=0)) &&
  ((decide (k=6\/k=9)||zMr ty tZero)&&(decide (k=9)||zMr re tZero))))))
theorem zFV {k n:Int} {nm ot:ByteArray} {ty re:Ty} {t0 t1 r0 r1:D} {a:Option Addr} {es:List D} {c:Nat} (h:Tm.Hd nm ot ty re t0 t1 r0 r1) (hc:ty.cnt<=1073741824) (I:re.cnt<=1073741824) :
  uo 99 [.dg 9 (.ag [.j k,.t nm,.t ot,.j n,t0,t1,r0,r1,.sl a 9 es c])] (zMO k nm ot n ty re es.length):=λN Q J=>by
 refine zHr N _ Q λ_=>?_
 repeat' first|with_reducible intro _|simp only[Y1,Y2,Y3,Y4]|with_reducible refine X ?_ ?_|refine⟨_,_,_,rfl,?_⟩|refine⟨_,rfl,?_⟩|refine And.intro (by first|omega|trivial|(show _=_;rfl)|(with_reducible constructor)<;>first|omega|trivial|rfl) ?_|refine zJK _ _ ?_|refine (zFx h hc I) _ _ ?_|refine (wH ty tZero _ _ h.ty zOK) _ _ ?_|refine (wH re tZero _ _ h.re zOK) _ _ ?_|refine (wH ty ty _ _ h.ty h.ty) _ _ ?_|refine (wH re re _ _ h.re h.re) _ _ ?_|fail
 all_goals first | (exfalso;omega) | (refine Qb (J _ (by omega)) ?_;simp [zMO,tg, *];done) | (refine Qb (J _ (by omega)) ?_;simp_all [zMO,tg];done)
theorem zRY (t:Ty):zMr t tZero=t.zero:=by
 cases t with
 | mk k l => cases l<;>simp [zMr,tZero,sG,Ty.zero,Ty.k,Ty.as]
             try omega
theorem zMb {t:Ty} (h:t.zero=true):t.valid=false:=by
 cases t with
 | mk k l=>
   simp only [Ty.zero,Ty.k,Ty.as,oJ,mF] at h
   simp [Ty.valid,Ty.form,zFz,h.1]
theorem zUU (n:Int):inB n 0 0=decide (n=0):=by
 rw [mR,yQ,mK];omega
theorem zp (t:Ty) (b:Bool):(!t.valid&&(t.zero&&b))=(t.zero&&b):=by
 cases h:t.zero with
 | false=>simp
 | true=>rw [zMb h];simp
theorem zP1 (k:Int) (nm ot:ByteArray) (n:Int) (ty re:Ty) (m:Int) (hm:0<=m):zMO k nm ot n ty re m=(zM k nm ot n ty re&&m==zFA k nm):=by
 by_cases Y:k=1\/k=2\/k=3\/k=4\/k=5\/k=6\/k=7\/k=8\/k=9\/k=10\/k=11\/k=12\/k=13
 ·rw [zT9 m]
  have b5:inB 5 1 13=true:=rfl
  have b7:inB 7 1 13=true:=rfl
  have I:inB 10 1 13=true:=rfl
  have J:inB 11 1 13=true:=rfl
  have O:inB 12 1 13=true:=rfl
  have U:inB 13 1 13=true:=rfl
  rcases Y with rfl | rfl | rfl | rfl | rfl | rfl | rfl | rfl | rfl | rfl | rfl | rfl | rfl
  all_goals
   simp [zMO,arI,zF4,zM,s6,xF,zFA,zRY,zUU,zp,b5,b7,I,J,O,U]
   try (rw [mR];simp [and_comm,and_left_comm,and_assoc])
 ·have h1:zFA k nm = -1:=by
   unfold zFA;rw [if_neg (by omega),if_neg (by omega),if_neg (by omega),if_neg (by omega),if_neg (by omega)]
  have h2:inB k 1 13=false:=by
   cases h:inB k 1 13 with
   | false=>rfl
   | true=>have:=yQ.1 h;omega
  have h3:zF4 k nm ot n ty re=false:=by
   unfold zF4;rw [if_neg (by omega),if_neg (by omega),if_neg (by omega),if_neg (by omega),if_neg (by omega),if_neg (by omega),h2]
  have h4:(m==zFA k nm)=false:=by rw [h1,zT9];exact mS (by omega)
  rw [h4,zMO,h3]
  simp
theorem zQK {k n:Int} {nm ot:ByteArray} {ty re:Ty} {t0 t1 r0 r1:D} {a:Option Addr} {es:List D} {c:Nat} (h:Tm.Hd nm ot ty re t0 t1 r0 r1) (hc:ty.cnt<=1073741824) (I:re.cnt<=1073741824) :
  uo 99 [.dg 9 (.ag [.j k,.t nm,.t ot,.j n,t0,t1,r0,r1,.sl a 9 es c])] (zM k nm ot n ty re&&(es.length:Int)==zFA k nm):=by
 rw [<-zP1 _ _ _ _ _ _ _ (by omega)]
 exact zFV h hc I
theorem zIq:∀ l:List Tm,th l=!(l.any λx=>!x.ok)
 | []=>rfl
 | t::I=>by simp only [th,List.any_cons,zIq I];cases t.ok<;>simp
theorem zDW {p:Tm->Bool} {l:List Tm} {es:List D} (h:All2 Tm.Is l es) (O:es.length<=4611686018427387904) (ad:Addr) (hp:∀ x∈l,∀ d,x.Is d->uo 136 [.dg 9 d,.pd ad 0 (.fn 99 [])] (p x)) (a:Option Addr) (c:Nat) :
  uo 135 [.sv a 9 es c,.fn 136 [.pd ad 0 (.fn 99 [])]] (l.any p):=λN Q U=>by
 have hi:zBL 163 [.sv a 9 es c,.fn 136 [.pd ad 0 (.fn 99 [])]] (zCP p l 0):=λN Q U=>by
  refine uw N a es c ad Q λ_=>?_
  refine up h O (λi xs=>∀ (N':Nat),N<=N'->(∀ N'',N'<=N''->Q (zCP p xs i) N'')->yC Q N a es c ad es.length i N') ?_ ?_ N (oB _) U
  ·intro i Y _ N' aa I
   refine xu _ _ _ _ _ _ _ _ _ ?_
   repeat' first|with_reducible intro _|simp only[Y,Y1,Y2,Y3,Y4]|with_reducible refine X ?_ ?_|refine⟨_,_,_,rfl,?_⟩|refine⟨_,rfl,?_⟩|refine And.intro (by first|omega|trivial|(show _=_;rfl)|(with_reducible constructor)<;>first|omega|trivial|rfl) ?_|fail
   exact I _ (by omega)
  ·intro i x xs J _ ab N' aa I
   have hb:=J.b
   simp only [zCP] at I
   refine xu _ _ _ _ _ _ _ _ _ ?_
   repeat' first|with_reducible intro _|simp only[J.lt,J.w,oF,Y1,Y2,Y3,Y4]|with_reducible refine X ?_ ?_|refine⟨_,_,_,rfl,?_⟩|refine⟨_,rfl,?_⟩|refine And.intro (by first|omega|trivial|(show _=_;rfl)|(with_reducible constructor)<;>first|omega|trivial|rfl) ?_|refine (hp x J.m _ J.r) _ _ ?_|fail
   ·exact Qi (I _ (by omega)) (by rw [if_pos (by assumption)])
   ·rename_i h;exact ab _ (by omega) λN'' h2=>Qi (I _ (by omega)) (by rw [h];simp)
 refine vm N a es c ad Q λ_=>?_
 repeat' first|with_reducible intro _|simp only[Y1,Y2,Y3,Y4]|with_reducible refine X ?_ ?_|refine⟨_,_,_,rfl,?_⟩|refine⟨_,rfl,?_⟩|refine And.intro (by first|omega|trivial|(show _=_;rfl)|(with_reducible constructor)<;>first|omega|trivial|rfl) ?_|refine hi _ _ ?_|fail
 exact Qb (U _ (by omega)) (zAD _ l 0 (by omega)).symm
theorem zMS:∀ (t:Tm) (d:D),t.Is d->t.cnt<=1073741824->uo 98 [.dg 9 d,.fn 99 []] t.ok:=by
 refine Tm.ind λk nm ot n ty re l Y d hd hc N Q I=>?_
 obtain ⟨t0,t1,r0,r1,a,es,c,rfl,hh,J,O⟩:=Tm.is_mk.1 hd
 have hl:=O.len
 simp only [Tm.cnt] at hc
 refine zAO N _ Q λ_=>?_
 simp only [Tm.ok,zIq,<-hl] at I
 repeat' first|with_reducible intro _|simp only[Y1,Y2,Y3,Y4]|with_reducible refine X ?_ ?_|refine⟨_,_,_,rfl,?_⟩|refine⟨_,rfl,?_⟩|refine And.intro (by first|omega|trivial|(show _=_;rfl)|(with_reducible constructor)<;>first|omega|trivial|rfl) ?_|refine (zQK hh (by omega) (by omega)) _ _ ?_|refine (zDW O J _ (λx U d hd=>λN Q I=>ql N d _ Q λ_ N1 aa=>Y x U d hd (by have:=vT U;omega) N1 _ λN2 ab ac N3 ae=>I N3 (by omega)) _ _) _ _ ?_|fail
 ·have h:(zM k nm ot n ty re&&(es.length:Int)==zFA k nm)=true:=by assumption
  exact Qb (I _ (by omega)) (by rw [h,Bool.and_true])
 ·have h:(zM k nm ot n ty re&&(es.length:Int)==zFA k nm)=false:=by assumption
  exact Qb (I _ (by omega)) (by rw [h,Bool.and_false])
theorem sC (t:Tm) (d:D) (hd:t.Is d) (hc:t.cnt<=1073741824):uo 58 [.dg 9 d] t.ok:=λN Q I=>by
 refine zH9 N _ Q λ_=>?_
 repeat' first|with_reducible intro _|simp only[Y1,Y2,Y3,Y4]|with_reducible refine X ?_ ?_|refine⟨_,_,_,rfl,?_⟩|refine⟨_,rfl,?_⟩|refine And.intro (by first|omega|trivial|(show _=_;rfl)|(with_reducible constructor)<;>first|omega|trivial|rfl) ?_|refine (zMS t d hd hc) _ _ ?_|fail
 exact I _ (by omega)
theorem zJ1 {k n m:Int} {I J O U Y c7 c8:D} (h:0<=m/\m<=2):zBL 100 [.dg 9 (.ag [.j k,I,J,.j n,O,U,Y,c7,c8]),.j m] (zL k m):=λN Q hQ=>by
 refine sf N _ m Q λ_=>?_
 rw [i64_in (m+1) (by omega),i64_in (m - 1) (by omega)]
 repeat' first|with_reducible intro _|simp only[Y1,Y2,Y3,Y4]|with_reducible refine X ?_ ?_|refine⟨_,_,_,rfl,?_⟩|refine⟨_,rfl,?_⟩|refine And.intro (by first|omega|trivial|(show _=_;rfl)|(with_reducible constructor)<;>first|omega|trivial|rfl) ?_|fail
 all_goals (refine Qi (hQ _ (by omega)) ?_;simp [zL, *])
theorem zCZ (d:D) (m:Int):uo 60 [.dg 9 d,.j m] (inB m 0 2):=λN Q I=>by
 refine zBi N _ m Q λ_=>?_
 repeat' first|with_reducible intro _|simp only[Y1,Y2,Y3,Y4]|with_reducible refine X ?_ ?_|refine⟨_,_,_,rfl,?_⟩|refine⟨_,rfl,?_⟩|refine And.intro (by first|omega|trivial|(show _=_;rfl)|(with_reducible constructor)<;>first|omega|trivial|rfl) ?_|refine (yL _ _ _) _ _ ?_|fail
 exact I _ (by omega)
theorem zQZ:∀ (t:Tm) (d:D),t.Is d->∀ m:Int,uo 59 [.dg 9 d,.j m,.fn 60 []] (t.lev m):=by
 refine Tm.ind λk nm ot n ty re l ih d hd m N Q hQ=>?_
 obtain ⟨t0,t1,r0,r1,a,es,c,rfl,hh,U,Y⟩:=Tm.is_mk.1 hd
 have hl:=Y.len
 refine zCv N _ m Q λ_=>?_
 cases I:inB m 0 2 with
 | false=>
   repeat' first|with_reducible intro _|simp only[I,Y1,Y2,Y3,Y4]|with_reducible refine X ?_ ?_|refine⟨_,_,_,rfl,?_⟩|refine⟨_,rfl,?_⟩|refine And.intro (by first|omega|trivial|(show _=_;rfl)|(with_reducible constructor)<;>first|omega|trivial|rfl) ?_|refine (zCZ _ _) _ _ ?_|fail
   exact Qb (hQ _ (by omega)) (by simp [Tm.lev,I])
 | true=>
   have hb:=yQ.1 I
   have key:=up Y U (λi xs=>∀ (N':Nat),N<=N'->(∀ N'',N'<=N''->Q (rO xs (zL k m)) N'')->wx Q N m a es c es.length i (.ag [.j k,.t nm,.t ot,.j n,t0,t1,r0,r1,.sl a 9 es c]) N') ?_ ?_
   ·repeat' first|with_reducible intro _|simp only[I,Y1,Y2,Y3,Y4]|with_reducible refine X ?_ ?_|refine⟨_,_,_,rfl,?_⟩|refine⟨_,rfl,?_⟩|refine And.intro (by first|omega|trivial|(show _=_;rfl)|(with_reducible constructor)<;>first|omega|trivial|rfl) ?_|refine (zCZ _ _) _ _ ?_|fail
    exact key _ (by omega) λN'' h=>Qb (hQ N'' (by omega)) (by simp [Tm.lev,I])
   ·intro i aa _ N' ab O
    refine rT _ _ _ _ _ _ _ _ _ _ ?_
    repeat' first|with_reducible intro _|simp only[aa,Y1,Y2,Y3,Y4]|with_reducible refine X ?_ ?_|refine⟨_,_,_,rfl,?_⟩|refine⟨_,rfl,?_⟩|refine And.intro (by first|omega|trivial|(show _=_;rfl)|(with_reducible constructor)<;>first|omega|trivial|rfl) ?_|fail
    exact Qb (O _ (by omega)) (by simp [rO])
   ·intro i x xs J _ ac N' ab O
    have ae:=J.b
    refine rT _ _ _ _ _ _ _ _ _ _ ?_
    repeat' first|with_reducible intro _|simp only[J.lt,J.w,oF,Y1,Y2,Y3,Y4]|with_reducible refine X ?_ ?_|refine⟨_,_,_,rfl,?_⟩|refine⟨_,rfl,?_⟩|refine And.intro (by first|omega|trivial|(show _=_;rfl)|(with_reducible constructor)<;>first|omega|trivial|rfl) ?_|refine (zJ1 hb) _ _ ?_|refine (ih x J.m _ J.r _) _ _ ?_|fail
    ·refine Qb (O _ (by omega)) ?_;simp [rO, *]
    ·exact ac _ (by omega) λN'' h=>Qb (O N'' (by omega)) (by simp [rO, *])
theorem ui (t:Tm) (d:D) (hd:t.Is d) (hc:t.cnt<=1073741824) (m:Int):uo 32 [.dg 9 d,.j m] (pW t m):=λN Q I=>by
 refine zEx N _ m Q λ_=>?_
 repeat' first|with_reducible intro _|simp only[Y1,Y2,Y3,Y4]|with_reducible refine X ?_ ?_|refine⟨_,_,_,rfl,?_⟩|refine⟨_,rfl,?_⟩|refine And.intro (by first|omega|trivial|(show _=_;rfl)|(with_reducible constructor)<;>first|omega|trivial|rfl) ?_|refine (sC t d hd hc) _ _ ?_|refine (zQZ t d hd m) _ _ ?_|fail
 all_goals (refine Qb (I _ (by omega)) ?_;simp [pW, *])
theorem zTD:∀ (t:Ty) (d:D),t.Is d->t.cnt<=1073741824->zSH 103 [.dg 2 d] t:=by
 refine Ty.ind λk l ih d hd hc N Q hQ=>?_
 obtain ⟨a,es,c,rfl,Y,aa⟩:=Ty.is_mk.1 hd
 have hl:=aa.len
 simp only [Ty.cnt] at hc
 have al:=pV l
 refine zEe N _ Q λ_=>⟨_,rfl,_,_,_,rfl,?_⟩
 have key:=up aa Y (λi xs=>∀ (N':Nat),N<=N'->(i=0->vO Q N a es c es.length i 0 none [] 0 k none [] 0 N')/\∀ (m q:Nat) (r:List D),m=r.length->All2 Ty.Is (l.take i) r->OwnL N N' r ->
  yn Q N a es c es.length i 0 none [] 0 k m q r q N') ?_ ?_
 ·exact (key N (oB _)).1 rfl
 ·intro i ab hi N' ai
  refine ⟨λh0=>tu _ _ _ _ _ _ _ _ _ _ _ _ _ _ _ _ ?_,λm q r hm U ho=>v7 _ _ _ _ _ _ _ _ _ _ _ _ _ _ _ _ _ ?_⟩
  ·repeat' first|with_reducible intro _|simp only[ab,Y1,Y2,Y3,Y4]|with_reducible refine X ?_ ?_|refine⟨_,_,_,rfl,?_⟩|refine⟨_,rfl,?_⟩|refine And.intro (by first|omega|trivial|(show _=_;rfl)|(with_reducible constructor)<;>first|omega|trivial|rfl) ?_|fail
   have:l=[]:=oa (by omega)
   subst this
   exact hQ _ _ (by omega) (xQ _) zIF
  ·repeat' first|with_reducible intro _|simp only[ab,Y1,Y2,Y3,Y4]|with_reducible refine X ?_ ?_|refine⟨_,_,_,rfl,?_⟩|refine⟨_,rfl,?_⟩|refine And.intro (by first|omega|trivial|(show _=_;rfl)|(with_reducible constructor)<;>first|omega|trivial|rfl) ?_|fail
   rename_i a' N3 J hf N4 aj
   rw [od (by omega)] at U
   exact hQ _ _ (by omega) (Ty.is_mk.2 ⟨_,_,_,rfl,by have:=U.len;omega,U⟩) (zEp (yG (xV ((zDX ho hf (by omega)).mono (oB _) aj))))
 ·intro i x xs I _ ac N' ai
  have hb:=I.b
  have am:=vK I.m
  refine ⟨λh0=>tu _ _ _ _ _ _ _ _ _ _ _ _ _ _ _ _ ?_,λm q r hm U ho=>v7 _ _ _ _ _ _ _ _ _ _ _ _ _ _ _ _ _ ?_⟩
  ·repeat' first|with_reducible intro _|simp only[I.lt,I.w,oF,Y1,Y2,Y3,Y4]|with_reducible refine X ?_ ?_|refine⟨_,_,_,rfl,?_⟩|refine⟨_,rfl,?_⟩|refine And.intro (by first|omega|trivial|(show _=_;rfl)|(with_reducible constructor)<;>first|omega|trivial|rfl) ?_|refine (ih x I.m _ I.r (by omega)) _ _ ?_|fail
   rename_i N2 ae d' N3 J hx O ak ah
   subst h0
   exact ⟨by unfold zB;simp,λc2=>(ac _ (by omega)).2 _ _ _ rfl (by rw [xN I.g];exact ⟨_,_,rfl,hx,rfl⟩) (xV (O.mono (by omega) (oB _)))⟩
  ·repeat' first|with_reducible intro _|simp only[I.lt,I.w,oF,Y1,Y2,Y3,Y4]|with_reducible refine X ?_ ?_|refine⟨_,_,_,rfl,?_⟩|refine⟨_,rfl,?_⟩|refine And.intro (by first|omega|trivial|(show _=_;rfl)|(with_reducible constructor)<;>first|omega|trivial|rfl) ?_|refine (ih x I.m _ I.r (by omega)) _ _ ?_|fail
   rename_i N2 ae d' N3 J hx O ak ah
   have ao:=U.len
   have aq:(l.take i).length=i:=by rw [ou];omega
   refine ⟨by unfold zB;simp only [oH,mq];omega,λc2=>?_⟩
   exact (ac _ (by omega)).2 _ _ _ rfl (by rw [xN I.g];exact U.snoc hx) (wO (ho.mono (oB _) ae) (xV O) (by omega) J)
theorem ub {a:Option Addr} {z c:Nat} {es:List D}:∀ x∈(D.sl a z es c).foot,x∈zH es\/∃ ad,a=some ad/\x=ad.block:=by
 intro x hx
 cases a with
 | none=>simp only [D.foot] at hx;exact .inl hx
 | some ad=>
   simp only [D.foot] at hx
   split at hx
   ·simp at hx
   ·rcases oI.1 hx with rfl | hx
    ·exact .inr ⟨ad,rfl,rfl⟩
    ·exact .inl hx
theorem wQ {bs:List (Option Addr)} {N N':Nat} {d:D} (J:xX N bs) (O:Own N N' d):Off bs d:=λa U ad I Y=>by
 have:=J a U ad I
 have:=O.lo _ Y
 omega
mutual
def Tm.sz:Tm->Nat
 | .mk _ _ _ _ _ _ l=>1+zF l
def zF:List Tm->Nat
 | []=>0
 | t::I=>t.sz+zF I
end
mutual
def Tm.dp:Tm->Nat
 | .mk _ _ _ _ _ _ l=>vD l+1
def vD:List Tm->Nat
 | []=>0
 | t::I=>max t.dp (vD I)
end
mutual
theorem Tm.sz_cnt:∀ t:Tm,t.sz<=t.cnt
 | .mk _ _ _ _ ty re l=>by simp only [Tm.sz,Tm.cnt];have:=zJC l;omega
theorem zJC:∀ l:List Tm,zF l<=zN l
 | []=>oB _
 | t::I=>by simp only [zF,zN];have:=t.sz_cnt;have:=zJC I;omega
end
mutual
theorem Tm.dp_cnt:∀ t:Tm,t.dp<=t.cnt
 | .mk _ _ _ _ ty re l=>by simp only [Tm.dp,Tm.cnt];have:=zEP l;omega
theorem zEP:∀ l:List Tm,vD l<=zN l
 | []=>oB _
 | t::I=>by simp only [vD,zN];have:=t.dp_cnt;have:=zEP I;omega
end
/-- one form of a body's nodes -/
def zTd (k:Int):Bool:=inB k 1 5||k==8
mutual
def Tm.isB:Tm->Bool
 | .mk k _ _ _ _ _ l=>zUK l&&zTd k
def zUK:List Tm->Bool
 | []=>true
 | t::I=>t.isB&&zUK I
end
def Tm.vd (t:Tm):Bool:=decide (t.sz<=80)&&decide (t.dp<=20)&&t.ok
theorem zBA:∀ (t:Tm) (d:D),t.Is d->∀ n:Int,0<=n->n<=1000->zBL 200 [.dg 9 d,.j n] (if (t.sz:Int)<=n then n - t.sz else -1):=by
 refine Tm.ind λk nm ot n0 ty re l ih d hd n ae ah N Q hQ=>?_
 obtain ⟨t0,t1,r0,r1,a,es,c,rfl,hh,U,Y⟩:=Tm.is_mk.1 hd
 refine zGu N _ n Q λ_=>?_
 have key:=up Y U (λi xs=>∀ (m:Int) (N':Nat),N<=N' -> -1<=m->m<=1000->(∀ N'',N'<=N''->Q (if m<0 then -1 else if (zF xs:Int)<=m then m - zF xs else -1) N'') ->
  vH Q N m i (.ag [.j k,.t nm,.t ot,.j n0,t0,t1,r0,r1,.sl a 9 es c]) N') ?_ ?_
 ·rw [i64_in _ (by omega)]
  refine key (n - 1) N (oB _) (by omega) (by omega) λN' O=>Qi (hQ N' O) ?_
  simp only [Tm.sz]
  (repeat' split)<;>omega
 ·intro i aa _ m N' O h1 h2 J
  refine rY _ _ _ _ _ _ ?_
  repeat' first|with_reducible intro _|simp only[aa,Y1,Y2,Y3,Y4]|with_reducible refine X ?_ ?_|refine⟨_,_,_,rfl,?_⟩|refine⟨_,rfl,?_⟩|refine And.intro (by first|omega|trivial|(show _=_;rfl)|(with_reducible constructor)<;>first|omega|trivial|rfl) ?_|fail
  refine Qi (J _ (by assumption)) ?_
  simp only [zF]
  (repeat' split)<;>omega
 ·intro i x xs I _ ab m N' O h1 h2 J
  have hb:=I.b
  refine rY _ _ _ _ _ _ ?_
  repeat' first|with_reducible intro _|simp only[I.lt,I.w,oF,Y1,Y2,Y3,Y4]|with_reducible refine X ?_ ?_|refine⟨_,_,_,rfl,?_⟩|refine⟨_,rfl,?_⟩|refine And.intro (by first|omega|trivial|(show _=_;rfl)|(with_reducible constructor)<;>first|omega|trivial|rfl) ?_|refine (ih x I.m _ I.r m (by omega) (by omega)) _ _ ?_|fail
  ·refine ab _ _ (by omega) (by split<;>omega) (by split<;>omega) λN'' ac=>Qi (J N'' (by omega)) ?_
   simp only [zF]
   (repeat' split)<;>omega
  ·refine Qi (J _ (by assumption)) ?_
   rw [if_pos (by omega)]
   omega
theorem zFL:∀ (t:Tm) (d:D),t.Is d->t.cnt<=1073741824->zBL 201 [.dg 9 d] t.dp:=by
 refine Tm.ind λk nm ot n0 ty re l ih d hd hc N Q hQ=>?_
 obtain ⟨t0,t1,r0,r1,a,es,c,rfl,hh,J,U⟩:=Tm.is_mk.1 hd
 refine zFg N _ Q λ_=>?_
 simp only [Tm.cnt] at hc
 have ab:=zEP l
 have key:=up U J (λi xs=>∀ (m:Nat) (N':Nat),N<=N'->max m (vD xs)=vD l->wJ Q N (m:Int) i (.ag [.j k,.t nm,.t ot,.j n0,t0,t1,r0,r1,.sl a 9 es c]) N') ?_ ?_
 ·exact key 0 N (oB _) (by omega)
 ·intro i Y _ m N' O hm
  simp only [vD] at hm
  refine sY _ _ _ _ _ _ ?_
  repeat' first|with_reducible intro _|simp only[Y,Y1,Y2,Y3,Y4]|with_reducible refine X ?_ ?_|refine⟨_,_,_,rfl,?_⟩|refine⟨_,rfl,?_⟩|refine And.intro (by first|omega|trivial|(show _=_;rfl)|(with_reducible constructor)<;>first|omega|trivial|rfl) ?_|fail
  rw [i64_in _ (by omega)]
  refine Qi (hQ _ (oR O (by assumption))) ?_
  simp only [Tm.dp]
  omega
 ·intro i x xs I _ aa m N' O hm
  have hb:=I.b
  have ac:=vT I.m
  simp only [vD] at hm
  refine sY _ _ _ _ _ _ ?_
  repeat' first|with_reducible intro _|simp only[I.lt,I.w,oF,Y1,Y2,Y3,Y4]|with_reducible refine X ?_ ?_|refine⟨_,_,_,rfl,?_⟩|refine⟨_,rfl,?_⟩|refine And.intro (by first|omega|trivial|(show _=_;rfl)|(with_reducible constructor)<;>first|omega|trivial|rfl) ?_|refine (ih x I.m _ I.r (by omega)) _ _ ?_|refine (zCH _ _) _ _ ?_|fail
  have e:max (m:Int) (x.dp:Int)=((max m x.dp:Nat):Int):=by omega
  rw [e]
  exact aa _ _ (by omega) (by omega)
theorem pi (t:Tm) (d:D) (hd:t.Is d) (hc:t.cnt<=1073741824):uo 185 [.dg 9 d] t.vd:=λN Q I=>by
 refine p8 N _ Q λ_=>?_
 by_cases O:t.sz<=80
 ·have J:((t.sz:Int)<=80):=by omega
  repeat' first|with_reducible intro _|simp only[if_pos J,Y1,Y2,Y3,Y4]|with_reducible refine X ?_ ?_|refine⟨_,_,_,rfl,?_⟩|refine⟨_,rfl,?_⟩|refine And.intro (by first|omega|trivial|(show _=_;rfl)|(with_reducible constructor)<;>first|omega|trivial|rfl) ?_|refine (zBA t d hd _ (by omega) (by omega)) _ _ ?_|refine (zFL t d hd hc) _ _ ?_|refine (zAM t d hd hc) _ _ ?_|fail
  all_goals first | omega | skip
  ·have U:t.dp<=20:=by omega
   refine Qb (I _ (by omega)) ?_;simp [Tm.vd, *]
  ·have U:¬t.dp<=20:=by omega
   refine Qb (I _ (by omega)) ?_;simp [Tm.vd, *]
 ·have J:¬((t.sz:Int)<=80):=by omega
  repeat' first|with_reducible intro _|simp only[if_neg J,Y1,Y2,Y3,Y4]|with_reducible refine X ?_ ?_|refine⟨_,_,_,rfl,?_⟩|refine⟨_,rfl,?_⟩|refine And.intro (by first|omega|trivial|(show _=_;rfl)|(with_reducible constructor)<;>first|omega|trivial|rfl) ?_|refine (zBA t d hd _ (by omega) (by omega)) _ _ ?_|fail
  all_goals first | omega | skip
  refine Qb (I _ (by omega)) ?_;simp [Tm.vd, *]
theorem xL (l:List ByteArray) (hl:l.length<=4611686018427387904) (a:Option Addr) (c:Nat) (s:ByteArray):zBL 123 [.sv a 0 (zA l) c,.str s] (zCP (λx=>decide (x=s)) l 0):=λN Q hQ=>by
 have O:=xI l
 have U:(zA l).length<=4611686018427387904:=by rw [O.len];exact hl
 refine zFp N a _ c s Q λ_=>?_
 refine up O U (λi xs=>∀ (N':Nat),N<=N'->(∀ N'',N'<=N''->Q (zCP (λx=>decide (x=s)) xs i) N'')->wD Q N a (zA l) c s i N') ?_ ?_ N (oB _) hQ
 ·intro i aa _ N' Y I
  refine si _ _ _ _ _ _ _ _ ?_
  repeat' first|with_reducible intro _|simp only[aa,Y1,Y2,Y3,Y4]|with_reducible refine X ?_ ?_|refine⟨_,_,_,rfl,?_⟩|refine⟨_,rfl,?_⟩|refine And.intro (by first|omega|trivial|(show _=_;rfl)|(with_reducible constructor)<;>first|omega|trivial|rfl) ?_|fail
  exact I _ (by omega)
 ·intro i x xs J _ ab N' Y I
  have hb:=J.b
  have hr:=J.r
  simp only [zCP] at I
  refine si _ _ _ _ _ _ _ _ ?_
  repeat' first|with_reducible intro _|simp only[J.lt,J.w,oF,hr,Y1,Y2,Y3,Y4]|with_reducible refine X ?_ ?_|refine⟨_,_,_,rfl,?_⟩|refine⟨_,rfl,?_⟩|refine And.intro (by first|omega|trivial|(show _=_;rfl)|(with_reducible constructor)<;>first|omega|trivial|rfl) ?_|fail
  ·rename_i h _ _;subst h;exact Qi (I _ (by omega)) (by simp)
  ·rename_i h;exact ab _ Y λN'' h2=>Qi (I _ h2) (by rw [if_neg (by simpa using h)];simp)
theorem vR (l:List ByteArray) (s:ByteArray):zA l++[.t s]=zA (l++[s]):=by simp [zA]
theorem zJ (l:List ByteArray):(zA l).length=l.length:=by simp [zA]
end Go.Proofs.YtfajiphkncipoaaGreatDoor
