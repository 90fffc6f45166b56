/- Parameters: what they are; the laws' sizes, copies, equality and marks on them. -/
import Derived.Test.YtnpjpplbkoammaaGreatDoorVv
import Derived.Test.YtnpjpplbkoammaaGreatDoorVi
import Derived.Test.YtnpjpplbkoammaaGreatDoorKi
set_option linter.unusedVariables false
set_option linter.unusedSimpArgs false
namespace Go.Proofs.YtnpjpplbkoammaaGreatDoor
open Go Go.Proofs Go.Proofs.Tryz Go.IntWalk
structure Pm where
 nm:ByteArray
 ty:Ty
 dy:Bool
def Pm.Is (g:Pm) (d:D):Prop:=∃ t0 t1,d=.ag [.lit (.string g.nm),t0,t1,.lit (.bool g.dy)]∧g.nm.size≤4611686018427387904∧g.ty.Is (.ag [t0,t1])
theorem yq (n a b:Int):ub 56 [.int .i64 n,.int .i64 a,.int .i64 b] (inB n a b):=fun N Q hQ=>by
 refine zE5 N n a b Q ?_
 repeat' first|with_reducible intro _|simp only[Y1,Y2,Y3,Y4]|(with_reducible first|refine X1 ?_ ?_|refine X2 ?_ ?_|refine X3 ?_ ?_|refine X4 ?_ ?_|refine X5 ?_ ?_|refine X6 ?_ ?_|refine X7 ?_ ?_|refine X8 ?_ ?_|refine X9 ?_ ?_)|refine⟨_,_,_,rfl,?_⟩|refine⟨_,rfl,?_⟩|((with_reducible refine And.intro ?_ ?_);·first|omega|trivial|(show _=_;rfl)|((with_reducible refine And.intro ?_ ?_)<;>first|omega|trivial|(show _=_;rfl)))|fail
 all_goals simpa [inB, *] using hQ _ (by omega)
def zBH {α:Type} (p:α→Bool):List α→Int→Int
 | [],_ => -1
 | x::xs,i=>if p x then i else zBH p xs (i+1)
theorem qR {α:Type} (p:α→Bool):∀ (l:List α) (i:Int),0≤i→decide (zBH p l i≥0)=l.any p
 | [],i,h=>by simp [zBH]
 | x::xs,i,h=>by
   have ih:=qR p xs (i+1) (by omega)
   rw [Bool.eq_iff_iff,decide_eq_true_iff] at ih ⊢
   simp only [zBH,List.any_cons,Bool.or_eq_true]
   by_cases hp:p x=true
   ·simp only [hp,if_true,true_or,iff_true];exact h
   ·simpa [hp] using ih
/-- a row of words -/
def zA (l:List ByteArray):List D:=l.map fun s=>.lit (.string s)
theorem xI:∀ l:List ByteArray,All2 (fun s d=>d=.lit (.string s)) l (zA l)
 | []=>rfl
 | s::l=>⟨_,_,rfl,rfl,xI l⟩
theorem zIh (l:List ByteArray) (hl:l.length≤4611686018427387904) (a:Option Addr) (c:Nat) (s:ByteArray):qN 165 [.sv a 0 (zA l) c,.str s] (zBH (fun x=>decide (s=x)) l 0):=fun N Q hQ=>by
 have hes:=xI l
 have hlen:(zA l).length≤4611686018427387904:=by rw [hes.len];exact hl
 refine qK N a _ c s Q fun _=>?_
 refine up hes hlen (fun i xs=>∀ (N':Nat),N≤N'→(∀ N'',N'≤N''→Q (zBH (fun x=>decide (s=x)) xs i) N'')→yR Q N a (zA l) c s ((zA l).length:Int) i N') ?_ ?_ N (Nat.le_refl _) hQ
 ·intro i hlt _ N' hN' hQ'
  refine wx _ _ _ _ _ _ _ _ _ ?_
  repeat' first|with_reducible intro _|simp only[hlt,Y1,Y2,Y3,Y4]|(with_reducible first|refine X1 ?_ ?_|refine X2 ?_ ?_|refine X3 ?_ ?_|refine X4 ?_ ?_|refine X5 ?_ ?_|refine X6 ?_ ?_|refine X7 ?_ ?_|refine X8 ?_ ?_|refine X9 ?_ ?_)|refine⟨_,_,_,rfl,?_⟩|refine⟨_,rfl,?_⟩|((with_reducible refine And.intro ?_ ?_);·first|omega|trivial|(show _=_;rfl)|((with_reducible refine And.intro ?_ ?_)<;>first|omega|trivial|(show _=_;rfl)))|fail
  exact hQ' _ (by omega)
 ·intro i x xs hat _ ih2 N' hN' hQ'
  have hb:=hat.b
  have hr:=hat.r
  simp only [zBH] at hQ'
  refine wx _ _ _ _ _ _ _ _ _ ?_
  repeat' first|with_reducible intro _|simp only[hat.lt,hat.w,Int.toNat_natCast,hr,Y1,Y2,Y3,Y4]|(with_reducible first|refine X1 ?_ ?_|refine X2 ?_ ?_|refine X3 ?_ ?_|refine X4 ?_ ?_|refine X5 ?_ ?_|refine X6 ?_ ?_|refine X7 ?_ ?_|refine X8 ?_ ?_|refine X9 ?_ ?_)|refine⟨_,_,_,rfl,?_⟩|refine⟨_,rfl,?_⟩|((with_reducible refine And.intro ?_ ?_);·first|omega|trivial|(show _=_;rfl)|((with_reducible refine And.intro ?_ ?_)<;>first|omega|trivial|(show _=_;rfl)))|fail
  ·rename_i h _ _;subst h;exact Qi (hQ' _ (by omega)) (by simp)
  ·rename_i h;exact ih2 _ hN' fun N'' h2=>Qi (hQ' _ h2) (by rw [if_neg (by simpa using h)];simp)
theorem yW (l:List ByteArray) (hl:l.length≤4611686018427387904) (a:Option Addr) (c:Nat) (s:ByteArray):ub 131 [.sv a 0 (zA l) c,.str s] (l.any fun x=>decide (s=x)):=fun N Q hQ=>by
 refine t7 N a _ c s Q fun _=>?_
 repeat' first|with_reducible intro _|simp only[Y1,Y2,Y3,Y4]|(with_reducible first|refine X1 ?_ ?_|refine X2 ?_ ?_|refine X3 ?_ ?_|refine X4 ?_ ?_|refine X5 ?_ ?_|refine X6 ?_ ?_|refine X7 ?_ ?_|refine X8 ?_ ?_|refine X9 ?_ ?_)|refine⟨_,_,_,rfl,?_⟩|refine⟨_,rfl,?_⟩|((with_reducible refine And.intro ?_ ?_);·first|omega|trivial|(show _=_;rfl)|((with_reducible refine And.intro ?_ ?_)<;>first|omega|trivial|(show _=_;rfl)))|refine (zIh l hl a c s) _ _ ?_|fail
 exact Qb (hQ _ (by omega)) (qR _ l 0 (by omega)).symm
theorem pc (s:ByteArray) (hs:s.size≤4611686018427387904):ub 176 [.str s] (yn s):=fun N Q hQ=>by
 refine zFw N s Q ?_
 have key:=upN hs (fun i=>∀ N',N≤N'→(∀ N'',N'≤N''→Q (uE s i&&zEE s) N'')→yg Q N s (s.size:Int) i N') ?_ ?_
 ·exact key N (Nat.le_refl _) hQ
 ·intro hlt N' hN' hQ'
  have hc:=yW [bytes [105,102],bytes [108,101,116],bytes [108,105,102,116],bytes [114,101,99],bytes [114,117,110]] (by simp)
  simp only [zA,List.map] at hc
  refine sH _ _ _ _ _ _ ?_
  repeat' first|with_reducible intro _|simp only[hlt,Y1,Y2,Y3,Y4]|(with_reducible first|refine X1 ?_ ?_|refine X2 ?_ ?_|refine X3 ?_ ?_|refine X4 ?_ ?_|refine X5 ?_ ?_|refine X6 ?_ ?_|refine X7 ?_ ?_|refine X8 ?_ ?_|refine X9 ?_ ?_)|refine⟨_,_,_,rfl,?_⟩|refine⟨_,rfl,?_⟩|((with_reducible refine And.intro ?_ ?_);·first|omega|trivial|(show _=_;rfl)|((with_reducible refine And.intro ?_ ?_)<;>first|omega|trivial|(show _=_;rfl)))|refine (yq _ _ _) _ _ ?_|refine (hc _ _ _) _ _ ?_|fail
  all_goals (refine Qb (hQ' _ (by omega)) ?_;rw [zAl])
  ·simp only [zEE,List.any_cons,List.any_nil,Bool.or_false, *]
   cases decide (s=bytes [105,102])<;>cases decide (s=bytes [108,101,116])<;>cases decide (s=bytes [108,105,102,116])<;>cases decide (s=bytes [114,101,99])<;>cases decide (s=bytes [114,117,110])<;>rfl
  ·simp [zEE, *]
 ·intro i hi hlt hw ih2 N' hN' hQ'
  refine sH _ _ _ _ _ _ ?_
  rw [qh hi] at hQ'
  repeat' first|with_reducible intro _|simp only[hlt,hw,Int.toNat_natCast,Y1,Y2,Y3,Y4]|(with_reducible first|refine X1 ?_ ?_|refine X2 ?_ ?_|refine X3 ?_ ?_|refine X4 ?_ ?_|refine X5 ?_ ?_|refine X6 ?_ ?_|refine X7 ?_ ?_|refine X8 ?_ ?_|refine X9 ?_ ?_)|refine⟨_,_,_,rfl,?_⟩|refine⟨_,rfl,?_⟩|((with_reducible refine And.intro ?_ ?_);·first|omega|trivial|(show _=_;rfl)|((with_reducible refine And.intro ?_ ?_)<;>first|omega|trivial|(show _=_;rfl)))|fail
  all_goals first
   | (refine Qb (hQ' _ (by omega)) ?_;unfold zEB zAr;simp only [*];simp;done)
   | (refine ih2 _ (by omega) fun N'' h=>Qb (hQ' N'' (by omega)) ?_;unfold zEB zAr;simp only [*];simp;done)
theorem zAd:∀ (t:Ty) (d:D),t.Is d→t.cnt≤1073741824→qN 157 [.dg 2 d] t.cnt:=by
 refine Ty.ind fun k l ih d hd hc N Q hQ=>?_
 obtain ⟨a,es,c,rfl,hlen,hes⟩:=Ty.is_mk.1 hd
 simp only [Ty.cnt] at hc
 refine zAE N _ Q fun _=>⟨_,_,_,rfl,?_⟩
 refine up hes hlen (fun i xs=>∀ (m:Nat) (N':Nat),N≤N'→m+zJ xs=1+zJ l→yp Q N m a es c es.length i N') ?_ ?_ 1 N (Nat.le_refl _) rfl
 ·intro i hlt _ m N' hN' hm
  refine ve _ _ _ _ _ _ _ _ _ ?_
  simp only [zJ] at hm
  repeat' first|with_reducible intro _|simp only[hlt,Y1,Y2,Y3,Y4]|(with_reducible first|refine X1 ?_ ?_|refine X2 ?_ ?_|refine X3 ?_ ?_|refine X4 ?_ ?_|refine X5 ?_ ?_|refine X6 ?_ ?_|refine X7 ?_ ?_|refine X8 ?_ ?_|refine X9 ?_ ?_)|refine⟨_,_,_,rfl,?_⟩|refine⟨_,rfl,?_⟩|((with_reducible refine And.intro ?_ ?_);·first|omega|trivial|(show _=_;rfl)|((with_reducible refine And.intro ?_ ?_)<;>first|omega|trivial|(show _=_;rfl)))|fail
  exact Qi (hQ _ (by omega)) (by simp only [Ty.cnt];omega)
 ·intro i x xs hat _ ih2 m N' hN' hm
  have hb:=hat.b
  have hxc:=wg hat.m
  simp only [zJ] at hm
  refine ve _ _ _ _ _ _ _ _ _ ?_
  repeat' first|with_reducible intro _|simp only[hat.lt,hat.w,Int.toNat_natCast,Y1,Y2,Y3,Y4]|(with_reducible first|refine X1 ?_ ?_|refine X2 ?_ ?_|refine X3 ?_ ?_|refine X4 ?_ ?_|refine X5 ?_ ?_|refine X6 ?_ ?_|refine X7 ?_ ?_|refine X8 ?_ ?_|refine X9 ?_ ?_)|refine⟨_,_,_,rfl,?_⟩|refine⟨_,rfl,?_⟩|((with_reducible refine And.intro ?_ ?_);·first|omega|trivial|(show _=_;rfl)|((with_reducible refine And.intro ?_ ?_)<;>first|omega|trivial|(show _=_;rfl)))|refine (ih x hat.m _ hat.r (by omega)) _ _ ?_|fail
  rw [i64_in _ (by omega)]
  exact ih2 (m+x.cnt) _ (by omega) (by omega)
theorem qa:∀ (t:Ty) (d:D),t.Is d→t.cnt≤1073741824→qN 158 [.dg 2 d] t.dep:=by
 refine Ty.ind fun k l ih d hd hc N Q hQ=>?_
 obtain ⟨a,es,c,rfl,hlen,hes⟩:=Ty.is_mk.1 hd
 simp only [Ty.cnt] at hc
 have hdl:=rC l
 refine pN N _ Q fun _=>⟨_,_,_,rfl,?_⟩
 refine up hes hlen (fun i xs=>∀ (m:Nat) (N':Nat),N≤N'→max m (tf xs)=tf l→ye Q N m a es c es.length i N') ?_ ?_ 0 N (Nat.le_refl _) (by omega)
 ·intro i hlt _ m N' hN' hm
  refine vF _ _ _ _ _ _ _ _ _ ?_
  simp only [tf] at hm
  repeat' first|with_reducible intro _|simp only[hlt,Y1,Y2,Y3,Y4]|(with_reducible first|refine X1 ?_ ?_|refine X2 ?_ ?_|refine X3 ?_ ?_|refine X4 ?_ ?_|refine X5 ?_ ?_|refine X6 ?_ ?_|refine X7 ?_ ?_|refine X8 ?_ ?_|refine X9 ?_ ?_)|refine⟨_,_,_,rfl,?_⟩|refine⟨_,rfl,?_⟩|((with_reducible refine And.intro ?_ ?_);·first|omega|trivial|(show _=_;rfl)|((with_reducible refine And.intro ?_ ?_)<;>first|omega|trivial|(show _=_;rfl)))|fail
  rw [i64_in _ (by omega)]
  exact Qi (hQ _ (by omega)) (by simp only [Ty.dep];omega)
 ·intro i x xs hat _ ih2 m N' hN' hm
  have hb:=hat.b
  have hxc:=wg hat.m
  simp only [tf] at hm
  refine vF _ _ _ _ _ _ _ _ _ ?_
  repeat' first|with_reducible intro _|simp only[hat.lt,hat.w,Int.toNat_natCast,Y1,Y2,Y3,Y4]|(with_reducible first|refine X1 ?_ ?_|refine X2 ?_ ?_|refine X3 ?_ ?_|refine X4 ?_ ?_|refine X5 ?_ ?_|refine X6 ?_ ?_|refine X7 ?_ ?_|refine X8 ?_ ?_|refine X9 ?_ ?_)|refine⟨_,_,_,rfl,?_⟩|refine⟨_,rfl,?_⟩|((with_reducible refine And.intro ?_ ?_);·first|omega|trivial|(show _=_;rfl)|((with_reducible refine And.intro ?_ ?_)<;>first|omega|trivial|(show _=_;rfl)))|refine (ih x hat.m _ hat.r (by omega)) _ _ ?_|fail
  have e:(if (x.dep:Int)>(m:Int) then (x.dep:Int) else (m:Int))=((max m x.dep:Nat):Int):=by split<;>omega
  rw [e]
  exact ih2 _ _ (by omega) (by omega)
theorem zBn (t:Ty) (d:D) (hd:t.Is d):ub 159 [.dg 2 d] (zHL t.k t.as.length):=fun N Q hQ=>by
 cases t with
 | mk k l=>
 obtain ⟨a,es,c,rfl,hlen,hes⟩:=Ty.is_mk.1 hd
 have hl:=hes.len
 simp only [Ty.k,Ty.as] at hQ
 refine rW N _ Q fun _=>?_
 cases hin:inB k 1 4 with
 | false=>
   repeat' first|with_reducible intro _|simp only[hin,Y1,Y2,Y3,Y4]|(with_reducible first|refine X1 ?_ ?_|refine X2 ?_ ?_|refine X3 ?_ ?_|refine X4 ?_ ?_|refine X5 ?_ ?_|refine X6 ?_ ?_|refine X7 ?_ ?_|refine X8 ?_ ?_|refine X9 ?_ ?_)|refine⟨_,_,_,rfl,?_⟩|refine⟨_,rfl,?_⟩|((with_reducible refine And.intro ?_ ?_);·first|omega|trivial|(show _=_;rfl)|((with_reducible refine And.intro ?_ ?_)<;>first|omega|trivial|(show _=_;rfl)))|refine (yq _ _ _) _ _ ?_|fail
   refine Qb (hQ _ (by omega)) ?_
   have:¬(1≤k∧k≤4):=fun h=>by rw [xC.2 h] at hin;cases hin
   unfold zHL
   rw [if_neg (by omega),if_neg (by omega),if_neg (by omega)]
 | true=>
   have hb:=xC.1 hin
   have w0:IntKind.i64.wrap 0=0:=rfl
   have w1:IntKind.i64.wrap 1=1:=rfl
   have w2:IntKind.i64.wrap 2=2:=rfl
   have w3:IntKind.i64.wrap 3=3:=rfl
   have hk:k=1∨k=2∨k=3∨k=4:=by omega
   rcases hk with rfl | rfl | rfl | rfl
   all_goals
    repeat' first|with_reducible intro _|simp only[hin,w0,w1,w2,w3,Y1,Y2,Y3,Y4]|(with_reducible first|refine X1 ?_ ?_|refine X2 ?_ ?_|refine X3 ?_ ?_|refine X4 ?_ ?_|refine X5 ?_ ?_|refine X6 ?_ ?_|refine X7 ?_ ?_|refine X8 ?_ ?_|refine X9 ?_ ?_)|refine⟨_,_,_,rfl,?_⟩|refine⟨_,rfl,?_⟩|((with_reducible refine And.intro ?_ ?_);·first|omega|trivial|(show _=_;rfl)|((with_reducible refine And.intro ?_ ?_)<;>first|omega|trivial|(show _=_;rfl)))|refine (yq _ _ _) _ _ ?_|fail
    refine Qb (hQ _ (by omega)) ?_
    simp [zHL,hl]
theorem zCp:∀ l:List Ty,sT l=!(l.any fun x=>!x.form)
 | []=>rfl
 | t::ts=>by simp only [sT,List.any_cons,zCp ts];cases t.form<;>simp
theorem zB1 {p:Ty→Bool} {l:List Ty} {es:List D} (h:All2 Ty.Is l es) (hlen:es.length≤4611686018427387904) (ad:Addr) (hp:∀ x∈l,∀ d,x.Is d→ub 161 [.dg 2 d,.pd ad 0 (.fn 159 [])] (p x)) (a:Option Addr) (c:Nat) :
  ub 160 [.sv a 2 es c,.fn 161 [.pd ad 0 (.fn 159 [])]] (l.any p):=fun N Q hQ=>by
 have hi:qN 185 [.sv a 2 es c,.fn 161 [.pd ad 0 (.fn 159 [])]] (zBH p l 0):=fun N Q hQ=>by
  refine uC N a es c ad Q fun _=>?_
  refine up h hlen (fun i xs=>∀ (N':Nat),N≤N'→(∀ N'',N'≤N''→Q (zBH p xs i) N'')→zr Q N a es c ad es.length i N') ?_ ?_ N (Nat.le_refl _) hQ
  ·intro i hlt _ N' hN' hQ'
   refine xX _ _ _ _ _ _ _ _ _ ?_
   repeat' first|with_reducible intro _|simp only[hlt,Y1,Y2,Y3,Y4]|(with_reducible first|refine X1 ?_ ?_|refine X2 ?_ ?_|refine X3 ?_ ?_|refine X4 ?_ ?_|refine X5 ?_ ?_|refine X6 ?_ ?_|refine X7 ?_ ?_|refine X8 ?_ ?_|refine X9 ?_ ?_)|refine⟨_,_,_,rfl,?_⟩|refine⟨_,rfl,?_⟩|((with_reducible refine And.intro ?_ ?_);·first|omega|trivial|(show _=_;rfl)|((with_reducible refine And.intro ?_ ?_)<;>first|omega|trivial|(show _=_;rfl)))|fail
   exact hQ' _ (by omega)
  ·intro i x xs hat _ ih2 N' hN' hQ'
   have hb:=hat.b
   simp only [zBH] at hQ'
   refine xX _ _ _ _ _ _ _ _ _ ?_
   repeat' first|with_reducible intro _|simp only[hat.lt,hat.w,Int.toNat_natCast,Y1,Y2,Y3,Y4]|(with_reducible first|refine X1 ?_ ?_|refine X2 ?_ ?_|refine X3 ?_ ?_|refine X4 ?_ ?_|refine X5 ?_ ?_|refine X6 ?_ ?_|refine X7 ?_ ?_|refine X8 ?_ ?_|refine X9 ?_ ?_)|refine⟨_,_,_,rfl,?_⟩|refine⟨_,rfl,?_⟩|((with_reducible refine And.intro ?_ ?_);·first|omega|trivial|(show _=_;rfl)|((with_reducible refine And.intro ?_ ?_)<;>first|omega|trivial|(show _=_;rfl)))|refine (hp x hat.m _ hat.r) _ _ ?_|fail
   ·exact Qi (hQ' _ (by omega)) (by rw [if_pos (by assumption)])
   ·rename_i h;exact ih2 _ (by omega) fun N'' h2=>Qi (hQ' _ (by omega)) (by rw [h];simp)
 refine w6 N a es c ad Q fun _=>?_
 repeat' first|with_reducible intro _|simp only[Y1,Y2,Y3,Y4]|(with_reducible first|refine X1 ?_ ?_|refine X2 ?_ ?_|refine X3 ?_ ?_|refine X4 ?_ ?_|refine X5 ?_ ?_|refine X6 ?_ ?_|refine X7 ?_ ?_|refine X8 ?_ ?_|refine X9 ?_ ?_)|refine⟨_,_,_,rfl,?_⟩|refine⟨_,rfl,?_⟩|((with_reducible refine And.intro ?_ ?_);·first|omega|trivial|(show _=_;rfl)|((with_reducible refine And.intro ?_ ?_)<;>first|omega|trivial|(show _=_;rfl)))|refine hi _ _ ?_|fail
 exact Qb (hQ _ (by omega)) (qR _ l 0 (by omega)).symm
theorem zJn:∀ (t:Ty) (d:D),t.Is d→ub 126 [.dg 2 d,.fn 159 []] t.form:=by
 refine Ty.ind fun k l ih d hd N Q hQ=>?_
 have hd':=hd
 obtain ⟨a,es,c,rfl,hlen,hes⟩:=Ty.is_mk.1 hd
 refine pQ N _ Q fun _=>?_
 simp only [Ty.form,zCp] at hQ
 repeat' first|with_reducible intro _|simp only[Y1,Y2,Y3,Y4]|(with_reducible first|refine X1 ?_ ?_|refine X2 ?_ ?_|refine X3 ?_ ?_|refine X4 ?_ ?_|refine X5 ?_ ?_|refine X6 ?_ ?_|refine X7 ?_ ?_|refine X8 ?_ ?_|refine X9 ?_ ?_)|refine⟨_,_,_,rfl,?_⟩|refine⟨_,rfl,?_⟩|((with_reducible refine And.intro ?_ ?_);·first|omega|trivial|(show _=_;rfl)|((with_reducible refine And.intro ?_ ?_)<;>first|omega|trivial|(show _=_;rfl)))|refine (zBn _ _ hd') _ _ ?_|refine (zB1 hes hlen _ (fun x hx d hd=>fun N Q hQ=>rg N d _ Q fun _ N1 hN1=>ih x hx d hd N1 _ fun N2 hN2 hle N3 hN3=>hQ N3 (by omega)) _ _) _ _ ?_|fail
 ·have h:zHL (Ty.mk k l).k (Ty.mk k l).as.length=true:=by assumption
  exact Qb (hQ _ (by omega)) (by simp only [Ty.k,Ty.as] at h;rw [h,Bool.and_true])
 ·rename_i h _ _
  exact Qb (hQ _ (by omega)) (by simp only [Ty.k,Ty.as] at h;rw [h,Bool.and_false])
theorem uT (t:Ty) (d:D) (hd:t.Is d) (hc:t.cnt≤1073741824):ub 125 [.dg 2 d] t.valid:=fun N Q hQ=>by
 refine pC N _ Q fun _=>?_
 repeat' first|with_reducible intro _|simp only[Y1,Y2,Y3,Y4]|(with_reducible first|refine X1 ?_ ?_|refine X2 ?_ ?_|refine X3 ?_ ?_|refine X4 ?_ ?_|refine X5 ?_ ?_|refine X6 ?_ ?_|refine X7 ?_ ?_|refine X8 ?_ ?_|refine X9 ?_ ?_)|refine⟨_,_,_,rfl,?_⟩|refine⟨_,rfl,?_⟩|((with_reducible refine And.intro ?_ ?_);·first|omega|trivial|(show _=_;rfl)|((with_reducible refine And.intro ?_ ?_)<;>first|omega|trivial|(show _=_;rfl)))|refine (zAd t d hd hc) _ _ ?_|refine (qa t d hd hc) _ _ ?_|refine (zJn t d hd) _ _ ?_|fail
 ·refine Qb (hQ _ (by omega)) ?_
  have h1:t.cnt≤30:=by omega
  have h2:t.dep≤8:=by omega
  simp [Ty.valid, *]
 ·refine Qb (hQ _ (by omega)) ?_
  have h2:¬t.dep≤8:=by omega
  simp [Ty.valid, *]
 ·refine Qb (hQ _ (by omega)) ?_
  have h1:¬t.cnt≤30:=by omega
  simp [Ty.valid, *]
theorem xk:∀ (t u:Ty) (d e:D),t.Is d→u.Is e→ub 143 [.dg 2 d,.dg 2 e] (zIu t u):=by
 refine Ty.ind fun k l ih u d e hd he N Q hQ=>?_
 cases u with
 | mk k' l'=>
 obtain ⟨a,es,c,rfl,hlen,hes⟩:=Ty.is_mk.1 hd
 obtain ⟨a',es',c',rfl,hlen',hes'⟩:=Ty.is_mk.1 he
 have hl:=hes.len
 have hl':=hes'.len
 simp only [zIu] at hQ
 have hf:ub 178 [.sv a 2 es c,.sv a' 2 es' c',.fn 143 []] (uc l l'):=fun N Q hQ=>by
  have key:l.length=l'.length→∀ (N':Nat),N≤N'→(∀ N'',N'≤N''→Q (uc l (l'.drop 0)) N'')→zT Q N a' es' c' a es c es.length (0:Nat) N':=by
   intro hll
   refine up hes hlen (fun i xs=>∀ (N':Nat),N≤N'→(∀ N'',N'≤N''→Q (uc xs (l'.drop i)) N'')→zT Q N a' es' c' a es c es.length i N') ?_ ?_
   ·intro i hlt hi N' hN' hQ'
    refine xa _ _ _ _ _ _ _ _ _ _ _ ?_
    repeat' first|with_reducible intro _|simp only[hlt,Y1,Y2,Y3,Y4]|(with_reducible first|refine X1 ?_ ?_|refine X2 ?_ ?_|refine X3 ?_ ?_|refine X4 ?_ ?_|refine X5 ?_ ?_|refine X6 ?_ ?_|refine X7 ?_ ?_|refine X8 ?_ ?_|refine X9 ?_ ?_)|refine⟨_,_,_,rfl,?_⟩|refine⟨_,rfl,?_⟩|((with_reducible refine And.intro ?_ ?_);·first|omega|trivial|(show _=_;rfl)|((with_reducible refine And.intro ?_ ?_)<;>first|omega|trivial|(show _=_;rfl)))|fail
    refine Qb (hQ' _ (by assumption)) ?_
    rw [List.drop_eq_nil_of_le (by omega)]
    rfl
   ·intro i x xs hat _ ih2 N' hN' hQ'
    have hb:=hat.b
    have hi':i<l'.length:=by omega
    have hg:l'[i]?=some l'[i]:=List.getElem?_eq_getElem hi'
    have hd':l'.drop i=l'[i]::l'.drop (i+1):=List.drop_eq_getElem_cons hi'
    refine xa _ _ _ _ _ _ _ _ _ _ _ ?_
    rw [hd'] at hQ'
    repeat' first|with_reducible intro _|simp only[hat.lt,hat.w,Int.toNat_natCast,Y1,Y2,Y3,Y4]|(with_reducible first|refine X1 ?_ ?_|refine X2 ?_ ?_|refine X3 ?_ ?_|refine X4 ?_ ?_|refine X5 ?_ ?_|refine X6 ?_ ?_|refine X7 ?_ ?_|refine X8 ?_ ?_|refine X9 ?_ ?_)|refine⟨_,_,_,rfl,?_⟩|refine⟨_,rfl,?_⟩|((with_reducible refine And.intro ?_ ?_);·first|omega|trivial|(show _=_;rfl)|((with_reducible refine And.intro ?_ ?_)<;>first|omega|trivial|(show _=_;rfl)))|refine (ih x hat.m _ _ _ hat.r (hes'.get hg)) _ _ ?_|fail
    ·exact Qb (hQ' _ (by omega)) (by simp [uc, *])
    ·exact ih2 _ (by omega) fun N'' h=>Qb (hQ' N'' (by omega)) (by simp [uc, *])
  refine v6 N _ _ _ _ _ _ Q fun _ _=>?_
  repeat' first|with_reducible intro _|simp only[Y1,Y2,Y3,Y4]|(with_reducible first|refine X1 ?_ ?_|refine X2 ?_ ?_|refine X3 ?_ ?_|refine X4 ?_ ?_|refine X5 ?_ ?_|refine X6 ?_ ?_|refine X7 ?_ ?_|refine X8 ?_ ?_|refine X9 ?_ ?_)|refine⟨_,_,_,rfl,?_⟩|refine⟨_,rfl,?_⟩|((with_reducible refine And.intro ?_ ?_);·first|omega|trivial|(show _=_;rfl)|((with_reducible refine And.intro ?_ ?_)<;>first|omega|trivial|(show _=_;rfl)))|fail
  ·exact Qb (hQ _ (by assumption)) (zC8 (by omega))
  ·exact key (by omega) N (Nat.le_refl _) hQ
 refine zBC N _ _ Q fun _ _=>?_
 repeat' first|with_reducible intro _|simp only[Y1,Y2,Y3,Y4]|(with_reducible first|refine X1 ?_ ?_|refine X2 ?_ ?_|refine X3 ?_ ?_|refine X4 ?_ ?_|refine X5 ?_ ?_|refine X6 ?_ ?_|refine X7 ?_ ?_|refine X8 ?_ ?_|refine X9 ?_ ?_)|refine⟨_,_,_,rfl,?_⟩|refine⟨_,rfl,?_⟩|((with_reducible refine And.intro ?_ ?_);·first|omega|trivial|(show _=_;rfl)|((with_reducible refine And.intro ?_ ?_)<;>first|omega|trivial|(show _=_;rfl)))|refine hf _ _ ?_|fail
 ·exact Qb (hQ _ (by omega)) (by simp [*])
 ·exact Qb (hQ _ (by omega)) (by simp [*])
theorem qE (s:ByteArray):qN 175 [.str s] (zHu s):=fun N Q hQ=>by
 refine zDy N s Q ?_
 repeat' first|with_reducible intro _|simp only[Y1,Y2,Y3,Y4]|(with_reducible first|refine X1 ?_ ?_|refine X2 ?_ ?_|refine X3 ?_ ?_|refine X4 ?_ ?_|refine X5 ?_ ?_|refine X6 ?_ ?_|refine X7 ?_ ?_|refine X8 ?_ ?_|refine X9 ?_ ?_)|refine⟨_,_,_,rfl,?_⟩|refine⟨_,rfl,?_⟩|((with_reducible refine And.intro ?_ ?_);·first|omega|trivial|(show _=_;rfl)|((with_reducible refine And.intro ?_ ?_)<;>first|omega|trivial|(show _=_;rfl)))|fail
 all_goals (refine Qi (hQ _ (by assumption)) ?_;unfold zHu;(repeat' split)<;>first | rfl | contradiction)
def arI (k:Int) (nm:ByteArray):Int:=
 if k=4 then zHu nm else if k=5 then 3 else if k=7∨k=8 then 2 else if k=6∨k=9∨k=10∨k=11∨k=12∨k=13 then 1 else 0
theorem zHk {k n:Int} {nm ot:ByteArray} {t0 t1 r0 r1 x:D}:qN 141 [.dg 9 (.ag [.lit (.int .i64 k),.lit (.string nm),.lit (.string ot),.lit (.int .i64 n),t0,t1,r0,r1,x])] (arI k nm):=fun N Q hQ=>by
 refine zHn N _ Q fun _=>?_
 repeat' first|with_reducible intro _|simp only[Y1,Y2,Y3,Y4]|(with_reducible first|refine X1 ?_ ?_|refine X2 ?_ ?_|refine X3 ?_ ?_|refine X4 ?_ ?_|refine X5 ?_ ?_|refine X6 ?_ ?_|refine X7 ?_ ?_|refine X8 ?_ ?_|refine X9 ?_ ?_)|refine⟨_,_,_,rfl,?_⟩|refine⟨_,rfl,?_⟩|((with_reducible refine And.intro ?_ ?_);·first|omega|trivial|(show _=_;rfl)|((with_reducible refine And.intro ?_ ?_)<;>first|omega|trivial|(show _=_;rfl)))|refine (qE _) _ _ ?_|fail
 all_goals (refine Qi (hQ _ (by omega)) ?_;simp [arI, *])
theorem vX (n:Int):ub 177 [.int .i64 n] (inB n 0 10006):=fun N Q hQ=>by
 refine zC6 N n Q ?_
 repeat' first|with_reducible intro _|simp only[Y1,Y2,Y3,Y4]|(with_reducible first|refine X1 ?_ ?_|refine X2 ?_ ?_|refine X3 ?_ ?_|refine X4 ?_ ?_|refine X5 ?_ ?_|refine X6 ?_ ?_|refine X7 ?_ ?_|refine X8 ?_ ?_|refine X9 ?_ ?_)|refine⟨_,_,_,rfl,?_⟩|refine⟨_,rfl,?_⟩|((with_reducible refine And.intro ?_ ?_);·first|omega|trivial|(show _=_;rfl)|((with_reducible refine And.intro ?_ ?_)<;>first|omega|trivial|(show _=_;rfl)))|refine (yq _ _ _) _ _ ?_|fail
 exact hQ _ (by omega)
def zEo (k:Int) (nm ot:ByteArray) (n:Int) (ty re:Ty):Bool:=
 if k=1∨k=8 then yn nm else if k=2 then inB n 0 10006 else if k=3 then inB n 0 1 else if k=4 then decide (zHu nm>0)
 else if k=6 then yn nm&&ty.valid else if k=9 then yn nm&&(yn ot&&(!decide (nm=ot)&&(ty.valid&&re.valid))) else inB k 1 13
theorem zDh {k n:Int} {nm ot:ByteArray} {ty re:Ty} {t0 t1 r0 r1 x:D} (h:Tm.Hd nm ot ty re t0 t1 r0 r1) (hc:ty.cnt≤1073741824) (hc2:re.cnt≤1073741824) :
  ub 142 [.dg 9 (.ag [.lit (.int .i64 k),.lit (.string nm),.lit (.string ot),.lit (.int .i64 n),t0,t1,r0,r1,x])] (zEo k nm ot n ty re):=fun N Q hQ=>by
 refine zDj N _ Q fun _=>?_
 repeat' first|with_reducible intro _|simp only[Y1,Y2,Y3,Y4]|(with_reducible first|refine X1 ?_ ?_|refine X2 ?_ ?_|refine X3 ?_ ?_|refine X4 ?_ ?_|refine X5 ?_ ?_|refine X6 ?_ ?_|refine X7 ?_ ?_|refine X8 ?_ ?_|refine X9 ?_ ?_)|refine⟨_,_,_,rfl,?_⟩|refine⟨_,rfl,?_⟩|((with_reducible refine And.intro ?_ ?_);·first|omega|trivial|(show _=_;rfl)|((with_reducible refine And.intro ?_ ?_)<;>first|omega|trivial|(show _=_;rfl)))|refine (qE _) _ _ ?_|refine (pc _ h.nm) _ _ ?_|refine (pc _ h.ot) _ _ ?_|refine (vX _) _ _ ?_|refine (yq _ _ _) _ _ ?_|refine (uT _ _ h.ty hc) _ _ ?_|refine (uT _ _ h.re hc2) _ _ ?_|fail
 all_goals (refine Qb (hQ _ (by omega)) ?_;simp [zEo, *])
theorem zGK (t:Ty):zIu t t=true:=(zFQ t t).2 rfl
def zKW (k:Int) (nm ot:ByteArray) (n:Int) (ty re:Ty) (m:Int):Bool:=
 decide (m=arI k nm)&&(zEo k nm ot n ty re&&((decide (k=1∨k=8∨k=4∨k=6∨k=9)||decide (nm=bytes []))&&((decide (k=9)||decide (ot=bytes []))&&((decide (k=2∨k=3)||decide (n=0)) &&
  ((decide (k=6∨k=9)||zIu ty tZero)&&(decide (k=9)||zIu re tZero))))))
theorem zDe {k n:Int} {nm ot:ByteArray} {ty re:Ty} {t0 t1 r0 r1:D} {a:Option Addr} {es:List D} {c:Nat} (h:Tm.Hd nm ot ty re t0 t1 r0 r1) (hc:ty.cnt≤1073741824) (hc2:re.cnt≤1073741824) :
  ub 106 [.dg 9 (.ag [.lit (.int .i64 k),.lit (.string nm),.lit (.string ot),.lit (.int .i64 n),t0,t1,r0,r1,.sl a 9 es c])] (zKW k nm ot n ty re es.length):=fun N Q hQ=>by
 refine zFo N _ Q fun _=>?_
 repeat' first|with_reducible intro _|simp only[Y1,Y2,Y3,Y4]|(with_reducible first|refine X1 ?_ ?_|refine X2 ?_ ?_|refine X3 ?_ ?_|refine X4 ?_ ?_|refine X5 ?_ ?_|refine X6 ?_ ?_|refine X7 ?_ ?_|refine X8 ?_ ?_|refine X9 ?_ ?_)|refine⟨_,_,_,rfl,?_⟩|refine⟨_,rfl,?_⟩|((with_reducible refine And.intro ?_ ?_);·first|omega|trivial|(show _=_;rfl)|((with_reducible refine And.intro ?_ ?_)<;>first|omega|trivial|(show _=_;rfl)))|refine zHk _ _ ?_|refine (zDh h hc hc2) _ _ ?_|refine (xk ty tZero _ _ h.ty zK7) _ _ ?_|refine (xk re tZero _ _ h.re zK7) _ _ ?_|refine (xk ty ty _ _ h.ty h.ty) _ _ ?_|refine (xk re re _ _ h.re h.re) _ _ ?_|fail
 all_goals first | (exfalso;omega) | (refine Qb (hQ _ (by omega)) ?_;simp [zKW,zGK, *];done) | (refine Qb (hQ _ (by omega)) ?_;simp_all [zKW,zGK];done)
theorem zO7 (t:Ty):zIu t tZero=t.zero:=by
 cases t with
 | mk k l => cases l<;>simp [zIu,tZero,uc,Ty.zero,Ty.k,Ty.as]
             try omega
theorem zKM {t:Ty} (h:t.zero=true):t.valid=false:=by
 cases t with
 | mk k l=>
   simp only [Ty.zero,Ty.k,Ty.as,Bool.and_eq_true,beq_iff_eq] at h
   simp [Ty.valid,Ty.form,zHL,h.1]
theorem zRd (n:Int):inB n 0 0=decide (n=0):=by
 rw [Bool.eq_iff_iff,xC,decide_eq_true_iff];omega
theorem zp (t:Ty) (b:Bool):(!t.valid&&(t.zero&&b))=(t.zero&&b):=by
 cases h:t.zero with
 | false=>simp
 | true=>rw [zKM h];simp
theorem zNN (k:Int) (nm ot:ByteArray) (n:Int) (ty re:Ty) (m:Int) (hm:0≤m):zKW k nm ot n ty re m=(zK k nm ot n ty re&&m==zGN k nm):=by
 by_cases hk:k=1∨k=2∨k=3∨k=4∨k=5∨k=6∨k=7∨k=8∨k=9∨k=10∨k=11∨k=12∨k=13
 ·rw [zQw m]
  have b5:inB 5 1 13=true:=rfl
  have b7:inB 7 1 13=true:=rfl
  have b10:inB 10 1 13=true:=rfl
  have b11:inB 11 1 13=true:=rfl
  have b12:inB 12 1 13=true:=rfl
  have b13:inB 13 1 13=true:=rfl
  rcases hk with rfl | rfl | rfl | rfl | rfl | rfl | rfl | rfl | rfl | rfl | rfl | rfl | rfl
  all_goals
   simp [zKW,arI,zEo,zK,s7,xU,zGN,zO7,zRd,zp,b5,b7,b10,b11,b12,b13]
   try (rw [Bool.eq_iff_iff];simp [and_comm,and_left_comm,and_assoc])
 ·have h1:zGN k nm = -1:=by
   unfold zGN;rw [if_neg (by omega),if_neg (by omega),if_neg (by omega),if_neg (by omega),if_neg (by omega)]
  have h2:inB k 1 13=false:=by
   cases h:inB k 1 13 with
   | false=>rfl
   | true=>have:=xC.1 h;omega
  have h3:zEo k nm ot n ty re=false:=by
   unfold zEo;rw [if_neg (by omega),if_neg (by omega),if_neg (by omega),if_neg (by omega),if_neg (by omega),if_neg (by omega),h2]
  have h4:(m==zGN k nm)=false:=by rw [h1,zQw];exact decide_eq_false (by omega)
  rw [h4,zKW,h3]
  simp
theorem zNH {k n:Int} {nm ot:ByteArray} {ty re:Ty} {t0 t1 r0 r1:D} {a:Option Addr} {es:List D} {c:Nat} (h:Tm.Hd nm ot ty re t0 t1 r0 r1) (hc:ty.cnt≤1073741824) (hc2:re.cnt≤1073741824) :
  ub 106 [.dg 9 (.ag [.lit (.int .i64 k),.lit (.string nm),.lit (.string ot),.lit (.int .i64 n),t0,t1,r0,r1,.sl a 9 es c])] (zK k nm ot n ty re&&(es.length:Int)==zGN k nm):=by
 rw [←zNN _ _ _ _ _ _ _ (by omega)]
 exact zDe h hc hc2
theorem zGX:∀ l:List Tm,u6 l=!(l.any fun x=>!x.ok)
 | []=>rfl
 | t::ts=>by simp only [u6,List.any_cons,zGX ts];cases t.ok<;>simp
theorem zBk {p:Tm→Bool} {l:List Tm} {es:List D} (h:All2 Tm.Is l es) (hlen:es.length≤4611686018427387904) (ad:Addr) (hp:∀ x∈l,∀ d,x.Is d→ub 124 [.dg 9 d,.pd ad 0 (.fn 106 [])] (p x)) (a:Option Addr) (c:Nat) :
  ub 123 [.sv a 9 es c,.fn 124 [.pd ad 0 (.fn 106 [])]] (l.any p):=fun N Q hQ=>by
 have hi:qN 156 [.sv a 9 es c,.fn 124 [.pd ad 0 (.fn 106 [])]] (zBH p l 0):=fun N Q hQ=>by
  refine v7 N a es c ad Q fun _=>?_
  refine up h hlen (fun i xs=>∀ (N':Nat),N≤N'→(∀ N'',N'≤N''→Q (zBH p xs i) N'')→zo Q N a es c ad es.length i N') ?_ ?_ N (Nat.le_refl _) hQ
  ·intro i hlt _ N' hN' hQ'
   refine xc _ _ _ _ _ _ _ _ _ ?_
   repeat' first|with_reducible intro _|simp only[hlt,Y1,Y2,Y3,Y4]|(with_reducible first|refine X1 ?_ ?_|refine X2 ?_ ?_|refine X3 ?_ ?_|refine X4 ?_ ?_|refine X5 ?_ ?_|refine X6 ?_ ?_|refine X7 ?_ ?_|refine X8 ?_ ?_|refine X9 ?_ ?_)|refine⟨_,_,_,rfl,?_⟩|refine⟨_,rfl,?_⟩|((with_reducible refine And.intro ?_ ?_);·first|omega|trivial|(show _=_;rfl)|((with_reducible refine And.intro ?_ ?_)<;>first|omega|trivial|(show _=_;rfl)))|fail
   exact hQ' _ (by omega)
  ·intro i x xs hat _ ih2 N' hN' hQ'
   have hb:=hat.b
   simp only [zBH] at hQ'
   refine xc _ _ _ _ _ _ _ _ _ ?_
   repeat' first|with_reducible intro _|simp only[hat.lt,hat.w,Int.toNat_natCast,Y1,Y2,Y3,Y4]|(with_reducible first|refine X1 ?_ ?_|refine X2 ?_ ?_|refine X3 ?_ ?_|refine X4 ?_ ?_|refine X5 ?_ ?_|refine X6 ?_ ?_|refine X7 ?_ ?_|refine X8 ?_ ?_|refine X9 ?_ ?_)|refine⟨_,_,_,rfl,?_⟩|refine⟨_,rfl,?_⟩|((with_reducible refine And.intro ?_ ?_);·first|omega|trivial|(show _=_;rfl)|((with_reducible refine And.intro ?_ ?_)<;>first|omega|trivial|(show _=_;rfl)))|refine (hp x hat.m _ hat.r) _ _ ?_|fail
   ·exact Qi (hQ' _ (by omega)) (by rw [if_pos (by assumption)])
   ·rename_i h;exact ih2 _ (by omega) fun N'' h2=>Qi (hQ' _ (by omega)) (by rw [h];simp)
 refine w7 N a es c ad Q fun _=>?_
 repeat' first|with_reducible intro _|simp only[Y1,Y2,Y3,Y4]|(with_reducible first|refine X1 ?_ ?_|refine X2 ?_ ?_|refine X3 ?_ ?_|refine X4 ?_ ?_|refine X5 ?_ ?_|refine X6 ?_ ?_|refine X7 ?_ ?_|refine X8 ?_ ?_|refine X9 ?_ ?_)|refine⟨_,_,_,rfl,?_⟩|refine⟨_,rfl,?_⟩|((with_reducible refine And.intro ?_ ?_);·first|omega|trivial|(show _=_;rfl)|((with_reducible refine And.intro ?_ ?_)<;>first|omega|trivial|(show _=_;rfl)))|refine hi _ _ ?_|fail
 exact Qb (hQ _ (by omega)) (qR _ l 0 (by omega)).symm
theorem zKX:∀ (t:Tm) (d:D),t.Is d→t.cnt≤1073741824→ub 93 [.dg 9 d,.fn 106 []] t.ok:=by
 refine Tm.ind fun k nm ot n ty re l ih d hd hc N Q hQ=>?_
 obtain ⟨t0,t1,r0,r1,a,es,c,rfl,hh,hlen,hes⟩:=Tm.is_mk.1 hd
 have hl:=hes.len
 simp only [Tm.cnt] at hc
 refine pP N _ Q fun _=>?_
 simp only [Tm.ok,zGX,←hl] at hQ
 repeat' first|with_reducible intro _|simp only[Y1,Y2,Y3,Y4]|(with_reducible first|refine X1 ?_ ?_|refine X2 ?_ ?_|refine X3 ?_ ?_|refine X4 ?_ ?_|refine X5 ?_ ?_|refine X6 ?_ ?_|refine X7 ?_ ?_|refine X8 ?_ ?_|refine X9 ?_ ?_)|refine⟨_,_,_,rfl,?_⟩|refine⟨_,rfl,?_⟩|((with_reducible refine And.intro ?_ ?_);·first|omega|trivial|(show _=_;rfl)|((with_reducible refine And.intro ?_ ?_)<;>first|omega|trivial|(show _=_;rfl)))|refine (zNH hh (by omega) (by omega)) _ _ ?_|refine (zBk hes hlen _ (fun x hx d hd=>fun N Q hQ=>rd N d _ Q fun _ N1 hN1=>ih x hx d hd (by have:=wh hx;omega) N1 _ fun N2 hN2 hle N3 hN3=>hQ N3 (by omega)) _ _) _ _ ?_|fail
 ·have h:(zK k nm ot n ty re&&(es.length:Int)==zGN k nm)=true:=by assumption
  exact Qb (hQ _ (by omega)) (by rw [h,Bool.and_true])
 ·have h:(zK k nm ot n ty re&&(es.length:Int)==zGN k nm)=false:=by assumption
  exact Qb (hQ _ (by omega)) (by rw [h,Bool.and_false])
theorem tE (t:Tm) (d:D) (hd:t.Is d) (hc:t.cnt≤1073741824):ub 72 [.dg 9 d] t.ok:=fun N Q hQ=>by
 refine zE9 N _ Q fun _=>?_
 repeat' first|with_reducible intro _|simp only[Y1,Y2,Y3,Y4]|(with_reducible first|refine X1 ?_ ?_|refine X2 ?_ ?_|refine X3 ?_ ?_|refine X4 ?_ ?_|refine X5 ?_ ?_|refine X6 ?_ ?_|refine X7 ?_ ?_|refine X8 ?_ ?_|refine X9 ?_ ?_)|refine⟨_,_,_,rfl,?_⟩|refine⟨_,rfl,?_⟩|((with_reducible refine And.intro ?_ ?_);·first|omega|trivial|(show _=_;rfl)|((with_reducible refine And.intro ?_ ?_)<;>first|omega|trivial|(show _=_;rfl)))|refine (zKX t d hd hc) _ _ ?_|fail
 exact hQ _ (by omega)
theorem zH8 {k n m:Int} {c1 c2 c4 c5 c6 c7 c8:D} (h:0≤m∧m≤2):qN 107 [.dg 9 (.ag [.lit (.int .i64 k),c1,c2,.lit (.int .i64 n),c4,c5,c6,c7,c8]),.int .i64 m] (zS k m):=fun N Q hQ=>by
 refine tW N _ m Q fun _=>?_
 rw [i64_in (m+1) (by omega),i64_in (m - 1) (by omega)]
 repeat' first|with_reducible intro _|simp only[Y1,Y2,Y3,Y4]|(with_reducible first|refine X1 ?_ ?_|refine X2 ?_ ?_|refine X3 ?_ ?_|refine X4 ?_ ?_|refine X5 ?_ ?_|refine X6 ?_ ?_|refine X7 ?_ ?_|refine X8 ?_ ?_|refine X9 ?_ ?_)|refine⟨_,_,_,rfl,?_⟩|refine⟨_,rfl,?_⟩|((with_reducible refine And.intro ?_ ?_);·first|omega|trivial|(show _=_;rfl)|((with_reducible refine And.intro ?_ ?_)<;>first|omega|trivial|(show _=_;rfl)))|fail
 all_goals (refine Qi (hQ _ (by omega)) ?_;simp [zS, *])
theorem zAi (d:D) (m:Int):ub 74 [.dg 9 d,.int .i64 m] (inB m 0 2):=fun N Q hQ=>by
 refine p3 N _ m Q fun _=>?_
 repeat' first|with_reducible intro _|simp only[Y1,Y2,Y3,Y4]|(with_reducible first|refine X1 ?_ ?_|refine X2 ?_ ?_|refine X3 ?_ ?_|refine X4 ?_ ?_|refine X5 ?_ ?_|refine X6 ?_ ?_|refine X7 ?_ ?_|refine X8 ?_ ?_|refine X9 ?_ ?_)|refine⟨_,_,_,rfl,?_⟩|refine⟨_,rfl,?_⟩|((with_reducible refine And.intro ?_ ?_);·first|omega|trivial|(show _=_;rfl)|((with_reducible refine And.intro ?_ ?_)<;>first|omega|trivial|(show _=_;rfl)))|refine (yq _ _ _) _ _ ?_|fail
 exact hQ _ (by omega)
theorem zM3:∀ (t:Tm) (d:D),t.Is d→∀ m:Int,ub 73 [.dg 9 d,.int .i64 m,.fn 74 []] (t.lev m):=by
 refine Tm.ind fun k nm ot n ty re l ih d hd m N Q hQ=>?_
 obtain ⟨t0,t1,r0,r1,a,es,c,rfl,hh,hlen,hes⟩:=Tm.is_mk.1 hd
 have hl:=hes.len
 refine zAy N _ m Q fun _=>?_
 cases hin:inB m 0 2 with
 | false=>
   repeat' first|with_reducible intro _|simp only[hin,Y1,Y2,Y3,Y4]|(with_reducible first|refine X1 ?_ ?_|refine X2 ?_ ?_|refine X3 ?_ ?_|refine X4 ?_ ?_|refine X5 ?_ ?_|refine X6 ?_ ?_|refine X7 ?_ ?_|refine X8 ?_ ?_|refine X9 ?_ ?_)|refine⟨_,_,_,rfl,?_⟩|refine⟨_,rfl,?_⟩|((with_reducible refine And.intro ?_ ?_);·first|omega|trivial|(show _=_;rfl)|((with_reducible refine And.intro ?_ ?_)<;>first|omega|trivial|(show _=_;rfl)))|refine (zAi _ _) _ _ ?_|fail
   exact Qb (hQ _ (by omega)) (by simp [Tm.lev,hin])
 | true=>
   have hb:=xC.1 hin
   have key:=up hes hlen (fun i xs=>∀ (N':Nat),N≤N'→(∀ N'',N'≤N''→Q (sS xs (zS k m)) N'')→wD Q N m a es c es.length i (.ag [.lit (.int .i64 k),.lit (.string nm),.lit (.string ot),.lit (.int .i64 n),t0,t1,r0,r1,.sl a 9 es c]) N') ?_ ?_
   ·repeat' first|with_reducible intro _|simp only[hin,Y1,Y2,Y3,Y4]|(with_reducible first|refine X1 ?_ ?_|refine X2 ?_ ?_|refine X3 ?_ ?_|refine X4 ?_ ?_|refine X5 ?_ ?_|refine X6 ?_ ?_|refine X7 ?_ ?_|refine X8 ?_ ?_|refine X9 ?_ ?_)|refine⟨_,_,_,rfl,?_⟩|refine⟨_,rfl,?_⟩|((with_reducible refine And.intro ?_ ?_);·first|omega|trivial|(show _=_;rfl)|((with_reducible refine And.intro ?_ ?_)<;>first|omega|trivial|(show _=_;rfl)))|refine (zAi _ _) _ _ ?_|fail
    exact key _ (by omega) fun N'' h=>Qb (hQ N'' (by omega)) (by simp [Tm.lev,hin])
   ·intro i hlt _ N' hN' hQ'
    refine sq _ _ _ _ _ _ _ _ _ _ ?_
    repeat' first|with_reducible intro _|simp only[hlt,Y1,Y2,Y3,Y4]|(with_reducible first|refine X1 ?_ ?_|refine X2 ?_ ?_|refine X3 ?_ ?_|refine X4 ?_ ?_|refine X5 ?_ ?_|refine X6 ?_ ?_|refine X7 ?_ ?_|refine X8 ?_ ?_|refine X9 ?_ ?_)|refine⟨_,_,_,rfl,?_⟩|refine⟨_,rfl,?_⟩|((with_reducible refine And.intro ?_ ?_);·first|omega|trivial|(show _=_;rfl)|((with_reducible refine And.intro ?_ ?_)<;>first|omega|trivial|(show _=_;rfl)))|fail
    exact Qb (hQ' _ (by omega)) (by simp [sS])
   ·intro i x xs hat _ ih2 N' hN' hQ'
    have hb2:=hat.b
    refine sq _ _ _ _ _ _ _ _ _ _ ?_
    repeat' first|with_reducible intro _|simp only[hat.lt,hat.w,Int.toNat_natCast,Y1,Y2,Y3,Y4]|(with_reducible first|refine X1 ?_ ?_|refine X2 ?_ ?_|refine X3 ?_ ?_|refine X4 ?_ ?_|refine X5 ?_ ?_|refine X6 ?_ ?_|refine X7 ?_ ?_|refine X8 ?_ ?_|refine X9 ?_ ?_)|refine⟨_,_,_,rfl,?_⟩|refine⟨_,rfl,?_⟩|((with_reducible refine And.intro ?_ ?_);·first|omega|trivial|(show _=_;rfl)|((with_reducible refine And.intro ?_ ?_)<;>first|omega|trivial|(show _=_;rfl)))|refine (zH8 hb) _ _ ?_|refine (ih x hat.m _ hat.r _) _ _ ?_|fail
    ·refine Qb (hQ' _ (by omega)) ?_;simp [sS, *]
    ·exact ih2 _ (by omega) fun N'' h=>Qb (hQ' N'' (by omega)) (by simp [sS, *])
theorem s8 (t:Tm) (d:D) (hd:t.Is d) (hc:t.cnt≤1073741824) (m:Int):ub 39 [.dg 9 d,.int .i64 m] (zCj t m):=fun N Q hQ=>by
 refine zCL N _ m Q fun _=>?_
 repeat' first|with_reducible intro _|simp only[Y1,Y2,Y3,Y4]|(with_reducible first|refine X1 ?_ ?_|refine X2 ?_ ?_|refine X3 ?_ ?_|refine X4 ?_ ?_|refine X5 ?_ ?_|refine X6 ?_ ?_|refine X7 ?_ ?_|refine X8 ?_ ?_|refine X9 ?_ ?_)|refine⟨_,_,_,rfl,?_⟩|refine⟨_,rfl,?_⟩|((with_reducible refine And.intro ?_ ?_);·first|omega|trivial|(show _=_;rfl)|((with_reducible refine And.intro ?_ ?_)<;>first|omega|trivial|(show _=_;rfl)))|refine (tE t d hd hc) _ _ ?_|refine (zM3 t d hd m) _ _ ?_|fail
 all_goals (refine Qb (hQ _ (by omega)) ?_;simp [zCj, *])
theorem zPp:∀ (t:Ty) (d:D),t.Is d→t.cnt≤1073741824→zQf 110 [.dg 2 d] t:=by
 refine Ty.ind fun k l ih d hd hc N Q hQ=>?_
 obtain ⟨a,es,c,rfl,hlen,hes⟩:=Ty.is_mk.1 hd
 have hl:=hes.len
 simp only [Ty.cnt] at hc
 have hlc:=tH l
 refine zC4 N _ Q fun _=>⟨_,rfl,_,_,_,rfl,?_⟩
 have key:=up hes hlen (fun i xs=>∀ (N':Nat),N≤N'→(i=0→we Q N a es c es.length i 0 none [] 0 k none [] 0 N')∧∀ (m q:Nat) (r:List D),m=r.length→All2 Ty.Is (l.take i) r→OwnL N N' r →
  yb Q N a es c es.length i 0 none [] 0 k m q r q N') ?_ ?_
 ·exact (key N (Nat.le_refl _)).1 rfl
 ·intro i hlt hi N' hN'
  refine ⟨fun h0=>tA _ _ _ _ _ _ _ _ _ _ _ _ _ _ _ _ ?_,fun m q r hm hr ho=>vB _ _ _ _ _ _ _ _ _ _ _ _ _ _ _ _ _ ?_⟩
  ·repeat' first|with_reducible intro _|simp only[hlt,Y1,Y2,Y3,Y4]|(with_reducible first|refine X1 ?_ ?_|refine X2 ?_ ?_|refine X3 ?_ ?_|refine X4 ?_ ?_|refine X5 ?_ ?_|refine X6 ?_ ?_|refine X7 ?_ ?_|refine X8 ?_ ?_|refine X9 ?_ ?_)|refine⟨_,_,_,rfl,?_⟩|refine⟨_,rfl,?_⟩|((with_reducible refine And.intro ?_ ?_);·first|omega|trivial|(show _=_;rfl)|((with_reducible refine And.intro ?_ ?_)<;>first|omega|trivial|(show _=_;rfl)))|fail
   have:l=[]:=List.eq_nil_of_length_eq_zero (by omega)
   subst this
   exact hQ _ _ (by omega) (sF _) zLG
  ·repeat' first|with_reducible intro _|simp only[hlt,Y1,Y2,Y3,Y4]|(with_reducible first|refine X1 ?_ ?_|refine X2 ?_ ?_|refine X3 ?_ ?_|refine X4 ?_ ?_|refine X5 ?_ ?_|refine X6 ?_ ?_|refine X7 ?_ ?_|refine X8 ?_ ?_|refine X9 ?_ ?_)|refine⟨_,_,_,rfl,?_⟩|refine⟨_,rfl,?_⟩|((with_reducible refine And.intro ?_ ?_);·first|omega|trivial|(show _=_;rfl)|((with_reducible refine And.intro ?_ ?_)<;>first|omega|trivial|(show _=_;rfl)))|fail
   rename_i a' N3 hN3 hf N4 hN4
   rw [List.take_of_length_le (by omega)] at hr
   exact hQ _ _ (by omega) (Ty.is_mk.2 ⟨_,_,_,rfl,by have:=hr.len;omega,hr⟩) (zCN (zY (xP ((zBd ho hf (by omega)).mono (Nat.le_refl _) hN4))))
 ·intro i x xs hat _ ih2 N' hN'
  have hb:=hat.b
  have hxc:=wg hat.m
  refine ⟨fun h0=>tA _ _ _ _ _ _ _ _ _ _ _ _ _ _ _ _ ?_,fun m q r hm hr ho=>vB _ _ _ _ _ _ _ _ _ _ _ _ _ _ _ _ _ ?_⟩
  ·repeat' first|with_reducible intro _|simp only[hat.lt,hat.w,Int.toNat_natCast,Y1,Y2,Y3,Y4]|(with_reducible first|refine X1 ?_ ?_|refine X2 ?_ ?_|refine X3 ?_ ?_|refine X4 ?_ ?_|refine X5 ?_ ?_|refine X6 ?_ ?_|refine X7 ?_ ?_|refine X8 ?_ ?_|refine X9 ?_ ?_)|refine⟨_,_,_,rfl,?_⟩|refine⟨_,rfl,?_⟩|((with_reducible refine And.intro ?_ ?_);·first|omega|trivial|(show _=_;rfl)|((with_reducible refine And.intro ?_ ?_)<;>first|omega|trivial|(show _=_;rfl)))|refine (ih x hat.m _ hat.r (by omega)) _ _ ?_|fail
   rename_i N2 hN2 d' N3 hN3 hx hox hle hbel
   subst h0
   exact ⟨by unfold zL;simp,fun c2=>(ih2 _ (by omega)).2 _ _ _ rfl (by rw [yu hat.g];exact ⟨_,_,rfl,hx,rfl⟩) (xP (hox.mono (by omega) (Nat.le_refl _)))⟩
  ·repeat' first|with_reducible intro _|simp only[hat.lt,hat.w,Int.toNat_natCast,Y1,Y2,Y3,Y4]|(with_reducible first|refine X1 ?_ ?_|refine X2 ?_ ?_|refine X3 ?_ ?_|refine X4 ?_ ?_|refine X5 ?_ ?_|refine X6 ?_ ?_|refine X7 ?_ ?_|refine X8 ?_ ?_|refine X9 ?_ ?_)|refine⟨_,_,_,rfl,?_⟩|refine⟨_,rfl,?_⟩|((with_reducible refine And.intro ?_ ?_);·first|omega|trivial|(show _=_;rfl)|((with_reducible refine And.intro ?_ ?_)<;>first|omega|trivial|(show _=_;rfl)))|refine (ih x hat.m _ hat.r (by omega)) _ _ ?_|fail
   rename_i N2 hN2 d' N3 hN3 hx hox hle hbel
   have hrl:=hr.len
   have hli:(l.take i).length=i:=by rw [List.length_take];omega
   refine ⟨by unfold zL;simp only [List.length_append,List.length_singleton];omega,fun c2=>?_⟩
   exact (ih2 _ (by omega)).2 _ _ _ rfl (by rw [yu hat.g];exact hr.snoc hx) (yV (ho.mono (Nat.le_refl _) hN2) (xP hox) (by omega) hN3)
theorem vY {a:Option Addr} {z c:Nat} {es:List D}:∀ x∈(D.sl a z es c).foot,x∈zB es∨∃ ad,a=some ad∧x=ad.block:=by
 intro x hx
 cases a with
 | none=>simp only [D.foot] at hx;exact .inl hx
 | some ad=>
   simp only [D.foot] at hx
   split at hx
   ·simp at hx
   ·rcases List.mem_cons.1 hx with rfl | hx
    ·exact .inr ⟨ad,rfl,rfl⟩
    ·exact .inl hx
theorem zAS {bs:List (Option Addr)} {N N':Nat} {d:D} (hb:w8 N bs) (ho:Own N N' d):Off bs d:=fun a ha ad had hm=>by
 have:=hb a ha ad had
 have:=ho.lo _ hm
 omega
mutual
def Tm.sz:Tm→Nat
 | .mk _ _ _ _ _ _ l=>1+zH l
def zH:List Tm→Nat
 | []=>0
 | t::ts=>t.sz+zH ts
end
mutual
def Tm.dp:Tm→Nat
 | .mk _ _ _ _ _ _ l=>w5 l+1
def w5:List Tm→Nat
 | []=>0
 | t::ts=>max t.dp (w5 ts)
end
mutual
theorem Tm.sz_cnt:∀ t:Tm,t.sz≤t.cnt
 | .mk _ _ _ _ ty re l=>by simp only [Tm.sz,Tm.cnt];have:=zGd l;omega
theorem zGd:∀ l:List Tm,zH l≤zg l
 | []=>Nat.le_refl _
 | t::ts=>by simp only [zH,zg];have:=t.sz_cnt;have:=zGd ts;omega
end
mutual
theorem Tm.dp_cnt:∀ t:Tm,t.dp≤t.cnt
 | .mk _ _ _ _ ty re l=>by simp only [Tm.dp,Tm.cnt];have:=zGo l;omega
theorem zGo:∀ l:List Tm,w5 l≤zg l
 | []=>Nat.le_refl _
 | t::ts=>by simp only [w5,zg];have:=t.dp_cnt;have:=zGo ts;omega
end
/-- one form of a body's nodes -/
def zQm (k:Int):Bool:=inB k 1 5||k==8
mutual
def Tm.isB:Tm→Bool
 | .mk k _ _ _ _ _ l=>zRH l&&zQm k
def zRH:List Tm→Bool
 | []=>true
 | t::ts=>t.isB&&zRH ts
end
def Tm.vd (t:Tm):Bool:=decide (t.sz≤80)&&decide (t.dp≤20)&&t.ok
theorem yy (l:List ByteArray) (hl:l.length≤4611686018427387904) (a:Option Addr) (c:Nat) (s:ByteArray):qN 121 [.sv a 0 (zA l) c,.str s] (zBH (fun x=>decide (x=s)) l 0):=fun N Q hQ=>by
 have hes:=xI l
 have hlen:(zA l).length≤4611686018427387904:=by rw [hes.len];exact hl
 refine zDq N a _ c s Q fun _=>?_
 refine up hes hlen (fun i xs=>∀ (N':Nat),N≤N'→(∀ N'',N'≤N''→Q (zBH (fun x=>decide (x=s)) xs i) N'')→xl Q N a (zA l) c s i N') ?_ ?_ N (Nat.le_refl _) hQ
 ·intro i hlt _ N' hN' hQ'
  refine ta _ _ _ _ _ _ _ _ ?_
  repeat' first|with_reducible intro _|simp only[hlt,Y1,Y2,Y3,Y4]|(with_reducible first|refine X1 ?_ ?_|refine X2 ?_ ?_|refine X3 ?_ ?_|refine X4 ?_ ?_|refine X5 ?_ ?_|refine X6 ?_ ?_|refine X7 ?_ ?_|refine X8 ?_ ?_|refine X9 ?_ ?_)|refine⟨_,_,_,rfl,?_⟩|refine⟨_,rfl,?_⟩|((with_reducible refine And.intro ?_ ?_);·first|omega|trivial|(show _=_;rfl)|((with_reducible refine And.intro ?_ ?_)<;>first|omega|trivial|(show _=_;rfl)))|fail
  exact hQ' _ (by omega)
 ·intro i x xs hat _ ih2 N' hN' hQ'
  have hb:=hat.b
  have hr:=hat.r
  simp only [zBH] at hQ'
  refine ta _ _ _ _ _ _ _ _ ?_
  repeat' first|with_reducible intro _|simp only[hat.lt,hat.w,Int.toNat_natCast,hr,Y1,Y2,Y3,Y4]|(with_reducible first|refine X1 ?_ ?_|refine X2 ?_ ?_|refine X3 ?_ ?_|refine X4 ?_ ?_|refine X5 ?_ ?_|refine X6 ?_ ?_|refine X7 ?_ ?_|refine X8 ?_ ?_|refine X9 ?_ ?_)|refine⟨_,_,_,rfl,?_⟩|refine⟨_,rfl,?_⟩|((with_reducible refine And.intro ?_ ?_);·first|omega|trivial|(show _=_;rfl)|((with_reducible refine And.intro ?_ ?_)<;>first|omega|trivial|(show _=_;rfl)))|fail
  ·rename_i h _ _;subst h;exact Qi (hQ' _ (by omega)) (by simp)
  ·rename_i h;exact ih2 _ hN' fun N'' h2=>Qi (hQ' _ h2) (by rw [if_neg (by simpa using h)];simp)
theorem wd (l:List ByteArray) (s:ByteArray):zA l++[.lit (.string s)]=zA (l++[s]):=by simp [zA]
theorem zI (l:List ByteArray):(zA l).length=l.length:=by simp [zA]
end Go.Proofs.YtnpjpplbkoammaaGreatDoor
