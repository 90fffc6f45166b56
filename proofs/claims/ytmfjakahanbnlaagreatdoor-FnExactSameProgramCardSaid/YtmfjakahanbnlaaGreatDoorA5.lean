/- Parameters: what they are; the laws' sizes, copies, equality and marks on them. -/
import Derived.Test.YtmfjakahanbnlaaGreatDoorA4
import Derived.Test.YtmfjakahanbnlaaGreatDoorA3
import Derived.Test.YtmfjakahanbnlaaGreatDoorKi
set_option linter.unusedVariables false
set_option linter.unusedSimpArgs false
namespace Go.Proofs.YtmfjakahanbnlaaGreatDoor
open Go Go.Proofs Go.Proofs.Tryz Go.IntWalk
structure Pm where
 nm:ByteArray
 ty:Ty
 dy:Bool
def Pm.Is (g:Pm) (d:D):Prop:=∃ t0 t1,d=.ag [.lit (.string g.nm),t0,t1,.lit (.bool g.dy)]∧g.nm.size≤4611686018427387904∧g.ty.Is (.ag [t0,t1])
theorem xM (n a b:Int):vb 65 [.int .i64 n,.int .i64 a,.int .i64 b] (inB n a b):=fun N Q hQ=>by
 refine zAw N n a b Q ?_
 repeat' first|with_reducible intro _|simp only[Y1,Y2,Y3,Y4]|with_reducible refine X ?_ ?_|refine⟨_,_,_,rfl,?_⟩|refine⟨_,rfl,?_⟩|refine And.intro (by first|omega|trivial|(show _=_;rfl)|(with_reducible constructor)<;>first|omega|trivial|rfl) ?_|fail
 all_goals simpa [inB, *] using hQ _ (by omega)
def rm {α:Type} (p:α→Bool):List α→Int→Int
 | [],_ => -1
 | x::xs,i=>if p x then i else rm p xs (i+1)
theorem tK {α:Type} (p:α→Bool):∀ (l:List α) (i:Int),0≤i→decide (rm p l i≥0)=l.any p
 | [],i,h=>by simp [rm]
 | x::xs,i,h=>by
   have ih:=tK p xs (i+1) (by omega)
   rw [Bool.eq_iff_iff,decide_eq_true_iff] at ih ⊢
   simp only [rm,List.any_cons,Bool.or_eq_true]
   by_cases hp:p x=true
   ·simp only [hp,if_true,true_or,iff_true];exact h
   ·simpa [hp] using ih
/-- a row of words -/
def zA (l:List ByteArray):List D:=l.map fun s=>.lit (.string s)
theorem yQ:∀ l:List ByteArray,All2 (fun s d=>d=.lit (.string s)) l (zA l)
 | []=>rfl
 | s::l=>⟨_,_,rfl,rfl,yQ l⟩
theorem zCy (l:List ByteArray) (hl:l.length≤4611686018427387904) (a:Option Addr) (c:Nat) (s:ByteArray):zDY 241 [.sv a 0 (zA l) c,.str s] (rm (fun x=>decide (s=x)) l 0):=fun N Q hQ=>by
 have hes:=yQ l
 have hlen:(zA l).length≤4611686018427387904:=by rw [hes.len];exact hl
 refine u6 N a _ c s Q fun _=>?_
 refine up hes hlen (fun i xs=>∀ (N':Nat),N≤N'→(∀ N'',N'≤N''→Q (rm (fun x=>decide (s=x)) xs i) N'')→zq Q N a (zA l) c s ((zA l).length:Int) i N') ?_ ?_ N (Nat.le_refl _) hQ
 ·intro i hlt _ N' hN' hQ'
  refine xd _ _ _ _ _ _ _ _ _ ?_
  repeat' first|with_reducible intro _|simp only[hlt,Y1,Y2,Y3,Y4]|with_reducible refine X ?_ ?_|refine⟨_,_,_,rfl,?_⟩|refine⟨_,rfl,?_⟩|refine And.intro (by first|omega|trivial|(show _=_;rfl)|(with_reducible constructor)<;>first|omega|trivial|rfl) ?_|fail
  exact hQ' _ (by omega)
 ·intro i x xs hat _ ih2 N' hN' hQ'
  have hb:=hat.b
  have hr:=hat.r
  simp only [rm] at hQ'
  refine xd _ _ _ _ _ _ _ _ _ ?_
  repeat' first|with_reducible intro _|simp only[hat.lt,hat.w,Int.toNat_natCast,hr,Y1,Y2,Y3,Y4]|with_reducible refine X ?_ ?_|refine⟨_,_,_,rfl,?_⟩|refine⟨_,rfl,?_⟩|refine And.intro (by first|omega|trivial|(show _=_;rfl)|(with_reducible constructor)<;>first|omega|trivial|rfl) ?_|fail
  ·rename_i h _ _;subst h;exact Qi (hQ' _ (by omega)) (by simp)
  ·rename_i h;exact ih2 _ hN' fun N'' h2=>Qi (hQ' _ h2) (by rw [if_neg (by simpa using h)];simp)
theorem xW (l:List ByteArray) (hl:l.length≤4611686018427387904) (a:Option Addr) (c:Nat) (s:ByteArray):vb 184 [.sv a 0 (zA l) c,.str s] (l.any fun x=>decide (s=x)):=fun N Q hQ=>by
 refine ve N a _ c s Q fun _=>?_
 repeat' first|with_reducible intro _|simp only[Y1,Y2,Y3,Y4]|with_reducible refine X ?_ ?_|refine⟨_,_,_,rfl,?_⟩|refine⟨_,rfl,?_⟩|refine And.intro (by first|omega|trivial|(show _=_;rfl)|(with_reducible constructor)<;>first|omega|trivial|rfl) ?_|refine (zCy l hl a c s) _ _ ?_|fail
 exact Qb (hQ _ (by omega)) (tK _ l 0 (by omega)).symm
theorem sJ (s:ByteArray) (hs:s.size≤4611686018427387904):vb 237 [.str s] (uv s):=fun N Q hQ=>by
 refine zAf N s Q ?_
 have key:=upN hs (fun i=>∀ N',N≤N'→(∀ N'',N'≤N''→Q (wY s i&&zAS s) N'')→z7 Q N s (s.size:Int) i N') ?_ ?_
 ·exact key N (Nat.le_refl _) hQ
 ·intro hlt N' hN' hQ'
  have hc:=xW [bytes [105,102],bytes [108,101,116],bytes [108,105,102,116],bytes [114,101,99],bytes [114,117,110]] (by simp)
  simp only [zA,List.map] at hc
  refine vt _ _ _ _ _ _ ?_
  repeat' first|with_reducible intro _|simp only[hlt,Y1,Y2,Y3,Y4]|with_reducible refine X ?_ ?_|refine⟨_,_,_,rfl,?_⟩|refine⟨_,rfl,?_⟩|refine And.intro (by first|omega|trivial|(show _=_;rfl)|(with_reducible constructor)<;>first|omega|trivial|rfl) ?_|refine (xM _ _ _) _ _ ?_|refine (hc _ _ _) _ _ ?_|fail
  all_goals (refine Qb (hQ' _ (by omega)) ?_;rw [rA])
  ·simp only [zAS,List.any_cons,List.any_nil,Bool.or_false, *]
   cases decide (s=bytes [105,102])<;>cases decide (s=bytes [108,101,116])<;>cases decide (s=bytes [108,105,102,116])<;>cases decide (s=bytes [114,101,99])<;>cases decide (s=bytes [114,117,110])<;>rfl
  ·simp [zAS, *]
 ·intro i hi hlt hw ih2 N' hN' hQ'
  refine vt _ _ _ _ _ _ ?_
  rw [sE hi] at hQ'
  repeat' first|with_reducible intro _|simp only[hlt,hw,Int.toNat_natCast,Y1,Y2,Y3,Y4]|with_reducible refine X ?_ ?_|refine⟨_,_,_,rfl,?_⟩|refine⟨_,rfl,?_⟩|refine And.intro (by first|omega|trivial|(show _=_;rfl)|(with_reducible constructor)<;>first|omega|trivial|rfl) ?_|fail
  all_goals first
   | (refine Qb (hQ' _ (by omega)) ?_;unfold zAR rF;simp only [*];simp;done)
   | (refine ih2 _ (by omega) fun N'' h=>Qb (hQ' N'' (by omega)) ?_;unfold zAR rF;simp only [*];simp;done)
theorem s3:∀ (t:Ty) (d:D),t.Is d→t.cnt≤1073741824→zDY 275 [.dg 2 d] t.cnt:=by
 refine Ty.ind fun k l ih d hd hc N Q hQ=>?_
 obtain ⟨a,es,c,rfl,hlen,hes⟩:=Ty.is_mk.1 hd
 simp only [Ty.cnt] at hc
 refine sL N _ Q fun _=>⟨_,_,_,rfl,?_⟩
 refine up hes hlen (fun i xs=>∀ (m:Nat) (N':Nat),N≤N'→m+yd xs=1+yd l→yC Q N m a es c es.length i N') ?_ ?_ 1 N (Nat.le_refl _) rfl
 ·intro i hlt _ m N' hN' hm
  refine xy _ _ _ _ _ _ _ _ _ ?_
  simp only [yd] at hm
  repeat' first|with_reducible intro _|simp only[hlt,Y1,Y2,Y3,Y4]|with_reducible refine X ?_ ?_|refine⟨_,_,_,rfl,?_⟩|refine⟨_,rfl,?_⟩|refine And.intro (by first|omega|trivial|(show _=_;rfl)|(with_reducible constructor)<;>first|omega|trivial|rfl) ?_|fail
  exact Qi (hQ _ (by omega)) (by simp only [Ty.cnt];omega)
 ·intro i x xs hat _ ih2 m N' hN' hm
  have hb:=hat.b
  have hxc:=xV hat.m
  simp only [yd] at hm
  refine xy _ _ _ _ _ _ _ _ _ ?_
  repeat' first|with_reducible intro _|simp only[hat.lt,hat.w,Int.toNat_natCast,Y1,Y2,Y3,Y4]|with_reducible refine X ?_ ?_|refine⟨_,_,_,rfl,?_⟩|refine⟨_,rfl,?_⟩|refine And.intro (by first|omega|trivial|(show _=_;rfl)|(with_reducible constructor)<;>first|omega|trivial|rfl) ?_|refine (ih x hat.m _ hat.r (by omega)) _ _ ?_|fail
  rw [i64_in _ (by omega)]
  exact ih2 (m+x.cnt) _ (by omega) (by omega)
theorem tz:∀ (t:Ty) (d:D),t.Is d→t.cnt≤1073741824→zDY 276 [.dg 2 d] t.dep:=by
 refine Ty.ind fun k l ih d hd hc N Q hQ=>?_
 obtain ⟨a,es,c,rfl,hlen,hes⟩:=Ty.is_mk.1 hd
 simp only [Ty.cnt] at hc
 have hdl:=uP l
 refine tU N _ Q fun _=>⟨_,_,_,rfl,?_⟩
 refine up hes hlen (fun i xs=>∀ (m:Nat) (N':Nat),N≤N'→max m (vM xs)=vM l→zt Q N m a es c es.length i N') ?_ ?_ 0 N (Nat.le_refl _) (by omega)
 ·intro i hlt _ m N' hN' hm
  refine xk _ _ _ _ _ _ _ _ _ ?_
  simp only [vM] at hm
  repeat' first|with_reducible intro _|simp only[hlt,Y1,Y2,Y3,Y4]|with_reducible refine X ?_ ?_|refine⟨_,_,_,rfl,?_⟩|refine⟨_,rfl,?_⟩|refine And.intro (by first|omega|trivial|(show _=_;rfl)|(with_reducible constructor)<;>first|omega|trivial|rfl) ?_|fail
  rw [i64_in _ (by omega)]
  exact Qi (hQ _ (by omega)) (by simp only [Ty.dep];omega)
 ·intro i x xs hat _ ih2 m N' hN' hm
  have hb:=hat.b
  have hxc:=xV hat.m
  simp only [vM] at hm
  refine xk _ _ _ _ _ _ _ _ _ ?_
  repeat' first|with_reducible intro _|simp only[hat.lt,hat.w,Int.toNat_natCast,Y1,Y2,Y3,Y4]|with_reducible refine X ?_ ?_|refine⟨_,_,_,rfl,?_⟩|refine⟨_,rfl,?_⟩|refine And.intro (by first|omega|trivial|(show _=_;rfl)|(with_reducible constructor)<;>first|omega|trivial|rfl) ?_|refine (ih x hat.m _ hat.r (by omega)) _ _ ?_|fail
  have e:(if (x.dep:Int)>(m:Int) then (x.dep:Int) else (m:Int))=((max m x.dep:Nat):Int):=by split<;>omega
  rw [e]
  exact ih2 _ _ (by omega) (by omega)
theorem ry (t:Ty) (d:D) (hd:t.Is d):vb 277 [.dg 2 d] (zCa t.k t.as.length):=fun N Q hQ=>by
 cases t with
 | mk k l=>
 obtain ⟨a,es,c,rfl,hlen,hes⟩:=Ty.is_mk.1 hd
 have hl:=hes.len
 simp only [Ty.k,Ty.as] at hQ
 refine ub N _ Q fun _=>?_
 cases hin:inB k 1 4 with
 | false=>
   repeat' first|with_reducible intro _|simp only[hin,Y1,Y2,Y3,Y4]|with_reducible refine X ?_ ?_|refine⟨_,_,_,rfl,?_⟩|refine⟨_,rfl,?_⟩|refine And.intro (by first|omega|trivial|(show _=_;rfl)|(with_reducible constructor)<;>first|omega|trivial|rfl) ?_|refine (xM _ _ _) _ _ ?_|fail
   refine Qb (hQ _ (by omega)) ?_
   have:¬(1≤k∧k≤4):=fun h=>by rw [qf.2 h] at hin;cases hin
   unfold zCa
   rw [if_neg (by omega),if_neg (by omega),if_neg (by omega)]
 | true=>
   have hb:=qf.1 hin
   have w0:IntKind.i64.wrap 0=0:=rfl
   have w1:IntKind.i64.wrap 1=1:=rfl
   have w2:IntKind.i64.wrap 2=2:=rfl
   have w3:IntKind.i64.wrap 3=3:=rfl
   have hk:k=1∨k=2∨k=3∨k=4:=by omega
   rcases hk with rfl | rfl | rfl | rfl
   all_goals
    repeat' first|with_reducible intro _|simp only[hin,w0,w1,w2,w3,Y1,Y2,Y3,Y4]|with_reducible refine X ?_ ?_|refine⟨_,_,_,rfl,?_⟩|refine⟨_,rfl,?_⟩|refine And.intro (by first|omega|trivial|(show _=_;rfl)|(with_reducible constructor)<;>first|omega|trivial|rfl) ?_|refine (xM _ _ _) _ _ ?_|fail
    refine Qb (hQ _ (by omega)) ?_
    simp [zCa,hl]
theorem qn:∀ l:List Ty,v8 l=!(l.any fun x=>!x.form)
 | []=>rfl
 | t::ts=>by simp only [v8,List.any_cons,qn ts];cases t.form<;>simp
theorem qj {p:Ty→Bool} {l:List Ty} {es:List D} (h:All2 Ty.Is l es) (hlen:es.length≤4611686018427387904) (ad:Addr) (hp:∀ x∈l,∀ d,x.Is d→vb 281 [.dg 2 d,.pd ad 0 (.fn 277 [])] (p x)) (a:Option Addr) (c:Nat) :
  vb 280 [.sv a 2 es c,.fn 281 [.pd ad 0 (.fn 277 [])]] (l.any p):=fun N Q hQ=>by
 have hi:zDY 296 [.sv a 2 es c,.fn 281 [.pd ad 0 (.fn 277 [])]] (rm p l 0):=fun N Q hQ=>by
  refine wQ N a es c ad Q fun _=>?_
  refine up h hlen (fun i xs=>∀ (N':Nat),N≤N'→(∀ N'',N'≤N''→Q (rm p xs i) N'')→zY Q N a es c ad es.length i N') ?_ ?_ N (Nat.le_refl _) hQ
  ·intro i hlt _ N' hN' hQ'
   refine ye _ _ _ _ _ _ _ _ _ ?_
   repeat' first|with_reducible intro _|simp only[hlt,Y1,Y2,Y3,Y4]|with_reducible refine X ?_ ?_|refine⟨_,_,_,rfl,?_⟩|refine⟨_,rfl,?_⟩|refine And.intro (by first|omega|trivial|(show _=_;rfl)|(with_reducible constructor)<;>first|omega|trivial|rfl) ?_|fail
   exact hQ' _ (by omega)
  ·intro i x xs hat _ ih2 N' hN' hQ'
   have hb:=hat.b
   simp only [rm] at hQ'
   refine ye _ _ _ _ _ _ _ _ _ ?_
   repeat' first|with_reducible intro _|simp only[hat.lt,hat.w,Int.toNat_natCast,Y1,Y2,Y3,Y4]|with_reducible refine X ?_ ?_|refine⟨_,_,_,rfl,?_⟩|refine⟨_,rfl,?_⟩|refine And.intro (by first|omega|trivial|(show _=_;rfl)|(with_reducible constructor)<;>first|omega|trivial|rfl) ?_|refine (hp x hat.m _ hat.r) _ _ ?_|fail
   ·exact Qi (hQ' _ (by omega)) (by rw [if_pos (by assumption)])
   ·rename_i h;exact ih2 _ (by omega) fun N'' h2=>Qi (hQ' _ (by omega)) (by rw [h];simp)
 refine xi N a es c ad Q fun _=>?_
 repeat' first|with_reducible intro _|simp only[Y1,Y2,Y3,Y4]|with_reducible refine X ?_ ?_|refine⟨_,_,_,rfl,?_⟩|refine⟨_,rfl,?_⟩|refine And.intro (by first|omega|trivial|(show _=_;rfl)|(with_reducible constructor)<;>first|omega|trivial|rfl) ?_|refine hi _ _ ?_|fail
 exact Qb (hQ _ (by omega)) (tK _ l 0 (by omega)).symm
theorem zEV:∀ (t:Ty) (d:D),t.Is d→vb 251 [.dg 2 d,.fn 277 []] t.form:=by
 refine Ty.ind fun k l ih d hd N Q hQ=>?_
 have hd':=hd
 obtain ⟨a,es,c,rfl,hlen,hes⟩:=Ty.is_mk.1 hd
 refine ta N _ Q fun _=>?_
 simp only [Ty.form,qn] at hQ
 repeat' first|with_reducible intro _|simp only[Y1,Y2,Y3,Y4]|with_reducible refine X ?_ ?_|refine⟨_,_,_,rfl,?_⟩|refine⟨_,rfl,?_⟩|refine And.intro (by first|omega|trivial|(show _=_;rfl)|(with_reducible constructor)<;>first|omega|trivial|rfl) ?_|refine (ry _ _ hd') _ _ ?_|refine (qj hes hlen _ (fun x hx d hd=>fun N Q hQ=>uX N d _ Q fun _ N1 hN1=>ih x hx d hd N1 _ fun N2 hN2 hle N3 hN3=>hQ N3 (by omega)) _ _) _ _ ?_|fail
 ·have h:zCa (Ty.mk k l).k (Ty.mk k l).as.length=true:=by assumption
  exact Qb (hQ _ (by omega)) (by simp only [Ty.k,Ty.as] at h;rw [h,Bool.and_true])
 ·rename_i h _ _
  exact Qb (hQ _ (by omega)) (by simp only [Ty.k,Ty.as] at h;rw [h,Bool.and_false])
theorem wd (t:Ty) (d:D) (hd:t.Is d) (hc:t.cnt≤1073741824):vb 239 [.dg 2 d] t.valid:=fun N Q hQ=>by
 refine tG N _ Q fun _=>?_
 repeat' first|with_reducible intro _|simp only[Y1,Y2,Y3,Y4]|with_reducible refine X ?_ ?_|refine⟨_,_,_,rfl,?_⟩|refine⟨_,rfl,?_⟩|refine And.intro (by first|omega|trivial|(show _=_;rfl)|(with_reducible constructor)<;>first|omega|trivial|rfl) ?_|refine (s3 t d hd hc) _ _ ?_|refine (tz t d hd hc) _ _ ?_|refine (zEV t d hd) _ _ ?_|fail
 ·refine Qb (hQ _ (by omega)) ?_
  have h1:t.cnt≤30:=by omega
  have h2:t.dep≤8:=by omega
  simp [Ty.valid, *]
 ·refine Qb (hQ _ (by omega)) ?_
  have h2:¬t.dep≤8:=by omega
  simp [Ty.valid, *]
 ·refine Qb (hQ _ (by omega)) ?_
  have h1:¬t.cnt≤30:=by omega
  simp [Ty.valid, *]
theorem zl:∀ (t u:Ty) (d e:D),t.Is d→u.Is e→vb 113 [.dg 2 d,.dg 2 e] (zBa t u):=by
 refine Ty.ind fun k l ih u d e hd he N Q hQ=>?_
 cases u with
 | mk k' l'=>
 obtain ⟨a,es,c,rfl,hlen,hes⟩:=Ty.is_mk.1 hd
 obtain ⟨a',es',c',rfl,hlen',hes'⟩:=Ty.is_mk.1 he
 have hl:=hes.len
 have hl':=hes'.len
 simp only [zBa] at hQ
 have hf:vb 180 [.sv a 2 es c,.sv a' 2 es' c',.fn 113 []] (xh l l'):=fun N Q hQ=>by
  have key:l.length=l'.length→∀ (N':Nat),N≤N'→(∀ N'',N'≤N''→Q (xh l (l'.drop 0)) N'')→zM Q N a' es' c' a es c es.length (0:Nat) N':=by
   intro hll
   refine up hes hlen (fun i xs=>∀ (N':Nat),N≤N'→(∀ N'',N'≤N''→Q (xh xs (l'.drop i)) N'')→zM Q N a' es' c' a es c es.length i N') ?_ ?_
   ·intro i hlt hi N' hN' hQ'
    refine yX _ _ _ _ _ _ _ _ _ _ _ ?_
    repeat' first|with_reducible intro _|simp only[hlt,Y1,Y2,Y3,Y4]|with_reducible refine X ?_ ?_|refine⟨_,_,_,rfl,?_⟩|refine⟨_,rfl,?_⟩|refine And.intro (by first|omega|trivial|(show _=_;rfl)|(with_reducible constructor)<;>first|omega|trivial|rfl) ?_|fail
    refine Qb (hQ' _ (by assumption)) ?_
    rw [List.drop_eq_nil_of_le (by omega)]
    rfl
   ·intro i x xs hat _ ih2 N' hN' hQ'
    have hb:=hat.b
    have hi':i<l'.length:=by omega
    have hg:l'[i]?=some l'[i]:=List.getElem?_eq_getElem hi'
    have hd':l'.drop i=l'[i]::l'.drop (i+1):=List.drop_eq_getElem_cons hi'
    refine yX _ _ _ _ _ _ _ _ _ _ _ ?_
    rw [hd'] at hQ'
    repeat' first|with_reducible intro _|simp only[hat.lt,hat.w,Int.toNat_natCast,Y1,Y2,Y3,Y4]|with_reducible refine X ?_ ?_|refine⟨_,_,_,rfl,?_⟩|refine⟨_,rfl,?_⟩|refine And.intro (by first|omega|trivial|(show _=_;rfl)|(with_reducible constructor)<;>first|omega|trivial|rfl) ?_|refine (ih x hat.m _ _ _ hat.r (hes'.get hg)) _ _ ?_|fail
    ·exact Qb (hQ' _ (by omega)) (by simp [xh, *])
    ·exact ih2 _ (by omega) fun N'' h=>Qb (hQ' N'' (by omega)) (by simp [xh, *])
  refine wM N _ _ _ _ _ _ Q fun _ _=>?_
  repeat' first|with_reducible intro _|simp only[Y1,Y2,Y3,Y4]|with_reducible refine X ?_ ?_|refine⟨_,_,_,rfl,?_⟩|refine⟨_,rfl,?_⟩|refine And.intro (by first|omega|trivial|(show _=_;rfl)|(with_reducible constructor)<;>first|omega|trivial|rfl) ?_|fail
  ·exact Qb (hQ _ (by assumption)) (tF (by omega))
  ·exact key (by omega) N (Nat.le_refl _) hQ
 refine rj N _ _ Q fun _ _=>?_
 repeat' first|with_reducible intro _|simp only[Y1,Y2,Y3,Y4]|with_reducible refine X ?_ ?_|refine⟨_,_,_,rfl,?_⟩|refine⟨_,rfl,?_⟩|refine And.intro (by first|omega|trivial|(show _=_;rfl)|(with_reducible constructor)<;>first|omega|trivial|rfl) ?_|refine hf _ _ ?_|fail
 ·exact Qb (hQ _ (by omega)) (by simp [*])
 ·exact Qb (hQ _ (by omega)) (by simp [*])
theorem uf (s:ByteArray):zDY 236 [.str s] (zHl s):=fun N Q hQ=>by
 refine pY N s Q ?_
 repeat' first|with_reducible intro _|simp only[Y1,Y2,Y3,Y4]|with_reducible refine X ?_ ?_|refine⟨_,_,_,rfl,?_⟩|refine⟨_,rfl,?_⟩|refine And.intro (by first|omega|trivial|(show _=_;rfl)|(with_reducible constructor)<;>first|omega|trivial|rfl) ?_|fail
 all_goals (refine Qi (hQ _ (by assumption)) ?_;unfold zHl;(repeat' split)<;>first | rfl | contradiction)
def arI (k:Int) (nm:ByteArray):Int:=
 if k=4 then zHl nm else if k=5 then 3 else if k=7∨k=8 then 2 else if k=6∨k=9∨k=10∨k=11∨k=12∨k=13 then 1 else 0
theorem zCd {k n:Int} {nm ot:ByteArray} {t0 t1 r0 r1 x:D}:zDY 178 [.dg 9 (.ag [.lit (.int .i64 k),.lit (.string nm),.lit (.string ot),.lit (.int .i64 n),t0,t1,r0,r1,x])] (arI k nm):=fun N Q hQ=>by
 refine zCT N _ Q fun _=>?_
 repeat' first|with_reducible intro _|simp only[Y1,Y2,Y3,Y4]|with_reducible refine X ?_ ?_|refine⟨_,_,_,rfl,?_⟩|refine⟨_,rfl,?_⟩|refine And.intro (by first|omega|trivial|(show _=_;rfl)|(with_reducible constructor)<;>first|omega|trivial|rfl) ?_|refine (uf _) _ _ ?_|fail
 all_goals (refine Qi (hQ _ (by omega)) ?_;simp [arI, *])
theorem pC (n:Int):vb 238 [.int .i64 n] (inB n 0 10006):=fun N Q hQ=>by
 refine qV N n Q ?_
 repeat' first|with_reducible intro _|simp only[Y1,Y2,Y3,Y4]|with_reducible refine X ?_ ?_|refine⟨_,_,_,rfl,?_⟩|refine⟨_,rfl,?_⟩|refine And.intro (by first|omega|trivial|(show _=_;rfl)|(with_reducible constructor)<;>first|omega|trivial|rfl) ?_|refine (xM _ _ _) _ _ ?_|fail
 exact hQ _ (by omega)
def p7 (k:Int) (nm ot:ByteArray) (n:Int) (ty re:Ty):Bool:=
 if k=1∨k=8 then uv nm else if k=2 then inB n 0 10006 else if k=3 then inB n 0 1 else if k=4 then decide (zHl nm>0)
 else if k=6 then uv nm&&ty.valid else if k=9 then uv nm&&(uv ot&&(!decide (nm=ot)&&(ty.valid&&re.valid))) else inB k 1 13
theorem pU {k n:Int} {nm ot:ByteArray} {ty re:Ty} {t0 t1 r0 r1 x:D} (h:Tm.Hd nm ot ty re t0 t1 r0 r1) (hc:ty.cnt≤1073741824) (hc2:re.cnt≤1073741824) :
  vb 179 [.dg 9 (.ag [.lit (.int .i64 k),.lit (.string nm),.lit (.string ot),.lit (.int .i64 n),t0,t1,r0,r1,x])] (p7 k nm ot n ty re):=fun N Q hQ=>by
 refine pV N _ Q fun _=>?_
 repeat' first|with_reducible intro _|simp only[Y1,Y2,Y3,Y4]|with_reducible refine X ?_ ?_|refine⟨_,_,_,rfl,?_⟩|refine⟨_,rfl,?_⟩|refine And.intro (by first|omega|trivial|(show _=_;rfl)|(with_reducible constructor)<;>first|omega|trivial|rfl) ?_|refine (uf _) _ _ ?_|refine (sJ _ h.nm) _ _ ?_|refine (sJ _ h.ot) _ _ ?_|refine (pC _) _ _ ?_|refine (xM _ _ _) _ _ ?_|refine (wd _ _ h.ty hc) _ _ ?_|refine (wd _ _ h.re hc2) _ _ ?_|fail
 all_goals (refine Qb (hQ _ (by omega)) ?_;simp [p7, *])
theorem zCY (t:Ty):zBa t t=true:=(rl t t).2 rfl
def zEd (k:Int) (nm ot:ByteArray) (n:Int) (ty re:Ty) (m:Int):Bool:=
 decide (m=arI k nm)&&(p7 k nm ot n ty re&&((decide (k=1∨k=8∨k=4∨k=6∨k=9)||decide (nm=bytes []))&&((decide (k=9)||decide (ot=bytes []))&&((decide (k=2∨k=3)||decide (n=0)) &&
  ((decide (k=6∨k=9)||zBa ty tZero)&&(decide (k=9)||zBa re tZero))))))
theorem pc {k n:Int} {nm ot:ByteArray} {ty re:Ty} {t0 t1 r0 r1:D} {a:Option Addr} {es:List D} {c:Nat} (h:Tm.Hd nm ot ty re t0 t1 r0 r1) (hc:ty.cnt≤1073741824) (hc2:re.cnt≤1073741824) :
  vb 112 [.dg 9 (.ag [.lit (.int .i64 k),.lit (.string nm),.lit (.string ot),.lit (.int .i64 n),t0,t1,r0,r1,.sl a 9 es c])] (zEd k nm ot n ty re es.length):=fun N Q hQ=>by
 refine zBU N _ Q fun _=>?_
 repeat' first|with_reducible intro _|simp only[Y1,Y2,Y3,Y4]|with_reducible refine X ?_ ?_|refine⟨_,_,_,rfl,?_⟩|refine⟨_,rfl,?_⟩|refine And.intro (by first|omega|trivial|(show _=_;rfl)|(with_reducible constructor)<;>first|omega|trivial|rfl) ?_|refine zCd _ _ ?_|refine (pU h hc hc2) _ _ ?_|refine (zl ty tZero _ _ h.ty zFu) _ _ ?_|refine (zl re tZero _ _ h.re zFu) _ _ ?_|refine (zl ty ty _ _ h.ty h.ty) _ _ ?_|refine (zl re re _ _ h.re h.re) _ _ ?_|fail
 all_goals first | (exfalso;omega) | (refine Qb (hQ _ (by omega)) ?_;simp [zEd,zCY, *];done) | (refine Qb (hQ _ (by omega)) ?_;simp_all [zEd,zCY];done)
theorem zH8 (t:Ty):zBa t tZero=t.zero:=by
 cases t with
 | mk k l => cases l<;>simp [zBa,tZero,xh,Ty.zero,Ty.k,Ty.as]
             try omega
theorem zEj {t:Ty} (h:t.zero=true):t.valid=false:=by
 cases t with
 | mk k l=>
   simp only [Ty.zero,Ty.k,Ty.as,Bool.and_eq_true,beq_iff_eq] at h
   simp [Ty.valid,Ty.form,zCa,h.1]
theorem zKS (n:Int):inB n 0 0=decide (n=0):=by
 rw [Bool.eq_iff_iff,qf,decide_eq_true_iff];omega
theorem zp (t:Ty) (b:Bool):(!t.valid&&(t.zero&&b))=(t.zero&&b):=by
 cases h:t.zero with
 | false=>simp
 | true=>rw [zEj h];simp
theorem zHG (k:Int) (nm ot:ByteArray) (n:Int) (ty re:Ty) (m:Int) (hm:0≤m):zEd k nm ot n ty re m=(y6 k nm ot n ty re&&m==zDt k nm):=by
 by_cases hk:k=1∨k=2∨k=3∨k=4∨k=5∨k=6∨k=7∨k=8∨k=9∨k=10∨k=11∨k=12∨k=13
 ·rw [zJz m]
  have b5:inB 5 1 13=true:=rfl
  have b7:inB 7 1 13=true:=rfl
  have b10:inB 10 1 13=true:=rfl
  have b11:inB 11 1 13=true:=rfl
  have b12:inB 12 1 13=true:=rfl
  have b13:inB 13 1 13=true:=rfl
  rcases hk with rfl | rfl | rfl | rfl | rfl | rfl | rfl | rfl | rfl | rfl | rfl | rfl | rfl
  all_goals
   simp [zEd,arI,p7,y6,px,zBM,zDt,zH8,zKS,zp,b5,b7,b10,b11,b12,b13]
   try (rw [Bool.eq_iff_iff];simp [and_comm,and_left_comm,and_assoc])
 ·have h1:zDt k nm = -1:=by
   unfold zDt;rw [if_neg (by omega),if_neg (by omega),if_neg (by omega),if_neg (by omega),if_neg (by omega)]
  have h2:inB k 1 13=false:=by
   cases h:inB k 1 13 with
   | false=>rfl
   | true=>have:=qf.1 h;omega
  have h3:p7 k nm ot n ty re=false:=by
   unfold p7;rw [if_neg (by omega),if_neg (by omega),if_neg (by omega),if_neg (by omega),if_neg (by omega),if_neg (by omega),h2]
  have h4:(m==zDt k nm)=false:=by rw [h1,zJz];exact decide_eq_false (by omega)
  rw [h4,zEd,h3]
  simp
theorem zG6 {k n:Int} {nm ot:ByteArray} {ty re:Ty} {t0 t1 r0 r1:D} {a:Option Addr} {es:List D} {c:Nat} (h:Tm.Hd nm ot ty re t0 t1 r0 r1) (hc:ty.cnt≤1073741824) (hc2:re.cnt≤1073741824) :
  vb 112 [.dg 9 (.ag [.lit (.int .i64 k),.lit (.string nm),.lit (.string ot),.lit (.int .i64 n),t0,t1,r0,r1,.sl a 9 es c])] (y6 k nm ot n ty re&&(es.length:Int)==zDt k nm):=by
 rw [←zHG _ _ _ _ _ _ _ (by omega)]
 exact pc h hc hc2
theorem zCH:∀ l:List Tm,pA l=!(l.any fun x=>!x.ok)
 | []=>rfl
 | t::ts=>by simp only [pA,List.any_cons,zCH ts];cases t.ok<;>simp
theorem qZ {p:Tm→Bool} {l:List Tm} {es:List D} (h:All2 Tm.Is l es) (hlen:es.length≤4611686018427387904) (ad:Addr) (hp:∀ x∈l,∀ d,x.Is d→vb 177 [.dg 9 d,.pd ad 0 (.fn 112 [])] (p x)) (a:Option Addr) (c:Nat) :
  vb 176 [.sv a 9 es c,.fn 177 [.pd ad 0 (.fn 112 [])]] (l.any p):=fun N Q hQ=>by
 have hi:zDY 235 [.sv a 9 es c,.fn 177 [.pd ad 0 (.fn 112 [])]] (rm p l 0):=fun N Q hQ=>by
  refine wL N a es c ad Q fun _=>?_
  refine up h hlen (fun i xs=>∀ (N':Nat),N≤N'→(∀ N'',N'≤N''→Q (rm p xs i) N'')→ze Q N a es c ad es.length i N') ?_ ?_ N (Nat.le_refl _) hQ
  ·intro i hlt _ N' hN' hQ'
   refine yf _ _ _ _ _ _ _ _ _ ?_
   repeat' first|with_reducible intro _|simp only[hlt,Y1,Y2,Y3,Y4]|with_reducible refine X ?_ ?_|refine⟨_,_,_,rfl,?_⟩|refine⟨_,rfl,?_⟩|refine And.intro (by first|omega|trivial|(show _=_;rfl)|(with_reducible constructor)<;>first|omega|trivial|rfl) ?_|fail
   exact hQ' _ (by omega)
  ·intro i x xs hat _ ih2 N' hN' hQ'
   have hb:=hat.b
   simp only [rm] at hQ'
   refine yf _ _ _ _ _ _ _ _ _ ?_
   repeat' first|with_reducible intro _|simp only[hat.lt,hat.w,Int.toNat_natCast,Y1,Y2,Y3,Y4]|with_reducible refine X ?_ ?_|refine⟨_,_,_,rfl,?_⟩|refine⟨_,rfl,?_⟩|refine And.intro (by first|omega|trivial|(show _=_;rfl)|(with_reducible constructor)<;>first|omega|trivial|rfl) ?_|refine (hp x hat.m _ hat.r) _ _ ?_|fail
   ·exact Qi (hQ' _ (by omega)) (by rw [if_pos (by assumption)])
   ·rename_i h;exact ih2 _ (by omega) fun N'' h2=>Qi (hQ' _ (by omega)) (by rw [h];simp)
 refine xg N a es c ad Q fun _=>?_
 repeat' first|with_reducible intro _|simp only[Y1,Y2,Y3,Y4]|with_reducible refine X ?_ ?_|refine⟨_,_,_,rfl,?_⟩|refine⟨_,rfl,?_⟩|refine And.intro (by first|omega|trivial|(show _=_;rfl)|(with_reducible constructor)<;>first|omega|trivial|rfl) ?_|refine hi _ _ ?_|fail
 exact Qb (hQ _ (by omega)) (tK _ l 0 (by omega)).symm
theorem zEf:∀ (t:Tm) (d:D),t.Is d→t.cnt≤1073741824→vb 111 [.dg 9 d,.fn 112 []] t.ok:=by
 refine Tm.ind fun k nm ot n ty re l ih d hd hc N Q hQ=>?_
 obtain ⟨t0,t1,r0,r1,a,es,c,rfl,hh,hlen,hes⟩:=Tm.is_mk.1 hd
 have hl:=hes.len
 simp only [Tm.cnt] at hc
 refine sF N _ Q fun _=>?_
 simp only [Tm.ok,zCH,←hl] at hQ
 repeat' first|with_reducible intro _|simp only[Y1,Y2,Y3,Y4]|with_reducible refine X ?_ ?_|refine⟨_,_,_,rfl,?_⟩|refine⟨_,rfl,?_⟩|refine And.intro (by first|omega|trivial|(show _=_;rfl)|(with_reducible constructor)<;>first|omega|trivial|rfl) ?_|refine (zG6 hh (by omega) (by omega)) _ _ ?_|refine (qZ hes hlen _ (fun x hx d hd=>fun N Q hQ=>uW N d _ Q fun _ N1 hN1=>ih x hx d hd (by have:=w9 hx;omega) N1 _ fun N2 hN2 hle N3 hN3=>hQ N3 (by omega)) _ _) _ _ ?_|fail
 ·have h:(y6 k nm ot n ty re&&(es.length:Int)==zDt k nm)=true:=by assumption
  exact Qb (hQ _ (by omega)) (by rw [h,Bool.and_true])
 ·have h:(y6 k nm ot n ty re&&(es.length:Int)==zDt k nm)=false:=by assumption
  exact Qb (hQ _ (by omega)) (by rw [h,Bool.and_false])
theorem t7 (t:Tm) (d:D) (hd:t.Is d) (hc:t.cnt≤1073741824):vb 50 [.dg 9 d] t.ok:=fun N Q hQ=>by
 refine zAl N _ Q fun _=>?_
 repeat' first|with_reducible intro _|simp only[Y1,Y2,Y3,Y4]|with_reducible refine X ?_ ?_|refine⟨_,_,_,rfl,?_⟩|refine⟨_,rfl,?_⟩|refine And.intro (by first|omega|trivial|(show _=_;rfl)|(with_reducible constructor)<;>first|omega|trivial|rfl) ?_|refine (zEf t d hd hc) _ _ ?_|fail
 exact hQ _ (by omega)
theorem zI1:∀ (t:Ty) (d:D),t.Is d→t.cnt≤1073741824→zJd 226 [.dg 2 d] t:=by
 refine Ty.ind fun k l ih d hd hc N Q hQ=>?_
 obtain ⟨a,es,c,rfl,hlen,hes⟩:=Ty.is_mk.1 hd
 have hl:=hes.len
 simp only [Ty.cnt] at hc
 have hlc:=vB l
 refine r7 N _ Q fun _=>⟨_,rfl,_,_,_,rfl,?_⟩
 have key:=up hes hlen (fun i xs=>∀ (N':Nat),N≤N'→(i=0→xT Q N a es c es.length i 0 none [] 0 k none [] 0 N')∧∀ (m q:Nat) (r:List D),m=r.length→All2 Ty.Is (l.take i) r→OwnL N N' r →
  zw Q N a es c es.length i 0 none [] 0 k m q r q N') ?_ ?_
 ·exact (key N (Nat.le_refl _)).1 rfl
 ·intro i hlt hi N' hN'
  refine ⟨fun h0=>wn _ _ _ _ _ _ _ _ _ _ _ _ _ _ _ _ ?_,fun m q r hm hr ho=>xo _ _ _ _ _ _ _ _ _ _ _ _ _ _ _ _ _ ?_⟩
  ·repeat' first|with_reducible intro _|simp only[hlt,Y1,Y2,Y3,Y4]|with_reducible refine X ?_ ?_|refine⟨_,_,_,rfl,?_⟩|refine⟨_,rfl,?_⟩|refine And.intro (by first|omega|trivial|(show _=_;rfl)|(with_reducible constructor)<;>first|omega|trivial|rfl) ?_|fail
   have:l=[]:=List.eq_nil_of_length_eq_zero (by omega)
   subst this
   exact hQ _ _ (by omega) (zFW _) zGF
  ·repeat' first|with_reducible intro _|simp only[hlt,Y1,Y2,Y3,Y4]|with_reducible refine X ?_ ?_|refine⟨_,_,_,rfl,?_⟩|refine⟨_,rfl,?_⟩|refine And.intro (by first|omega|trivial|(show _=_;rfl)|(with_reducible constructor)<;>first|omega|trivial|rfl) ?_|fail
   rename_i a' N3 hN3 hf N4 hN4
   rw [List.take_of_length_le (by omega)] at hr
   exact hQ _ _ (by omega) (Ty.is_mk.2 ⟨_,_,_,rfl,by have:=hr.len;omega,hr⟩) (zD7 (vH (xY ((zCG ho hf (by omega)).mono (Nat.le_refl _) hN4))))
 ·intro i x xs hat _ ih2 N' hN'
  have hb:=hat.b
  have hxc:=xV hat.m
  refine ⟨fun h0=>wn _ _ _ _ _ _ _ _ _ _ _ _ _ _ _ _ ?_,fun m q r hm hr ho=>xo _ _ _ _ _ _ _ _ _ _ _ _ _ _ _ _ _ ?_⟩
  ·repeat' first|with_reducible intro _|simp only[hat.lt,hat.w,Int.toNat_natCast,Y1,Y2,Y3,Y4]|with_reducible refine X ?_ ?_|refine⟨_,_,_,rfl,?_⟩|refine⟨_,rfl,?_⟩|refine And.intro (by first|omega|trivial|(show _=_;rfl)|(with_reducible constructor)<;>first|omega|trivial|rfl) ?_|refine (ih x hat.m _ hat.r (by omega)) _ _ ?_|fail
   rename_i N2 hN2 d' N3 hN3 hx hox hle hbel
   subst h0
   exact ⟨by unfold zB;simp,fun c2=>(ih2 _ (by omega)).2 _ _ _ rfl (by rw [vr hat.g];exact ⟨_,_,rfl,hx,rfl⟩) (xY (hox.mono (by omega) (Nat.le_refl _)))⟩
  ·repeat' first|with_reducible intro _|simp only[hat.lt,hat.w,Int.toNat_natCast,Y1,Y2,Y3,Y4]|with_reducible refine X ?_ ?_|refine⟨_,_,_,rfl,?_⟩|refine⟨_,rfl,?_⟩|refine And.intro (by first|omega|trivial|(show _=_;rfl)|(with_reducible constructor)<;>first|omega|trivial|rfl) ?_|refine (ih x hat.m _ hat.r (by omega)) _ _ ?_|fail
   rename_i N2 hN2 d' N3 hN3 hx hox hle hbel
   have hrl:=hr.len
   have hli:(l.take i).length=i:=by rw [List.length_take];omega
   refine ⟨by unfold zB;simp only [List.length_append,List.length_singleton];omega,fun c2=>?_⟩
   exact (ih2 _ (by omega)).2 _ _ _ rfl (by rw [vr hat.g];exact hr.snoc hx) (yv (ho.mono (Nat.le_refl _) hN2) (xY hox) (by omega) hN3)
theorem zJO {f:FuncId} {rs:List Sh} {args:List PV} {N z c:Nat} {Q:QT rs} {es:List D} (hc:yj prog f=true) (hm:PV.sv none z es c∈args) (hne:es≠[]):ACalls prog f rs args N Q:=
 ⟨hc,fun av w0 _ _ hok=>by
  have h:=(hok _ hm).1.1
  cases h
  exact absurd rfl hne⟩
theorem qa {a:Option Addr} {z c:Nat} {es:List D}:∀ x∈(D.sl a z es c).foot,x∈zL es∨∃ ad,a=some ad∧x=ad.block:=by
 intro x hx
 cases a with
 | none=>simp only [D.foot] at hx;exact .inl hx
 | some ad=>
   simp only [D.foot] at hx
   split at hx
   ·simp at hx
   ·rcases List.mem_cons.1 hx with rfl | hx
    ·exact .inr ⟨ad,rfl,rfl⟩
    ·exact .inl hx
theorem zHw {bs:List (Option Addr)} {N N':Nat} {d:D} (hb:zAN N bs) (ho:Own N N' d):Off bs d:=fun a ha ad had hm=>by
 have:=hb a ha ad had
 have:=ho.lo _ hm
 omega
mutual
def Tm.sz:Tm→Nat
 | .mk _ _ _ _ _ _ l=>1+zJT l
def zJT:List Tm→Nat
 | []=>0
 | t::ts=>t.sz+zJT ts
end
mutual
def Tm.dp:Tm→Nat
 | .mk _ _ _ _ _ _ l=>zJQ l+1
def zJQ:List Tm→Nat
 | []=>0
 | t::ts=>max t.dp (zJQ ts)
end
/-- one form of a body's nodes -/
def zJs (k:Int):Bool:=inB k 1 5||k==8
mutual
def Tm.isB:Tm→Bool
 | .mk k _ _ _ _ _ l=>zKD l&&zJs k
def zKD:List Tm→Bool
 | []=>true
 | t::ts=>t.isB&&zKD ts
end
def Tm.vd (t:Tm):Bool:=decide (t.sz≤80)&&decide (t.dp≤20)&&t.ok
theorem wl (l:List ByteArray) (hl:l.length≤4611686018427387904) (a:Option Addr) (c:Nat) (s:ByteArray):zDY 234 [.sv a 0 (zA l) c,.str s] (rm (fun x=>decide (x=s)) l 0):=fun N Q hQ=>by
 have hes:=yQ l
 have hlen:(zA l).length≤4611686018427387904:=by rw [hes.len];exact hl
 refine pj N a _ c s Q fun _=>?_
 refine up hes hlen (fun i xs=>∀ (N':Nat),N≤N'→(∀ N'',N'≤N''→Q (rm (fun x=>decide (x=s)) xs i) N'')→yu Q N a (zA l) c s i N') ?_ ?_ N (Nat.le_refl _) hQ
 ·intro i hlt _ N' hN' hQ'
  refine vO _ _ _ _ _ _ _ _ ?_
  repeat' first|with_reducible intro _|simp only[hlt,Y1,Y2,Y3,Y4]|with_reducible refine X ?_ ?_|refine⟨_,_,_,rfl,?_⟩|refine⟨_,rfl,?_⟩|refine And.intro (by first|omega|trivial|(show _=_;rfl)|(with_reducible constructor)<;>first|omega|trivial|rfl) ?_|fail
  exact hQ' _ (by omega)
 ·intro i x xs hat _ ih2 N' hN' hQ'
  have hb:=hat.b
  have hr:=hat.r
  simp only [rm] at hQ'
  refine vO _ _ _ _ _ _ _ _ ?_
  repeat' first|with_reducible intro _|simp only[hat.lt,hat.w,Int.toNat_natCast,hr,Y1,Y2,Y3,Y4]|with_reducible refine X ?_ ?_|refine⟨_,_,_,rfl,?_⟩|refine⟨_,rfl,?_⟩|refine And.intro (by first|omega|trivial|(show _=_;rfl)|(with_reducible constructor)<;>first|omega|trivial|rfl) ?_|fail
  ·rename_i h _ _;subst h;exact Qi (hQ' _ (by omega)) (by simp)
  ·rename_i h;exact ih2 _ hN' fun N'' h2=>Qi (hQ' _ h2) (by rw [if_neg (by simpa using h)];simp)
theorem yN (l:List ByteArray) (s:ByteArray):zA l++[.lit (.string s)]=zA (l++[s]):=by simp [zA]
theorem zC (l:List ByteArray):(zA l).length=l.length:=by simp [zA]
end Go.Proofs.YtmfjakahanbnlaaGreatDoor
