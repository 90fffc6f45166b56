/- Types: the reference's functions. -/
import Derived.Test.YtmfjakahanbnlaaGreatDoorA1
import Derived.Test.YtmfjakahanbnlaaGreatDoorKs
set_option linter.unusedVariables false
set_option linter.unusedSimpArgs false
namespace Go.Proofs.YtmfjakahanbnlaaGreatDoor
open Go Go.Proofs Go.Proofs.Tryz Go.IntWalk
def inB (n a b:Int):Bool:=decide (a≤n)&&decide (n≤b)
theorem rx (n a b:Int):vb 63 [.int .i64 n,.int .i64 a,.int .i64 b] (inB n a b):=fun N Q hQ=>by
 refine zDB N n a b Q ?_
 repeat' first|with_reducible intro _|simp only[Y1,Y2,Y3,Y4]|with_reducible refine X ?_ ?_|refine⟨_,_,_,rfl,?_⟩|refine⟨_,rfl,?_⟩|refine And.intro (by first|omega|trivial|(show _=_;rfl)|(with_reducible constructor)<;>first|omega|trivial|rfl) ?_|fail
 all_goals simpa [inB, *] using hQ _ (by omega)
theorem zCb (a b:Int):zDY 274 [.int .i64 a,.int .i64 b] (max a b):=fun N Q hQ=>by
 refine zB4 N a b Q ?_
 repeat' first|with_reducible intro _|simp only[Y1,Y2,Y3,Y4]|with_reducible refine X ?_ ?_|refine⟨_,_,_,rfl,?_⟩|refine⟨_,rfl,?_⟩|refine And.intro (by first|omega|trivial|(show _=_;rfl)|(with_reducible constructor)<;>first|omega|trivial|rfl) ?_|fail
 ·have:=hQ _ (by assumption)
  rwa [Int.max_eq_left (by omega)] at this
 ·have:=hQ _ (by assumption)
  rwa [Int.max_eq_right (by omega)] at this
mutual
def Ty.dep:Ty→Nat
 | .mk _ l=>vM l+1
def vM:List Ty→Nat
 | []=>0
 | t::ts=>max t.dep (vM ts)
end
mutual
theorem Ty.dep_cnt:∀ t:Ty,t.dep≤t.cnt
 | .mk _ l=>by simp only [Ty.dep,Ty.cnt];have:=uP l;omega
theorem uP:∀ l:List Ty,vM l≤yd l
 | []=>Nat.le_refl _
 | t::ts=>by simp only [vM,yd];have:=t.dep_cnt;have:=uP ts;omega
end
theorem xV:∀ {l:List Ty} {t:Ty},t∈l→t.cnt≤yd l
 | u::us,t,h=>by
   simp only [yd]
   rcases List.mem_cons.1 h with rfl | h
   ·omega
   ·have:=xV h;omega
def zCa (k:Int) (n:Nat):Bool:=if k=1∨k=2 then (n:Int)==0 else if k=3 then (n:Int)==2 else if k=4 then (n:Int)==1 else false
mutual
def Ty.form:Ty→Bool
 | .mk k l=>v8 l&&zCa k l.length
def v8:List Ty→Bool
 | []=>true
 | t::ts=>t.form&&v8 ts
end
def Ty.valid (t:Ty):Bool:=decide (t.cnt≤30)&&decide (t.dep≤8)&&t.form
theorem sC:∀ (t:Ty) (d:D),t.Is d→∀ n:Int,0≤n→n≤1000→zDY 230 [.dg 2 d,.int .i64 n] (if (t.cnt:Int)≤n then n - t.cnt else -1):=by
 refine Ty.ind fun k l ih d hd n hn0 hn1 N Q hQ=>?_
 obtain ⟨a,es,c,rfl,hlen,hes⟩:=Ty.is_mk.1 hd
 refine zBQ N _ n Q fun _=>?_
 have key:=up hes hlen (fun i xs=>∀ (m:Int) (N':Nat),N≤N' → -1≤m→m≤1000→(∀ N'',N'≤N''→Q (if m<0 then -1 else if (yd xs:Int)≤m then m - yd xs else -1) N'') →
  xB Q N m i (.ag [.lit (.int .i64 k),.sl a 2 es c]) N') ?_ ?_
 ·rw [i64_in _ (by omega)]
  refine key (n - 1) N (Nat.le_refl _) (by omega) (by omega) fun N' hN'=>Qi (hQ N' hN') ?_
  simp only [Ty.cnt]
  (repeat' split)<;>omega
 ·intro i hlt _ m N' hN' h1 h2 hQ'
  refine vi _ _ _ _ _ _ ?_
  repeat' first|with_reducible intro _|simp only[hlt,Y1,Y2,Y3,Y4]|with_reducible refine X ?_ ?_|refine⟨_,_,_,rfl,?_⟩|refine⟨_,rfl,?_⟩|refine And.intro (by first|omega|trivial|(show _=_;rfl)|(with_reducible constructor)<;>first|omega|trivial|rfl) ?_|fail
  refine Qi (hQ' _ (by assumption)) ?_
  simp only [yd]
  (repeat' split)<;>omega
 ·intro i x xs hat _ ih2 m N' hN' h1 h2 hQ'
  have hb:=hat.b
  refine vi _ _ _ _ _ _ ?_
  repeat' first|with_reducible intro _|simp only[hat.lt,hat.w,Int.toNat_natCast,Y1,Y2,Y3,Y4]|with_reducible refine X ?_ ?_|refine⟨_,_,_,rfl,?_⟩|refine⟨_,rfl,?_⟩|refine And.intro (by first|omega|trivial|(show _=_;rfl)|(with_reducible constructor)<;>first|omega|trivial|rfl) ?_|refine (ih x hat.m _ hat.r m (by omega) (by omega)) _ _ ?_|fail
  ·refine ih2 _ _ (by omega) (by split<;>omega) (by split<;>omega) fun N'' hN''=>Qi (hQ' N'' (by omega)) ?_
   simp only [yd]
   (repeat' split)<;>omega
  ·refine Qi (hQ' _ (by assumption)) ?_
   rw [if_pos (by omega)]
   omega
theorem wg:∀ (t:Ty) (d:D),t.Is d→t.cnt≤1073741824→zDY 231 [.dg 2 d] t.dep:=by
 refine Ty.ind fun k l ih d hd hc N Q hQ=>?_
 obtain ⟨a,es,c,rfl,hlen,hes⟩:=Ty.is_mk.1 hd
 refine tZ N _ Q fun _=>?_
 simp only [Ty.cnt] at hc
 have hdl:=uP l
 have key:=up hes hlen (fun i xs=>∀ (m:Nat) (N':Nat),N≤N'→max m (vM xs)=vM l→zx Q N (m:Int) i (.ag [.lit (.int .i64 k),.sl a 2 es c]) N') ?_ ?_
 ·exact key 0 N (Nat.le_refl _) (by omega)
 ·intro i hlt _ m N' hN' hm
  simp only [vM] at hm
  refine xl _ _ _ _ _ _ ?_
  repeat' first|with_reducible intro _|simp only[hlt,Y1,Y2,Y3,Y4]|with_reducible refine X ?_ ?_|refine⟨_,_,_,rfl,?_⟩|refine⟨_,rfl,?_⟩|refine And.intro (by first|omega|trivial|(show _=_;rfl)|(with_reducible constructor)<;>first|omega|trivial|rfl) ?_|fail
  rw [i64_in _ (by omega)]
  refine Qi (hQ _ (Nat.le_trans hN' (by assumption))) ?_
  simp only [Ty.dep]
  omega
 ·intro i x xs hat _ ih2 m N' hN' hm
  have hb:=hat.b
  have hxc:=xV hat.m
  simp only [vM] at hm
  refine xl _ _ _ _ _ _ ?_
  repeat' first|with_reducible intro _|simp only[hat.lt,hat.w,Int.toNat_natCast,Y1,Y2,Y3,Y4]|with_reducible refine X ?_ ?_|refine⟨_,_,_,rfl,?_⟩|refine⟨_,rfl,?_⟩|refine And.intro (by first|omega|trivial|(show _=_;rfl)|(with_reducible constructor)<;>first|omega|trivial|rfl) ?_|refine (ih x hat.m _ hat.r (by omega)) _ _ ?_|refine (zCb _ _) _ _ ?_|fail
  have e:max (m:Int) (x.dep:Int)=((max m x.dep:Nat):Int):=by omega
  rw [e]
  exact ih2 _ _ (by omega) (by omega)
theorem tH:∀ (t:Ty) (d:D),t.Is d→vb 232 [.dg 2 d] t.form:=by
 refine Ty.ind fun k l ih d hd N Q hQ=>?_
 obtain ⟨a,es,c,rfl,hlen,hes⟩:=Ty.is_mk.1 hd
 have hl:=hes.len
 refine zBO N _ Q fun _=>?_
 have key:=up hes hlen (fun i xs=>∀ (N':Nat),N≤N'→(∀ N'',N'≤N''→Q (v8 xs&&zCa k l.length) N'')→xJ Q N i (.ag [.lit (.int .i64 k),.sl a 2 es c]) N') ?_ ?_
 ·exact key N (Nat.le_refl _) hQ
 ·intro i hlt _ N' hN' hQ'
  refine vg _ _ _ _ _ ?_
  repeat' first|with_reducible intro _|simp only[hlt,Y1,Y2,Y3,Y4]|with_reducible refine X ?_ ?_|refine⟨_,_,_,rfl,?_⟩|refine⟨_,rfl,?_⟩|refine And.intro (by first|omega|trivial|(show _=_;rfl)|(with_reducible constructor)<;>first|omega|trivial|rfl) ?_|fail
  all_goals (refine Qb (hQ' _ (by assumption)) ?_;simp [v8,zCa, *])
 ·intro i x xs hat _ ih2 N' hN' hQ'
  have hb:=hat.b
  refine vg _ _ _ _ _ ?_
  repeat' first|with_reducible intro _|simp only[hat.lt,hat.w,Int.toNat_natCast,Y1,Y2,Y3,Y4]|with_reducible refine X ?_ ?_|refine⟨_,_,_,rfl,?_⟩|refine⟨_,rfl,?_⟩|refine And.intro (by first|omega|trivial|(show _=_;rfl)|(with_reducible constructor)<;>first|omega|trivial|rfl) ?_|refine (ih x hat.m _ hat.r) _ _ ?_|fail
  ·refine Qb (hQ' _ (by omega)) ?_;simp [v8, *]
  ·exact ih2 _ (by omega) fun N'' h=>Qb (hQ' N'' (by omega)) (by simp [v8, *])
theorem wT (t:Ty) (d:D) (hd:t.Is d) (hc:t.cnt≤1073741824):vb 167 [.dg 2 d] t.valid:=fun N Q hQ=>by
 refine tD N _ Q fun _=>?_
 by_cases h30:t.cnt≤30
 ·have h1:((t.cnt:Int)≤30):=by omega
  repeat' first|with_reducible intro _|simp only[if_pos h1,Y1,Y2,Y3,Y4]|with_reducible refine X ?_ ?_|refine⟨_,_,_,rfl,?_⟩|refine⟨_,rfl,?_⟩|refine And.intro (by first|omega|trivial|(show _=_;rfl)|(with_reducible constructor)<;>first|omega|trivial|rfl) ?_|refine (sC t d hd _ (by omega) (by omega)) _ _ ?_|refine (wg t d hd hc) _ _ ?_|refine (tH t d hd) _ _ ?_|fail
  all_goals first | omega | skip
  ·have h8:t.dep≤8:=by omega
   refine Qb (hQ _ (by omega)) ?_;simp [Ty.valid, *]
  ·have h8:¬t.dep≤8:=by omega
   refine Qb (hQ _ (by omega)) ?_;simp [Ty.valid, *]
 ·have h1:¬((t.cnt:Int)≤30):=by omega
  repeat' first|with_reducible intro _|simp only[if_neg h1,Y1,Y2,Y3,Y4]|with_reducible refine X ?_ ?_|refine⟨_,_,_,rfl,?_⟩|refine⟨_,rfl,?_⟩|refine And.intro (by first|omega|trivial|(show _=_;rfl)|(with_reducible constructor)<;>first|omega|trivial|rfl) ?_|refine (sC t d hd _ (by omega) (by omega)) _ _ ?_|refine (wg t d hd hc) _ _ ?_|refine (tH t d hd) _ _ ?_|fail
  all_goals first | omega | skip
  refine Qb (hQ _ (by omega)) ?_;simp [Ty.valid, *]
/-- returns this type, in memory of its own -/
def zJd (f:FuncId) (args:List PV) (t:Ty):Prop:=∀ (N:Nat) (Q:QT [.ag 2]),(∀ d' N',N≤N'→t.Is d'→Own N N' d'→Q d' N')→ACalls prog f [.ag 2] args N Q
def tZero:Ty:=.mk 0 []
def Ty.base (t:Ty):Bool:=(t.k==1||t.k==2)&&(t.as.length:Int)==0
theorem zFW (k:Int):(Ty.mk k []).Is (.ag [.lit (.int .i64 k),.sl none 2 [] 0]):=Ty.is_mk.2 ⟨_,_,_,rfl,by simp,rfl⟩
theorem zGF {N N':Nat} {x:Value}:Own N N' (.ag [.lit x,.sl none 2 [] 0]):=⟨by simp [D.foot,zL],⟨trivial,⟨by simp,trivial⟩,trivial⟩,by simp [D.foot,zL],by simp [D.foot,zL]⟩
theorem vB:∀ l:List Ty,l.length≤yd l
 | []=>Nat.le_refl _
 | .mk k l::ts=>by simp only [yd,Ty.cnt,List.length_cons];have:=vB ts;omega
theorem vI:∀ (t u:Ty) (d e:D),t.Is d→u.Is e→vb 100 [.dg 2 d,.dg 2 e] (zBa t u):=by
 refine Ty.ind fun k l ih u d e hd he N Q hQ=>?_
 cases u with
 | mk k' l'=>
 obtain ⟨a,es,c,rfl,hlen,hes⟩:=Ty.is_mk.1 hd
 obtain ⟨a',es',c',rfl,hlen',hes'⟩:=Ty.is_mk.1 he
 have hl:=hes.len
 have hl':=hes'.len
 simp only [zBa] at hQ
 have key:l.length=l'.length→∀ (N':Nat),N≤N'→(∀ N'',N'≤N''→Q (xh l (l'.drop 0)) N'')→zo Q N (0:Nat) (.ag [.lit (.int .i64 k),.sl a 2 es c]) (.ag [.lit (.int .i64 k'),.sl a' 2 es' c']) N':=by
  intro hll
  refine up hes hlen (fun i xs=>∀ (N':Nat),N≤N'→(∀ N'',N'≤N''→Q (xh xs (l'.drop i)) N'')→zo Q N i (.ag [.lit (.int .i64 k),.sl a 2 es c]) (.ag [.lit (.int .i64 k'),.sl a' 2 es' c']) N') ?_ ?_
  ·intro i hlt hi N' hN' hQ'
   refine wV _ _ _ _ _ _ ?_
   repeat' first|with_reducible intro _|simp only[hlt,Y1,Y2,Y3,Y4]|with_reducible refine X ?_ ?_|refine⟨_,_,_,rfl,?_⟩|refine⟨_,rfl,?_⟩|refine And.intro (by first|omega|trivial|(show _=_;rfl)|(with_reducible constructor)<;>first|omega|trivial|rfl) ?_|fail
   refine Qb (hQ' _ (by assumption)) ?_
   rw [List.drop_eq_nil_of_le (by omega)]
   rfl
  ·intro i x xs hat _ ih2 N' hN' hQ'
   have hb:=hat.b
   have hi':i<l'.length:=by omega
   have hg:l'[i]?=some l'[i]:=List.getElem?_eq_getElem hi'
   have hd':l'.drop i=l'[i]::l'.drop (i+1):=List.drop_eq_getElem_cons hi'
   refine wV _ _ _ _ _ _ ?_
   rw [hd'] at hQ'
   repeat' first|with_reducible intro _|simp only[hat.lt,hat.w,Int.toNat_natCast,Y1,Y2,Y3,Y4]|with_reducible refine X ?_ ?_|refine⟨_,_,_,rfl,?_⟩|refine⟨_,rfl,?_⟩|refine And.intro (by first|omega|trivial|(show _=_;rfl)|(with_reducible constructor)<;>first|omega|trivial|rfl) ?_|refine (ih x hat.m _ _ _ hat.r (hes'.get hg)) _ _ ?_|fail
   ·exact Qb (hQ' _ (by omega)) (by simp [xh, *])
   ·exact ih2 _ (by omega) fun N'' h=>Qb (hQ' N'' (by omega)) (by simp [xh, *])
 refine ri N _ _ Q fun _ _=>?_
 repeat' first|with_reducible intro _|simp only[Y1,Y2,Y3,Y4]|with_reducible refine X ?_ ?_|refine⟨_,_,_,rfl,?_⟩|refine⟨_,rfl,?_⟩|refine And.intro (by first|omega|trivial|(show _=_;rfl)|(with_reducible constructor)<;>first|omega|trivial|rfl) ?_|fail
 ·exact Qb (hQ _ (by assumption)) (by simp [*])
 ·exact Qb (hQ _ (by assumption)) (by rw [tF (by omega),Bool.and_false])
 ·exact key (by omega) N (Nat.le_refl _) fun N'' hN''=>Qb (hQ _ hN'') (by simp [*])
theorem vr {α:Type} {l:List α} {i:Nat} {x:α} (h:l[i]?=some x):l.take (i+1)=l.take i++[x]:=by
 rw [List.take_add_one,h];rfl
theorem tw:∀ (t:Ty) (d:D),t.Is d→t.cnt≤1073741824→zJd 141 [.dg 2 d] t:=by
 refine Ty.ind fun k l ih d hd hc N Q hQ=>?_
 obtain ⟨a,es,c,rfl,hlen,hes⟩:=Ty.is_mk.1 hd
 have hl:=hes.len
 simp only [Ty.cnt] at hc
 have hlc:=vB l
 refine zAd N _ Q fun _=>⟨_,rfl,?_⟩
 have key:=up hes hlen (fun i xs=>∀ (N':Nat),N≤N'→(i=0→wB Q N i (.ag [.lit (.int .i64 k),.sl a 2 es c]) 0 none [] 0 k none [] 0 N')∧∀ (m q:Nat) (r:List D),m=r.length→All2 Ty.Is (l.take i) r→OwnL N N' r →
  yI Q N i (.ag [.lit (.int .i64 k),.sl a 2 es c]) 0 none [] 0 k m q r q N') ?_ ?_
 ·exact (key N (Nat.le_refl _)).1 rfl
 ·intro i hlt hi N' hN'
  refine ⟨fun h0=>vl _ _ _ _ _ _ _ _ _ _ _ _ _ ?_,fun m q r hm hr ho=>wZ _ _ _ _ _ _ _ _ _ _ _ _ _ _ ?_⟩
  ·repeat' first|with_reducible intro _|simp only[hlt,Y1,Y2,Y3,Y4]|with_reducible refine X ?_ ?_|refine⟨_,_,_,rfl,?_⟩|refine⟨_,rfl,?_⟩|refine And.intro (by first|omega|trivial|(show _=_;rfl)|(with_reducible constructor)<;>first|omega|trivial|rfl) ?_|fail
   have:l=[]:=List.eq_nil_of_length_eq_zero (by omega)
   subst this
   exact hQ _ _ (by omega) (zFW _) zGF
  ·repeat' first|with_reducible intro _|simp only[hlt,Y1,Y2,Y3,Y4]|with_reducible refine X ?_ ?_|refine⟨_,_,_,rfl,?_⟩|refine⟨_,rfl,?_⟩|refine And.intro (by first|omega|trivial|(show _=_;rfl)|(with_reducible constructor)<;>first|omega|trivial|rfl) ?_|fail
   rename_i a' N3 hN3 hf N4 hN4
   rw [List.take_of_length_le (by omega)] at hr
   exact hQ _ _ (by omega) (Ty.is_mk.2 ⟨_,_,_,rfl,by have:=hr.len;omega,hr⟩) (zD7 (vH (xY ((zCG ho hf (by omega)).mono (Nat.le_refl _) hN4))))
 ·intro i x xs hat _ ih2 N' hN'
  have hb:=hat.b
  have hxc:=xV hat.m
  refine ⟨fun h0=>vl _ _ _ _ _ _ _ _ _ _ _ _ _ ?_,fun m q r hm hr ho=>wZ _ _ _ _ _ _ _ _ _ _ _ _ _ _ ?_⟩
  ·repeat' first|with_reducible intro _|simp only[hat.lt,hat.w,Int.toNat_natCast,Y1,Y2,Y3,Y4]|with_reducible refine X ?_ ?_|refine⟨_,_,_,rfl,?_⟩|refine⟨_,rfl,?_⟩|refine And.intro (by first|omega|trivial|(show _=_;rfl)|(with_reducible constructor)<;>first|omega|trivial|rfl) ?_|refine (ih x hat.m _ hat.r (by omega)) _ _ ?_|fail
   rename_i N2 hN2 d' N3 hN3 hx hox hle hbel
   subst h0
   exact ⟨by unfold zB;simp,fun c2=>(ih2 _ (by omega)).2 _ _ _ rfl (by rw [vr hat.g];exact ⟨_,_,rfl,hx,rfl⟩) (xY (hox.mono (by omega) (Nat.le_refl _)))⟩
  ·repeat' first|with_reducible intro _|simp only[hat.lt,hat.w,Int.toNat_natCast,Y1,Y2,Y3,Y4]|with_reducible refine X ?_ ?_|refine⟨_,_,_,rfl,?_⟩|refine⟨_,rfl,?_⟩|refine And.intro (by first|omega|trivial|(show _=_;rfl)|(with_reducible constructor)<;>first|omega|trivial|rfl) ?_|refine (ih x hat.m _ hat.r (by omega)) _ _ ?_|fail
   rename_i N2 hN2 d' N3 hN3 hx hox hle hbel
   have hrl:=hr.len
   have hli:(l.take i).length=i:=by rw [List.length_take];omega
   refine ⟨by unfold zB;simp only [List.length_append,List.length_singleton];omega,fun c2=>?_⟩
   exact (ih2 _ (by omega)).2 _ _ _ rfl (by rw [vr hat.g];exact hr.snoc hx) (yv (ho.mono (Nat.le_refl _) hN2) (xY hox) (by omega) hN3)
theorem upN {n:Nat} (hn:n≤4611686018427387904) (P:Nat→Prop) (hend:decide ((n:Int)<(n:Int))=false→P n)
  (hstep:∀ i:Nat,i<n→decide ((i:Int)<(n:Int))=true→IntKind.i64.wrap ((i:Int)+1)=((i+1:Nat):Int)→P (i+1)→P i):P 0:=by
 have key : ∀ (m i:Nat),i+m=n→P i:=by
  intro m
  induction m with
  | zero => intro i h;have:i=n:=by omega
            subst this;exact hend (by simp)
  | succ m ih=>intro i h;exact hstep i (by omega) (decide_eq_true (by omega)) (by rw [i64_in _ (by omega)];simp) (ih (i+1) (by omega))
 exact key n 0 (by omega)
abbrev rF (s:ByteArray) (i:Nat):Int:=((s.data.getD i (OfNat.ofNat 0)).toNat:Int)
def zAR (s:ByteArray) (i:Nat):Bool:=(decide (rF s i≥97)&&decide (rF s i≤122))||(!(decide ((i:Int)=0))&&(!(decide (rF s i<48))&&!(decide (rF s i>57))))
def wY (s:ByteArray) (i:Nat):Bool:=(List.range' i (s.size - i)).all (zAR s)
theorem sE {s:ByteArray} {i:Nat} (h:i<s.size):wY s i=(zAR s i&&wY s (i+1)):=by
 unfold wY
 rw [show s.size - i=(s.size - (i+1))+1 by omega,List.range'_succ]
 rfl
theorem rA {s:ByteArray}:wY s s.size=true:=by simp [wY]
def zAS (s:ByteArray):Bool:=inB s.size 1 4&&(!(decide (s=bytes [105,102]))&&(!(decide (s=bytes [108,101,116]))&&(!(decide (s=bytes [114,101,99]))&&(!(decide (s=bytes [114,117,110]))&&!(decide (s=bytes [108,105,102,116]))))))
def uv (s:ByteArray):Bool:=wY s 0&&zAS s
theorem sD (s:ByteArray) (hs:s.size≤4611686018427387904):vb 233 [.str s] (uv s):=fun N Q hQ=>by
 refine zBW N s Q ?_
 have key:=upN hs (fun i=>∀ N',N≤N'→(∀ N'',N'≤N''→Q (wY s i&&zAS s) N'')→z8 Q N s i N') ?_ ?_
 ·exact key N (Nat.le_refl _) hQ
 ·intro hlt N' hN' hQ'
  refine vp _ _ _ _ _ ?_
  repeat' first|with_reducible intro _|simp only[hlt,Y1,Y2,Y3,Y4]|with_reducible refine X ?_ ?_|refine⟨_,_,_,rfl,?_⟩|refine⟨_,rfl,?_⟩|refine And.intro (by first|omega|trivial|(show _=_;rfl)|(with_reducible constructor)<;>first|omega|trivial|rfl) ?_|refine (rx _ _ _) _ _ ?_|fail
  all_goals (refine Qb (hQ' _ (by omega)) ?_;rw [rA])
  all_goals simp [zAS,wR, *]
 ·intro i hi hlt hw ih2 N' hN' hQ'
  refine vp _ _ _ _ _ ?_
  rw [sE hi] at hQ'
  repeat' first|with_reducible intro _|simp only[hlt,hw,Int.toNat_natCast,Y1,Y2,Y3,Y4]|with_reducible refine X ?_ ?_|refine⟨_,_,_,rfl,?_⟩|refine⟨_,rfl,?_⟩|refine And.intro (by first|omega|trivial|(show _=_;rfl)|(with_reducible constructor)<;>first|omega|trivial|rfl) ?_|fail
  all_goals first
   | (refine Qb (hQ' _ (by omega)) ?_;unfold zAR rF;simp only [*];simp;done)
   | (refine ih2 _ (by omega) fun N'' h=>Qb (hQ' N'' (by omega)) ?_;unfold zAR rF;simp only [*];simp;done)
end Go.Proofs.YtmfjakahanbnlaaGreatDoor
