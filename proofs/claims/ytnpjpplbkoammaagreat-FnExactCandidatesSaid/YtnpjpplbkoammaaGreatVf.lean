/- Types: the reference's functions. -/
import Derived.Test.YtnpjpplbkoammaaGreatVa
import Derived.Test.YtnpjpplbkoammaaGreatKs
set_option linter.unusedVariables false
set_option linter.unusedSimpArgs false
namespace Go.Proofs.YtnpjpplbkoammaaGreat
open Go Go.Proofs Go.Proofs.Tryz Go.IntWalk
def inB (n a b:Int):Bool:=decide (a≤n)&&decide (n≤b)
theorem zAD (n a b:Int):vE 76 [.int .i64 n,.int .i64 a,.int .i64 b] (inB n a b):=fun N Q hQ=>by
 refine zKS N n a b Q ?_
 repeat' first|with_reducible intro _|simp only[Y1,Y2,Y3,Y4]|(with_reducible first|refine X1 ?_ ?_|refine X2 ?_ ?_|refine X3 ?_ ?_|refine X4 ?_ ?_|refine X5 ?_ ?_|refine X6 ?_ ?_|refine X7 ?_ ?_|refine X8 ?_ ?_|refine X9 ?_ ?_)|refine⟨_,_,_,rfl,?_⟩|refine⟨_,rfl,?_⟩|((with_reducible refine And.intro ?_ ?_);·first|omega|trivial|(show _=_;rfl)|((with_reducible refine And.intro ?_ ?_)<;>first|omega|trivial|(show _=_;rfl)))|fail
 all_goals simpa [inB, *] using hQ _ (by omega)
theorem zCC (a b:Int):pe 99 [.int .i64 a,.int .i64 b] (max a b):=fun N Q hQ=>by
 refine zI1 N a b Q ?_
 repeat' first|with_reducible intro _|simp only[Y1,Y2,Y3,Y4]|(with_reducible first|refine X1 ?_ ?_|refine X2 ?_ ?_|refine X3 ?_ ?_|refine X4 ?_ ?_|refine X5 ?_ ?_|refine X6 ?_ ?_|refine X7 ?_ ?_|refine X8 ?_ ?_|refine X9 ?_ ?_)|refine⟨_,_,_,rfl,?_⟩|refine⟨_,rfl,?_⟩|((with_reducible refine And.intro ?_ ?_);·first|omega|trivial|(show _=_;rfl)|((with_reducible refine And.intro ?_ ?_)<;>first|omega|trivial|(show _=_;rfl)))|fail
 ·have:=hQ _ (by assumption)
  rwa [Int.max_eq_left (by omega)] at this
 ·have:=hQ _ (by assumption)
  rwa [Int.max_eq_right (by omega)] at this
mutual
def Ty.dep:Ty→Nat
 | .mk _ l=>t3 l+1
def t3:List Ty→Nat
 | []=>0
 | t::ts=>max t.dep (t3 ts)
end
mutual
theorem Ty.dep_cnt:∀ t:Ty,t.dep≤t.cnt
 | .mk _ l=>by simp only [Ty.dep,Ty.cnt];have:=qq l;omega
theorem qq:∀ l:List Ty,t3 l≤zO l
 | []=>Nat.le_refl _
 | t::ts=>by simp only [t3,zO];have:=t.dep_cnt;have:=qq ts;omega
end
theorem wj:∀ {l:List Ty} {t:Ty},t∈l→t.cnt≤zO l
 | u::us,t,h=>by
   simp only [zO]
   rcases List.mem_cons.1 h with rfl | h
   ·omega
   ·have:=wj h;omega
def pA (k:Int) (n:Nat):Bool:=if k=1∨k=2 then (n:Int)==0 else if k=3 then (n:Int)==2 else if k=4 then (n:Int)==1 else false
mutual
def Ty.form:Ty→Bool
 | .mk k l=>tU l&&pA k l.length
def tU:List Ty→Bool
 | []=>true
 | t::ts=>t.form&&tU ts
end
def Ty.valid (t:Ty):Bool:=decide (t.cnt≤30)&&decide (t.dep≤8)&&t.form
theorem zBD:∀ (t:Ty) (d:D),t.Is d→∀ n:Int,0≤n→n≤1000→pe 108 [.dg 2 d,.int .i64 n] (if (t.cnt:Int)≤n then n - t.cnt else -1):=by
 refine Ty.ind fun k l ih d hd n hn0 hn1 N Q hQ=>?_
 obtain ⟨a,es,c,rfl,hlen,hes⟩:=Ty.is_mk.1 hd
 refine zHu N _ n Q fun _=>?_
 have key:=up hes hlen (fun i xs=>∀ (m:Int) (N':Nat),N≤N' → -1≤m→m≤1000→(∀ N'',N'≤N''→Q (if m<0 then -1 else if (zO xs:Int)≤m then m - zO xs else -1) N'') →
  w4 Q N m i (.ag [.lit (.int .i64 k),.sl a 2 es c]) N') ?_ ?_
 ·rw [i64_in _ (by omega)]
  refine key (n - 1) N (Nat.le_refl _) (by omega) (by omega) fun N' hN'=>Qi (hQ N' hN') ?_
  simp only [Ty.cnt]
  (repeat' split)<;>omega
 ·intro i hlt _ m N' hN' h1 h2 hQ'
  refine qi _ _ _ _ _ _ ?_
  repeat' first|with_reducible intro _|simp only[hlt,Y1,Y2,Y3,Y4]|(with_reducible first|refine X1 ?_ ?_|refine X2 ?_ ?_|refine X3 ?_ ?_|refine X4 ?_ ?_|refine X5 ?_ ?_|refine X6 ?_ ?_|refine X7 ?_ ?_|refine X8 ?_ ?_|refine X9 ?_ ?_)|refine⟨_,_,_,rfl,?_⟩|refine⟨_,rfl,?_⟩|((with_reducible refine And.intro ?_ ?_);·first|omega|trivial|(show _=_;rfl)|((with_reducible refine And.intro ?_ ?_)<;>first|omega|trivial|(show _=_;rfl)))|fail
  refine Qi (hQ' _ (by assumption)) ?_
  simp only [zO]
  (repeat' split)<;>omega
 ·intro i x xs hat _ ih2 m N' hN' h1 h2 hQ'
  have hb:=hat.b
  refine qi _ _ _ _ _ _ ?_
  repeat' first|with_reducible intro _|simp only[hat.lt,hat.w,Int.toNat_natCast,Y1,Y2,Y3,Y4]|(with_reducible first|refine X1 ?_ ?_|refine X2 ?_ ?_|refine X3 ?_ ?_|refine X4 ?_ ?_|refine X5 ?_ ?_|refine X6 ?_ ?_|refine X7 ?_ ?_|refine X8 ?_ ?_|refine X9 ?_ ?_)|refine⟨_,_,_,rfl,?_⟩|refine⟨_,rfl,?_⟩|((with_reducible refine And.intro ?_ ?_);·first|omega|trivial|(show _=_;rfl)|((with_reducible refine And.intro ?_ ?_)<;>first|omega|trivial|(show _=_;rfl)))|refine (ih x hat.m _ hat.r m (by omega) (by omega)) _ _ ?_|fail
  ·refine ih2 _ _ (by omega) (by split<;>omega) (by split<;>omega) fun N'' hN''=>Qi (hQ' N'' (by omega)) ?_
   simp only [zO]
   (repeat' split)<;>omega
  ·refine Qi (hQ' _ (by assumption)) ?_
   rw [if_pos (by omega)]
   omega
theorem tN:∀ (t:Ty) (d:D),t.Is d→t.cnt≤1073741824→pe 109 [.dg 2 d] t.dep:=by
 refine Ty.ind fun k l ih d hd hc N Q hQ=>?_
 obtain ⟨a,es,c,rfl,hlen,hes⟩:=Ty.is_mk.1 hd
 refine zBI N _ Q fun _=>?_
 simp only [Ty.cnt] at hc
 have hdl:=qq l
 have key:=up hes hlen (fun i xs=>∀ (m:Nat) (N':Nat),N≤N'→max m (t3 xs)=t3 l→y4 Q N (m:Int) i (.ag [.lit (.int .i64 k),.sl a 2 es c]) N') ?_ ?_
 ·exact key 0 N (Nat.le_refl _) (by omega)
 ·intro i hlt _ m N' hN' hm
  simp only [t3] at hm
  refine vz _ _ _ _ _ _ ?_
  repeat' first|with_reducible intro _|simp only[hlt,Y1,Y2,Y3,Y4]|(with_reducible first|refine X1 ?_ ?_|refine X2 ?_ ?_|refine X3 ?_ ?_|refine X4 ?_ ?_|refine X5 ?_ ?_|refine X6 ?_ ?_|refine X7 ?_ ?_|refine X8 ?_ ?_|refine X9 ?_ ?_)|refine⟨_,_,_,rfl,?_⟩|refine⟨_,rfl,?_⟩|((with_reducible refine And.intro ?_ ?_);·first|omega|trivial|(show _=_;rfl)|((with_reducible refine And.intro ?_ ?_)<;>first|omega|trivial|(show _=_;rfl)))|fail
  rw [i64_in _ (by omega)]
  refine Qi (hQ _ (Nat.le_trans hN' (by assumption))) ?_
  simp only [Ty.dep]
  omega
 ·intro i x xs hat _ ih2 m N' hN' hm
  have hb:=hat.b
  have hxc:=wj hat.m
  simp only [t3] at hm
  refine vz _ _ _ _ _ _ ?_
  repeat' first|with_reducible intro _|simp only[hat.lt,hat.w,Int.toNat_natCast,Y1,Y2,Y3,Y4]|(with_reducible first|refine X1 ?_ ?_|refine X2 ?_ ?_|refine X3 ?_ ?_|refine X4 ?_ ?_|refine X5 ?_ ?_|refine X6 ?_ ?_|refine X7 ?_ ?_|refine X8 ?_ ?_|refine X9 ?_ ?_)|refine⟨_,_,_,rfl,?_⟩|refine⟨_,rfl,?_⟩|((with_reducible refine And.intro ?_ ?_);·first|omega|trivial|(show _=_;rfl)|((with_reducible refine And.intro ?_ ?_)<;>first|omega|trivial|(show _=_;rfl)))|refine (ih x hat.m _ hat.r (by omega)) _ _ ?_|refine (zCC _ _) _ _ ?_|fail
  have e:max (m:Int) (x.dep:Int)=((max m x.dep:Nat):Int):=by omega
  rw [e]
  exact ih2 _ _ (by omega) (by omega)
theorem zAX:∀ (t:Ty) (d:D),t.Is d→vE 110 [.dg 2 d] t.form:=by
 refine Ty.ind fun k l ih d hd N Q hQ=>?_
 obtain ⟨a,es,c,rfl,hlen,hes⟩:=Ty.is_mk.1 hd
 have hl:=hes.len
 refine zGe N _ Q fun _=>?_
 have key:=up hes hlen (fun i xs=>∀ (N':Nat),N≤N'→(∀ N'',N'≤N''→Q (tU xs&&pA k l.length) N'')→w5 Q N i (.ag [.lit (.int .i64 k),.sl a 2 es c]) N') ?_ ?_
 ·exact key N (Nat.le_refl _) hQ
 ·intro i hlt _ N' hN' hQ'
  refine qK _ _ _ _ _ ?_
  repeat' first|with_reducible intro _|simp only[hlt,Y1,Y2,Y3,Y4]|(with_reducible first|refine X1 ?_ ?_|refine X2 ?_ ?_|refine X3 ?_ ?_|refine X4 ?_ ?_|refine X5 ?_ ?_|refine X6 ?_ ?_|refine X7 ?_ ?_|refine X8 ?_ ?_|refine X9 ?_ ?_)|refine⟨_,_,_,rfl,?_⟩|refine⟨_,rfl,?_⟩|((with_reducible refine And.intro ?_ ?_);·first|omega|trivial|(show _=_;rfl)|((with_reducible refine And.intro ?_ ?_)<;>first|omega|trivial|(show _=_;rfl)))|fail
  all_goals (refine Qb (hQ' _ (by assumption)) ?_;simp [tU,pA, *])
 ·intro i x xs hat _ ih2 N' hN' hQ'
  have hb:=hat.b
  refine qK _ _ _ _ _ ?_
  repeat' first|with_reducible intro _|simp only[hat.lt,hat.w,Int.toNat_natCast,Y1,Y2,Y3,Y4]|(with_reducible first|refine X1 ?_ ?_|refine X2 ?_ ?_|refine X3 ?_ ?_|refine X4 ?_ ?_|refine X5 ?_ ?_|refine X6 ?_ ?_|refine X7 ?_ ?_|refine X8 ?_ ?_|refine X9 ?_ ?_)|refine⟨_,_,_,rfl,?_⟩|refine⟨_,rfl,?_⟩|((with_reducible refine And.intro ?_ ?_);·first|omega|trivial|(show _=_;rfl)|((with_reducible refine And.intro ?_ ?_)<;>first|omega|trivial|(show _=_;rfl)))|refine (ih x hat.m _ hat.r) _ _ ?_|fail
  ·refine Qb (hQ' _ (by omega)) ?_;simp [tU, *]
  ·exact ih2 _ (by omega) fun N'' h=>Qb (hQ' N'' (by omega)) (by simp [tU, *])
theorem xj (t:Ty) (d:D) (hd:t.Is d) (hc:t.cnt≤1073741824):vE 78 [.dg 2 d] t.valid:=fun N Q hQ=>by
 refine zAO N _ Q fun _=>?_
 by_cases h30:t.cnt≤30
 ·have h1:((t.cnt:Int)≤30):=by omega
  repeat' first|with_reducible intro _|simp only[if_pos h1,Y1,Y2,Y3,Y4]|(with_reducible first|refine X1 ?_ ?_|refine X2 ?_ ?_|refine X3 ?_ ?_|refine X4 ?_ ?_|refine X5 ?_ ?_|refine X6 ?_ ?_|refine X7 ?_ ?_|refine X8 ?_ ?_|refine X9 ?_ ?_)|refine⟨_,_,_,rfl,?_⟩|refine⟨_,rfl,?_⟩|((with_reducible refine And.intro ?_ ?_);·first|omega|trivial|(show _=_;rfl)|((with_reducible refine And.intro ?_ ?_)<;>first|omega|trivial|(show _=_;rfl)))|refine (zBD t d hd _ (by omega) (by omega)) _ _ ?_|refine (tN t d hd hc) _ _ ?_|refine (zAX t d hd) _ _ ?_|fail
  all_goals first | omega | skip
  ·have h8:t.dep≤8:=by omega
   refine Qb (hQ _ (by omega)) ?_;simp [Ty.valid, *]
  ·have h8:¬t.dep≤8:=by omega
   refine Qb (hQ _ (by omega)) ?_;simp [Ty.valid, *]
 ·have h1:¬((t.cnt:Int)≤30):=by omega
  repeat' first|with_reducible intro _|simp only[if_neg h1,Y1,Y2,Y3,Y4]|(with_reducible first|refine X1 ?_ ?_|refine X2 ?_ ?_|refine X3 ?_ ?_|refine X4 ?_ ?_|refine X5 ?_ ?_|refine X6 ?_ ?_|refine X7 ?_ ?_|refine X8 ?_ ?_|refine X9 ?_ ?_)|refine⟨_,_,_,rfl,?_⟩|refine⟨_,rfl,?_⟩|((with_reducible refine And.intro ?_ ?_);·first|omega|trivial|(show _=_;rfl)|((with_reducible refine And.intro ?_ ?_)<;>first|omega|trivial|(show _=_;rfl)))|refine (zBD t d hd _ (by omega) (by omega)) _ _ ?_|refine (tN t d hd hc) _ _ ?_|refine (zAX t d hd) _ _ ?_|fail
  all_goals first | omega | skip
  refine Qb (hQ _ (by omega)) ?_;simp [Ty.valid, *]
/-- returns this type, in memory of its own -/
def zCR (f:FuncId) (args:List PV) (t:Ty):Prop:=∀ (N:Nat) (Q:QT [.ag 2]),(∀ d' N',N≤N'→t.Is d'→Own N N' d'→Q d' N')→ACalls prog f [.ag 2] args N Q
def tInt:Ty:=.mk 1 []
def tBool:Ty:=.mk 2 []
def tZero:Ty:=.mk 0 []
def uy (a b:Ty):Ty:=.mk 3 [a,b]
def zCg (a:Ty):Ty:=.mk 4 [a]
def Ty.base (t:Ty):Bool:=(t.k==1||t.k==2)&&(t.as.length:Int)==0
theorem sJ (k:Int):(Ty.mk k []).Is (.ag [.lit (.int .i64 k),.sl none 2 [] 0]):=Ty.is_mk.2 ⟨_,_,_,rfl,by simp,rfl⟩
theorem yV {N N':Nat} {x:Value}:Own N N' (.ag [.lit x,.sl none 2 [] 0]):=⟨by simp [D.foot,zB],⟨trivial,⟨by simp,trivial⟩,trivial⟩,by simp [D.foot,zB],by simp [D.foot,zB]⟩
theorem s5:∀ l:List Ty,l.length≤zO l
 | []=>Nat.le_refl _
 | .mk k l::ts=>by simp only [zO,Ty.cnt,List.length_cons];have:=s5 ts;omega
theorem xW:∀ (t u:Ty) (d e:D),t.Is d→u.Is e→vE 53 [.dg 2 d,.dg 2 e] (uu t u):=by
 refine Ty.ind fun k l ih u d e hd he N Q hQ=>?_
 cases u with
 | mk k' l'=>
 obtain ⟨a,es,c,rfl,hlen,hes⟩:=Ty.is_mk.1 hd
 obtain ⟨a',es',c',rfl,hlen',hes'⟩:=Ty.is_mk.1 he
 have hl:=hes.len
 have hl':=hes'.len
 simp only [uu] at hQ
 have key:l.length=l'.length→∀ (N':Nat),N≤N'→(∀ N'',N'≤N''→Q (vq l (l'.drop 0)) N'')→ym Q N (0:Nat) (.ag [.lit (.int .i64 k),.sl a 2 es c]) (.ag [.lit (.int .i64 k'),.sl a' 2 es' c']) N':=by
  intro hll
  refine up hes hlen (fun i xs=>∀ (N':Nat),N≤N'→(∀ N'',N'≤N''→Q (vq xs (l'.drop i)) N'')→ym Q N i (.ag [.lit (.int .i64 k),.sl a 2 es c]) (.ag [.lit (.int .i64 k'),.sl a' 2 es' c']) N') ?_ ?_
  ·intro i hlt hi N' hN' hQ'
   refine tH _ _ _ _ _ _ ?_
   repeat' first|with_reducible intro _|simp only[hlt,Y1,Y2,Y3,Y4]|(with_reducible first|refine X1 ?_ ?_|refine X2 ?_ ?_|refine X3 ?_ ?_|refine X4 ?_ ?_|refine X5 ?_ ?_|refine X6 ?_ ?_|refine X7 ?_ ?_|refine X8 ?_ ?_|refine X9 ?_ ?_)|refine⟨_,_,_,rfl,?_⟩|refine⟨_,rfl,?_⟩|((with_reducible refine And.intro ?_ ?_);·first|omega|trivial|(show _=_;rfl)|((with_reducible refine And.intro ?_ ?_)<;>first|omega|trivial|(show _=_;rfl)))|fail
   refine Qb (hQ' _ (by assumption)) ?_
   rw [List.drop_eq_nil_of_le (by omega)]
   rfl
  ·intro i x xs hat _ ih2 N' hN' hQ'
   have hb:=hat.b
   have hi':i<l'.length:=by omega
   have hg:l'[i]?=some l'[i]:=List.getElem?_eq_getElem hi'
   have hd':l'.drop i=l'[i]::l'.drop (i+1):=List.drop_eq_getElem_cons hi'
   refine tH _ _ _ _ _ _ ?_
   rw [hd'] at hQ'
   repeat' first|with_reducible intro _|simp only[hat.lt,hat.w,Int.toNat_natCast,Y1,Y2,Y3,Y4]|(with_reducible first|refine X1 ?_ ?_|refine X2 ?_ ?_|refine X3 ?_ ?_|refine X4 ?_ ?_|refine X5 ?_ ?_|refine X6 ?_ ?_|refine X7 ?_ ?_|refine X8 ?_ ?_|refine X9 ?_ ?_)|refine⟨_,_,_,rfl,?_⟩|refine⟨_,rfl,?_⟩|((with_reducible refine And.intro ?_ ?_);·first|omega|trivial|(show _=_;rfl)|((with_reducible refine And.intro ?_ ?_)<;>first|omega|trivial|(show _=_;rfl)))|refine (ih x hat.m _ _ _ hat.r (hes'.get hg)) _ _ ?_|fail
   ·exact Qb (hQ' _ (by omega)) (by simp [vq, *])
   ·exact ih2 _ (by omega) fun N'' h=>Qb (hQ' N'' (by omega)) (by simp [vq, *])
 refine zCY N _ _ Q fun _ _=>?_
 repeat' first|with_reducible intro _|simp only[Y1,Y2,Y3,Y4]|(with_reducible first|refine X1 ?_ ?_|refine X2 ?_ ?_|refine X3 ?_ ?_|refine X4 ?_ ?_|refine X5 ?_ ?_|refine X6 ?_ ?_|refine X7 ?_ ?_|refine X8 ?_ ?_|refine X9 ?_ ?_)|refine⟨_,_,_,rfl,?_⟩|refine⟨_,rfl,?_⟩|((with_reducible refine And.intro ?_ ?_);·first|omega|trivial|(show _=_;rfl)|((with_reducible refine And.intro ?_ ?_)<;>first|omega|trivial|(show _=_;rfl)))|fail
 ·exact Qb (hQ _ (by assumption)) (by simp [*])
 ·exact Qb (hQ _ (by assumption)) (by rw [zA5 (by omega),Bool.and_false])
 ·exact key (by omega) N (Nat.le_refl _) fun N'' hN''=>Qb (hQ _ hN'') (by simp [*])
theorem sZ (t:Ty) (d:D) (hd:t.Is d):vE 71 [.dg 2 d] t.base:=fun N Q hQ=>by
 cases t with
 | mk k l=>
 obtain ⟨a,es,c,rfl,hlen,hes⟩:=Ty.is_mk.1 hd
 have hl:=hes.len
 refine zHo N _ Q fun _=>?_
 repeat' first|with_reducible intro _|simp only[Y1,Y2,Y3,Y4]|(with_reducible first|refine X1 ?_ ?_|refine X2 ?_ ?_|refine X3 ?_ ?_|refine X4 ?_ ?_|refine X5 ?_ ?_|refine X6 ?_ ?_|refine X7 ?_ ?_|refine X8 ?_ ?_|refine X9 ?_ ?_)|refine⟨_,_,_,rfl,?_⟩|refine⟨_,rfl,?_⟩|((with_reducible refine And.intro ?_ ?_);·first|omega|trivial|(show _=_;rfl)|((with_reducible refine And.intro ?_ ?_)<;>first|omega|trivial|(show _=_;rfl)))|fail
 all_goals refine Qb (hQ _ (by assumption)) ?_
 all_goals simp [Ty.base,Ty.k,Ty.as,hl, *]
theorem zCF:zCR 103 [] tInt:=fun N Q hQ=>zJS N Q fun N' hN'=>hQ _ _ hN' (sJ _) yV
theorem zAb:zCR 104 [] tBool:=fun N Q hQ=>zHX N Q fun N' hN'=>hQ _ _ hN' (sJ _) yV
theorem wi {α:Type} {l:List α} {i:Nat} {x:α} (h:l[i]?=some x):l.take (i+1)=l.take i++[x]:=by
 rw [List.take_add_one,h];rfl
theorem yI:∀ (t:Ty) (d:D),t.Is d→t.cnt≤1073741824→zCR 54 [.dg 2 d] t:=by
 refine Ty.ind fun k l ih d hd hc N Q hQ=>?_
 obtain ⟨a,es,c,rfl,hlen,hes⟩:=Ty.is_mk.1 hd
 have hl:=hes.len
 simp only [Ty.cnt] at hc
 have hlc:=s5 l
 refine zHh N _ Q fun _=>⟨_,rfl,?_⟩
 have key:=up hes hlen (fun i xs=>∀ (N':Nat),N≤N'→(i=0→uj Q N i (.ag [.lit (.int .i64 k),.sl a 2 es c]) 0 none [] 0 k none [] 0 N')∧∀ (m q:Nat) (r:List D),m=r.length→All2 Ty.Is (l.take i) r→OwnL N N' r →
  xf Q N i (.ag [.lit (.int .i64 k),.sl a 2 es c]) 0 none [] 0 k m q r q N') ?_ ?_
 ·exact (key N (Nat.le_refl _)).1 rfl
 ·intro i hlt hi N' hN'
  refine ⟨fun h0=>qO _ _ _ _ _ _ _ _ _ _ _ _ _ ?_,fun m q r hm hr ho=>tE _ _ _ _ _ _ _ _ _ _ _ _ _ _ ?_⟩
  ·repeat' first|with_reducible intro _|simp only[hlt,Y1,Y2,Y3,Y4]|(with_reducible first|refine X1 ?_ ?_|refine X2 ?_ ?_|refine X3 ?_ ?_|refine X4 ?_ ?_|refine X5 ?_ ?_|refine X6 ?_ ?_|refine X7 ?_ ?_|refine X8 ?_ ?_|refine X9 ?_ ?_)|refine⟨_,_,_,rfl,?_⟩|refine⟨_,rfl,?_⟩|((with_reducible refine And.intro ?_ ?_);·first|omega|trivial|(show _=_;rfl)|((with_reducible refine And.intro ?_ ?_)<;>first|omega|trivial|(show _=_;rfl)))|fail
   have:l=[]:=List.eq_nil_of_length_eq_zero (by omega)
   subst this
   exact hQ _ _ (by omega) (sJ _) yV
  ·repeat' first|with_reducible intro _|simp only[hlt,Y1,Y2,Y3,Y4]|(with_reducible first|refine X1 ?_ ?_|refine X2 ?_ ?_|refine X3 ?_ ?_|refine X4 ?_ ?_|refine X5 ?_ ?_|refine X6 ?_ ?_|refine X7 ?_ ?_|refine X8 ?_ ?_|refine X9 ?_ ?_)|refine⟨_,_,_,rfl,?_⟩|refine⟨_,rfl,?_⟩|((with_reducible refine And.intro ?_ ?_);·first|omega|trivial|(show _=_;rfl)|((with_reducible refine And.intro ?_ ?_)<;>first|omega|trivial|(show _=_;rfl)))|fail
   rename_i a' N3 hN3 hf N4 hN4
   rw [List.take_of_length_le (by omega)] at hr
   exact hQ _ _ (by omega) (Ty.is_mk.2 ⟨_,_,_,rfl,by have:=hr.len;omega,hr⟩) (zA1 (wA (yG ((rP ho hf (by omega)).mono (Nat.le_refl _) hN4))))
 ·intro i x xs hat _ ih2 N' hN'
  have hb:=hat.b
  have hxc:=wj hat.m
  refine ⟨fun h0=>qO _ _ _ _ _ _ _ _ _ _ _ _ _ ?_,fun m q r hm hr ho=>tE _ _ _ _ _ _ _ _ _ _ _ _ _ _ ?_⟩
  ·repeat' first|with_reducible intro _|simp only[hat.lt,hat.w,Int.toNat_natCast,Y1,Y2,Y3,Y4]|(with_reducible first|refine X1 ?_ ?_|refine X2 ?_ ?_|refine X3 ?_ ?_|refine X4 ?_ ?_|refine X5 ?_ ?_|refine X6 ?_ ?_|refine X7 ?_ ?_|refine X8 ?_ ?_|refine X9 ?_ ?_)|refine⟨_,_,_,rfl,?_⟩|refine⟨_,rfl,?_⟩|((with_reducible refine And.intro ?_ ?_);·first|omega|trivial|(show _=_;rfl)|((with_reducible refine And.intro ?_ ?_)<;>first|omega|trivial|(show _=_;rfl)))|refine (ih x hat.m _ hat.r (by omega)) _ _ ?_|fail
   rename_i N2 hN2 d' N3 hN3 hx hox hle hbel
   subst h0
   exact ⟨by unfold zC;simp,fun c2=>(ih2 _ (by omega)).2 _ _ _ rfl (by rw [wi hat.g];exact ⟨_,_,rfl,hx,rfl⟩) (yG (hox.mono (by omega) (Nat.le_refl _)))⟩
  ·repeat' first|with_reducible intro _|simp only[hat.lt,hat.w,Int.toNat_natCast,Y1,Y2,Y3,Y4]|(with_reducible first|refine X1 ?_ ?_|refine X2 ?_ ?_|refine X3 ?_ ?_|refine X4 ?_ ?_|refine X5 ?_ ?_|refine X6 ?_ ?_|refine X7 ?_ ?_|refine X8 ?_ ?_|refine X9 ?_ ?_)|refine⟨_,_,_,rfl,?_⟩|refine⟨_,rfl,?_⟩|((with_reducible refine And.intro ?_ ?_);·first|omega|trivial|(show _=_;rfl)|((with_reducible refine And.intro ?_ ?_)<;>first|omega|trivial|(show _=_;rfl)))|refine (ih x hat.m _ hat.r (by omega)) _ _ ?_|fail
   rename_i N2 hN2 d' N3 hN3 hx hox hle hbel
   have hrl:=hr.len
   have hli:(l.take i).length=i:=by rw [List.length_take];omega
   refine ⟨by unfold zC;simp only [List.length_append,List.length_singleton];omega,fun c2=>?_⟩
   exact (ih2 _ (by omega)).2 _ _ _ rfl (by rw [wi hat.g];exact hr.snoc hx) (yB (ho.mono (Nat.le_refl _) hN2) (yG hox) (by omega) hN3)
theorem ru (t u:Ty) (d e:D) (hd:t.Is d) (he:u.Is e) (hct:t.cnt≤1073741824) (hcu:u.cnt≤1073741824):zCR 132 [.dg 2 d,.dg 2 e] (uy t u):=fun N Q hQ=>by
 refine zJR N _ _ Q fun _ _=>?_
 repeat' first|with_reducible intro _|simp only[Y1,Y2,Y3,Y4]|(with_reducible first|refine X1 ?_ ?_|refine X2 ?_ ?_|refine X3 ?_ ?_|refine X4 ?_ ?_|refine X5 ?_ ?_|refine X6 ?_ ?_|refine X7 ?_ ?_|refine X8 ?_ ?_|refine X9 ?_ ?_)|refine⟨_,_,_,rfl,?_⟩|refine⟨_,rfl,?_⟩|((with_reducible refine And.intro ?_ ?_);·first|omega|trivial|(show _=_;rfl)|((with_reducible refine And.intro ?_ ?_)<;>first|omega|trivial|(show _=_;rfl)))|refine (yI t d hd hct) _ _ ?_|refine (yI u e he hcu) _ _ ?_|fail
 rename_i N1 hN1 d1 N2 hN2 h1 o1 hl1 b1 N3 hN3 d2 N4 hN4 h2 o2 hl2 b2 a' N5 hN5 hf N6 hN6
 exact hQ _ _ (by omega) (Ty.is_mk.2 ⟨_,_,_,rfl,by simp,_,_,rfl,h1,_,_,rfl,h2,rfl⟩)
  (zA1 (wA (yG ((rP (yB ((yG o1).mono hN1 hN3) (yG o2) (by omega) hN4) hf (by omega)).mono (Nat.le_refl _) hN6))))
theorem zGc (t:Ty) (d:D) (hd:t.Is d) (hct:t.cnt≤1073741824):zCR 135 [.dg 2 d] (zCg t):=fun N Q hQ=>by
 refine zHl N _ Q fun _=>?_
 repeat' first|with_reducible intro _|simp only[Y1,Y2,Y3,Y4]|(with_reducible first|refine X1 ?_ ?_|refine X2 ?_ ?_|refine X3 ?_ ?_|refine X4 ?_ ?_|refine X5 ?_ ?_|refine X6 ?_ ?_|refine X7 ?_ ?_|refine X8 ?_ ?_|refine X9 ?_ ?_)|refine⟨_,_,_,rfl,?_⟩|refine⟨_,rfl,?_⟩|((with_reducible refine And.intro ?_ ?_);·first|omega|trivial|(show _=_;rfl)|((with_reducible refine And.intro ?_ ?_)<;>first|omega|trivial|(show _=_;rfl)))|refine (yI t d hd hct) _ _ ?_|fail
 rename_i N1 hN1 d1 N2 hN2 h1 o1 hl1 b1 a' N5 hN5 hf N6 hN6
 exact hQ _ _ (by omega) (Ty.is_mk.2 ⟨_,_,_,rfl,by simp,_,_,rfl,h1,rfl⟩)
  (zA1 (wA (yG ((rP ((yG o1).mono hN1 (Nat.le_refl _)) hf (by omega)).mono (Nat.le_refl _) hN6))))
theorem upN {n:Nat} (hn:n≤4611686018427387904) (P:Nat→Prop) (hend:decide ((n:Int)<(n:Int))=false→P n)
  (hstep:∀ i:Nat,i<n→decide ((i:Int)<(n:Int))=true→IntKind.i64.wrap ((i:Int)+1)=((i+1:Nat):Int)→P (i+1)→P i):P 0:=by
 have key : ∀ (m i:Nat),i+m=n→P i:=by
  intro m
  induction m with
  | zero => intro i h;have:i=n:=by omega
            subst this;exact hend (by simp)
  | succ m ih=>intro i h;exact hstep i (by omega) (decide_eq_true (by omega)) (by rw [i64_in _ (by omega)];simp) (ih (i+1) (by omega))
 exact key n 0 (by omega)
abbrev zCH (s:ByteArray) (i:Nat):Int:=((s.data.getD i (OfNat.ofNat 0)).toNat:Int)
def zFm (s:ByteArray) (i:Nat):Bool:=(decide (zCH s i≥97)&&decide (zCH s i≤122))||(!(decide ((i:Int)=0))&&(!(decide (zCH s i<48))&&!(decide (zCH s i>57))))
def tF (s:ByteArray) (i:Nat):Bool:=(List.range' i (s.size - i)).all (zFm s)
theorem zAp {s:ByteArray} {i:Nat} (h:i<s.size):tF s i=(zFm s i&&tF s (i+1)):=by
 unfold tF
 rw [show s.size - i=(s.size - (i+1))+1 by omega,List.range'_succ]
 rfl
theorem zCI {s:ByteArray}:tF s s.size=true:=by simp [tF]
def zGJ (s:ByteArray):Bool:=inB s.size 1 4&&(!(decide (s=bytes [105,102]))&&(!(decide (s=bytes [108,101,116]))&&(!(decide (s=bytes [114,101,99]))&&(!(decide (s=bytes [114,117,110]))&&!(decide (s=bytes [108,105,102,116]))))))
def tx (s:ByteArray):Bool:=tF s 0&&zGJ s
theorem s7 (s:ByteArray) (hs:s.size≤4611686018427387904):vE 70 [.str s] (tx s):=fun N Q hQ=>by
 refine zHi N s Q ?_
 have key:=upN hs (fun i=>∀ N',N≤N'→(∀ N'',N'≤N''→Q (tF s i&&zGJ s) N'')→y8 Q N s i N') ?_ ?_
 ·exact key N (Nat.le_refl _) hQ
 ·intro hlt N' hN' hQ'
  refine qS _ _ _ _ _ ?_
  repeat' first|with_reducible intro _|simp only[hlt,Y1,Y2,Y3,Y4]|(with_reducible first|refine X1 ?_ ?_|refine X2 ?_ ?_|refine X3 ?_ ?_|refine X4 ?_ ?_|refine X5 ?_ ?_|refine X6 ?_ ?_|refine X7 ?_ ?_|refine X8 ?_ ?_|refine X9 ?_ ?_)|refine⟨_,_,_,rfl,?_⟩|refine⟨_,rfl,?_⟩|((with_reducible refine And.intro ?_ ?_);·first|omega|trivial|(show _=_;rfl)|((with_reducible refine And.intro ?_ ?_)<;>first|omega|trivial|(show _=_;rfl)))|refine (zAD _ _ _) _ _ ?_|fail
  all_goals (refine Qb (hQ' _ (by omega)) ?_;rw [zCI])
  all_goals simp [zGJ,zDA, *]
 ·intro i hi hlt hw ih2 N' hN' hQ'
  refine qS _ _ _ _ _ ?_
  rw [zAp hi] at hQ'
  repeat' first|with_reducible intro _|simp only[hlt,hw,Int.toNat_natCast,Y1,Y2,Y3,Y4]|(with_reducible first|refine X1 ?_ ?_|refine X2 ?_ ?_|refine X3 ?_ ?_|refine X4 ?_ ?_|refine X5 ?_ ?_|refine X6 ?_ ?_|refine X7 ?_ ?_|refine X8 ?_ ?_|refine X9 ?_ ?_)|refine⟨_,_,_,rfl,?_⟩|refine⟨_,rfl,?_⟩|((with_reducible refine And.intro ?_ ?_);·first|omega|trivial|(show _=_;rfl)|((with_reducible refine And.intro ?_ ?_)<;>first|omega|trivial|(show _=_;rfl)))|fail
  all_goals first
   | (refine Qb (hQ' _ (by omega)) ?_;unfold zFm zCH;simp only [*];simp;done)
   | (refine ih2 _ (by omega) fun N'' h=>Qb (hQ' N'' (by omega)) ?_;unfold zFm zCH;simp only [*];simp;done)
end Go.Proofs.YtnpjpplbkoammaaGreat
