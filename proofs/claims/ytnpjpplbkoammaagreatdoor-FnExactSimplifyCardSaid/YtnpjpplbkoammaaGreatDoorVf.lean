/- Types: the reference's functions. -/
import Derived.Test.YtnpjpplbkoammaaGreatDoorVa
import Derived.Test.YtnpjpplbkoammaaGreatDoorKs
set_option linter.unusedVariables false
set_option linter.unusedSimpArgs false
namespace Go.Proofs.YtnpjpplbkoammaaGreatDoor
open Go Go.Proofs Go.Proofs.Tryz Go.IntWalk
def inB (n a b:Int):Bool:=decide (a≤n)&&decide (n≤b)
theorem vY (n a b:Int):wU 52 [.int .i64 n,.int .i64 a,.int .i64 b] (inB n a b):=fun N Q hQ=>by
 refine zHx N n a b Q ?_
 repeat' first|with_reducible intro _|simp only[Y1,Y2,Y3,Y4]|(with_reducible first|refine X1 ?_ ?_|refine X2 ?_ ?_|refine X3 ?_ ?_|refine X4 ?_ ?_|refine X5 ?_ ?_|refine X6 ?_ ?_|refine X7 ?_ ?_|refine X8 ?_ ?_|refine X9 ?_ ?_)|refine⟨_,_,_,rfl,?_⟩|refine⟨_,rfl,?_⟩|((with_reducible refine And.intro ?_ ?_);·first|omega|trivial|(show _=_;rfl)|((with_reducible refine And.intro ?_ ?_)<;>first|omega|trivial|(show _=_;rfl)))|fail
 all_goals simpa [inB, *] using hQ _ (by omega)
theorem zHI (a b:Int):zAa 187 [.int .i64 a,.int .i64 b] (max a b):=fun N Q hQ=>by
 refine zGW N a b Q ?_
 repeat' first|with_reducible intro _|simp only[Y1,Y2,Y3,Y4]|(with_reducible first|refine X1 ?_ ?_|refine X2 ?_ ?_|refine X3 ?_ ?_|refine X4 ?_ ?_|refine X5 ?_ ?_|refine X6 ?_ ?_|refine X7 ?_ ?_|refine X8 ?_ ?_|refine X9 ?_ ?_)|refine⟨_,_,_,rfl,?_⟩|refine⟨_,rfl,?_⟩|((with_reducible refine And.intro ?_ ?_);·first|omega|trivial|(show _=_;rfl)|((with_reducible refine And.intro ?_ ?_)<;>first|omega|trivial|(show _=_;rfl)))|fail
 ·have:=hQ _ (by assumption)
  rwa [Int.max_eq_left (by omega)] at this
 ·have:=hQ _ (by assumption)
  rwa [Int.max_eq_right (by omega)] at this
mutual
def Ty.dep:Ty→Nat
 | .mk _ l=>tU l+1
def tU:List Ty→Nat
 | []=>0
 | t::ts=>max t.dep (tU ts)
end
mutual
theorem Ty.dep_cnt:∀ t:Ty,t.dep≤t.cnt
 | .mk _ l=>by simp only [Ty.dep,Ty.cnt];have:=rG l;omega
theorem rG:∀ l:List Ty,tU l≤zG l
 | []=>Nat.le_refl _
 | t::ts=>by simp only [tU,zG];have:=t.dep_cnt;have:=rG ts;omega
end
theorem wN:∀ {l:List Ty} {t:Ty},t∈l→t.cnt≤zG l
 | u::us,t,h=>by
   simp only [zG]
   rcases List.mem_cons.1 h with rfl | h
   ·omega
   ·have:=wN h;omega
def zGD (k:Int) (n:Nat):Bool:=if k=1∨k=2 then (n:Int)==0 else if k=3 then (n:Int)==2 else if k=4 then (n:Int)==1 else false
mutual
def Ty.form:Ty→Bool
 | .mk k l=>tu l&&zGD k l.length
def tu:List Ty→Bool
 | []=>true
 | t::ts=>t.form&&tu ts
end
def Ty.valid (t:Ty):Bool:=decide (t.cnt≤30)&&decide (t.dep≤8)&&t.form
theorem qV:∀ (t:Ty) (d:D),t.Is d→∀ n:Int,0≤n→n≤1000→zAa 169 [.dg 2 d,.int .i64 n] (if (t.cnt:Int)≤n then n - t.cnt else -1):=by
 refine Ty.ind fun k l ih d hd n hn0 hn1 N Q hQ=>?_
 obtain ⟨a,es,c,rfl,hlen,hes⟩:=Ty.is_mk.1 hd
 refine zFk N _ n Q fun _=>?_
 have key:=up hes hlen (fun i xs=>∀ (m:Int) (N':Nat),N≤N' → -1≤m→m≤1000→(∀ N'',N'≤N''→Q (if m<0 then -1 else if (zG xs:Int)≤m then m - zG xs else -1) N'') →
  wJ Q N m i (.ag [.lit (.int .i64 k),.sl a 2 es c]) N') ?_ ?_
 ·rw [i64_in _ (by omega)]
  refine key (n - 1) N (Nat.le_refl _) (by omega) (by omega) fun N' hN'=>Qi (hQ N' hN') ?_
  simp only [Ty.cnt]
  (repeat' split)<;>omega
 ·intro i hlt _ m N' hN' h1 h2 hQ'
  refine tj _ _ _ _ _ _ ?_
  repeat' first|with_reducible intro _|simp only[hlt,Y1,Y2,Y3,Y4]|(with_reducible first|refine X1 ?_ ?_|refine X2 ?_ ?_|refine X3 ?_ ?_|refine X4 ?_ ?_|refine X5 ?_ ?_|refine X6 ?_ ?_|refine X7 ?_ ?_|refine X8 ?_ ?_|refine X9 ?_ ?_)|refine⟨_,_,_,rfl,?_⟩|refine⟨_,rfl,?_⟩|((with_reducible refine And.intro ?_ ?_);·first|omega|trivial|(show _=_;rfl)|((with_reducible refine And.intro ?_ ?_)<;>first|omega|trivial|(show _=_;rfl)))|fail
  refine Qi (hQ' _ (by assumption)) ?_
  simp only [zG]
  (repeat' split)<;>omega
 ·intro i x xs hat _ ih2 m N' hN' h1 h2 hQ'
  have hb:=hat.b
  refine tj _ _ _ _ _ _ ?_
  repeat' first|with_reducible intro _|simp only[hat.lt,hat.w,Int.toNat_natCast,Y1,Y2,Y3,Y4]|(with_reducible first|refine X1 ?_ ?_|refine X2 ?_ ?_|refine X3 ?_ ?_|refine X4 ?_ ?_|refine X5 ?_ ?_|refine X6 ?_ ?_|refine X7 ?_ ?_|refine X8 ?_ ?_|refine X9 ?_ ?_)|refine⟨_,_,_,rfl,?_⟩|refine⟨_,rfl,?_⟩|((with_reducible refine And.intro ?_ ?_);·first|omega|trivial|(show _=_;rfl)|((with_reducible refine And.intro ?_ ?_)<;>first|omega|trivial|(show _=_;rfl)))|refine (ih x hat.m _ hat.r m (by omega) (by omega)) _ _ ?_|fail
  ·refine ih2 _ _ (by omega) (by split<;>omega) (by split<;>omega) fun N'' hN''=>Qi (hQ' N'' (by omega)) ?_
   simp only [zG]
   (repeat' split)<;>omega
  ·refine Qi (hQ' _ (by assumption)) ?_
   rw [if_pos (by omega)]
   omega
theorem uF:∀ (t:Ty) (d:D),t.Is d→t.cnt≤1073741824→zAa 170 [.dg 2 d] t.dep:=by
 refine Ty.ind fun k l ih d hd hc N Q hQ=>?_
 obtain ⟨a,es,c,rfl,hlen,hes⟩:=Ty.is_mk.1 hd
 refine pJ N _ Q fun _=>?_
 simp only [Ty.cnt] at hc
 have hdl:=rG l
 have key:=up hes hlen (fun i xs=>∀ (m:Nat) (N':Nat),N≤N'→max m (tU xs)=tU l→yT Q N (m:Int) i (.ag [.lit (.int .i64 k),.sl a 2 es c]) N') ?_ ?_
 ·exact key 0 N (Nat.le_refl _) (by omega)
 ·intro i hlt _ m N' hN' hm
  simp only [tU] at hm
  refine w7 _ _ _ _ _ _ ?_
  repeat' first|with_reducible intro _|simp only[hlt,Y1,Y2,Y3,Y4]|(with_reducible first|refine X1 ?_ ?_|refine X2 ?_ ?_|refine X3 ?_ ?_|refine X4 ?_ ?_|refine X5 ?_ ?_|refine X6 ?_ ?_|refine X7 ?_ ?_|refine X8 ?_ ?_|refine X9 ?_ ?_)|refine⟨_,_,_,rfl,?_⟩|refine⟨_,rfl,?_⟩|((with_reducible refine And.intro ?_ ?_);·first|omega|trivial|(show _=_;rfl)|((with_reducible refine And.intro ?_ ?_)<;>first|omega|trivial|(show _=_;rfl)))|fail
  rw [i64_in _ (by omega)]
  refine Qi (hQ _ (Nat.le_trans hN' (by assumption))) ?_
  simp only [Ty.dep]
  omega
 ·intro i x xs hat _ ih2 m N' hN' hm
  have hb:=hat.b
  have hxc:=wN hat.m
  simp only [tU] at hm
  refine w7 _ _ _ _ _ _ ?_
  repeat' first|with_reducible intro _|simp only[hat.lt,hat.w,Int.toNat_natCast,Y1,Y2,Y3,Y4]|(with_reducible first|refine X1 ?_ ?_|refine X2 ?_ ?_|refine X3 ?_ ?_|refine X4 ?_ ?_|refine X5 ?_ ?_|refine X6 ?_ ?_|refine X7 ?_ ?_|refine X8 ?_ ?_|refine X9 ?_ ?_)|refine⟨_,_,_,rfl,?_⟩|refine⟨_,rfl,?_⟩|((with_reducible refine And.intro ?_ ?_);·first|omega|trivial|(show _=_;rfl)|((with_reducible refine And.intro ?_ ?_)<;>first|omega|trivial|(show _=_;rfl)))|refine (ih x hat.m _ hat.r (by omega)) _ _ ?_|refine (zHI _ _) _ _ ?_|fail
  have e:max (m:Int) (x.dep:Int)=((max m x.dep:Nat):Int):=by omega
  rw [e]
  exact ih2 _ _ (by omega) (by omega)
theorem qK:∀ (t:Ty) (d:D),t.Is d→wU 171 [.dg 2 d] t.form:=by
 refine Ty.ind fun k l ih d hd N Q hQ=>?_
 obtain ⟨a,es,c,rfl,hlen,hes⟩:=Ty.is_mk.1 hd
 have hl:=hes.len
 refine zF4 N _ Q fun _=>?_
 have key:=up hes hlen (fun i xs=>∀ (N':Nat),N≤N'→(∀ N'',N'≤N''→Q (tu xs&&zGD k l.length) N'')→wG Q N i (.ag [.lit (.int .i64 k),.sl a 2 es c]) N') ?_ ?_
 ·exact key N (Nat.le_refl _) hQ
 ·intro i hlt _ N' hN' hQ'
  refine sU _ _ _ _ _ ?_
  repeat' first|with_reducible intro _|simp only[hlt,Y1,Y2,Y3,Y4]|(with_reducible first|refine X1 ?_ ?_|refine X2 ?_ ?_|refine X3 ?_ ?_|refine X4 ?_ ?_|refine X5 ?_ ?_|refine X6 ?_ ?_|refine X7 ?_ ?_|refine X8 ?_ ?_|refine X9 ?_ ?_)|refine⟨_,_,_,rfl,?_⟩|refine⟨_,rfl,?_⟩|((with_reducible refine And.intro ?_ ?_);·first|omega|trivial|(show _=_;rfl)|((with_reducible refine And.intro ?_ ?_)<;>first|omega|trivial|(show _=_;rfl)))|fail
  all_goals (refine Qb (hQ' _ (by assumption)) ?_;simp [tu,zGD, *])
 ·intro i x xs hat _ ih2 N' hN' hQ'
  have hb:=hat.b
  refine sU _ _ _ _ _ ?_
  repeat' first|with_reducible intro _|simp only[hat.lt,hat.w,Int.toNat_natCast,Y1,Y2,Y3,Y4]|(with_reducible first|refine X1 ?_ ?_|refine X2 ?_ ?_|refine X3 ?_ ?_|refine X4 ?_ ?_|refine X5 ?_ ?_|refine X6 ?_ ?_|refine X7 ?_ ?_|refine X8 ?_ ?_|refine X9 ?_ ?_)|refine⟨_,_,_,rfl,?_⟩|refine⟨_,rfl,?_⟩|((with_reducible refine And.intro ?_ ?_);·first|omega|trivial|(show _=_;rfl)|((with_reducible refine And.intro ?_ ?_)<;>first|omega|trivial|(show _=_;rfl)))|refine (ih x hat.m _ hat.r) _ _ ?_|fail
  ·refine Qb (hQ' _ (by omega)) ?_;simp [tu, *]
  ·exact ih2 _ (by omega) fun N'' h=>Qb (hQ' N'' (by omega)) (by simp [tu, *])
theorem uN (t:Ty) (d:D) (hd:t.Is d) (hc:t.cnt≤1073741824):wU 133 [.dg 2 d] t.valid:=fun N Q hQ=>by
 refine qu N _ Q fun _=>?_
 by_cases h30:t.cnt≤30
 ·have h1:((t.cnt:Int)≤30):=by omega
  repeat' first|with_reducible intro _|simp only[if_pos h1,Y1,Y2,Y3,Y4]|(with_reducible first|refine X1 ?_ ?_|refine X2 ?_ ?_|refine X3 ?_ ?_|refine X4 ?_ ?_|refine X5 ?_ ?_|refine X6 ?_ ?_|refine X7 ?_ ?_|refine X8 ?_ ?_|refine X9 ?_ ?_)|refine⟨_,_,_,rfl,?_⟩|refine⟨_,rfl,?_⟩|((with_reducible refine And.intro ?_ ?_);·first|omega|trivial|(show _=_;rfl)|((with_reducible refine And.intro ?_ ?_)<;>first|omega|trivial|(show _=_;rfl)))|refine (qV t d hd _ (by omega) (by omega)) _ _ ?_|refine (uF t d hd hc) _ _ ?_|refine (qK t d hd) _ _ ?_|fail
  all_goals first | omega | skip
  ·have h8:t.dep≤8:=by omega
   refine Qb (hQ _ (by omega)) ?_;simp [Ty.valid, *]
  ·have h8:¬t.dep≤8:=by omega
   refine Qb (hQ _ (by omega)) ?_;simp [Ty.valid, *]
 ·have h1:¬((t.cnt:Int)≤30):=by omega
  repeat' first|with_reducible intro _|simp only[if_neg h1,Y1,Y2,Y3,Y4]|(with_reducible first|refine X1 ?_ ?_|refine X2 ?_ ?_|refine X3 ?_ ?_|refine X4 ?_ ?_|refine X5 ?_ ?_|refine X6 ?_ ?_|refine X7 ?_ ?_|refine X8 ?_ ?_|refine X9 ?_ ?_)|refine⟨_,_,_,rfl,?_⟩|refine⟨_,rfl,?_⟩|((with_reducible refine And.intro ?_ ?_);·first|omega|trivial|(show _=_;rfl)|((with_reducible refine And.intro ?_ ?_)<;>first|omega|trivial|(show _=_;rfl)))|refine (qV t d hd _ (by omega) (by omega)) _ _ ?_|refine (uF t d hd hc) _ _ ?_|refine (qK t d hd) _ _ ?_|fail
  all_goals first | omega | skip
  refine Qb (hQ _ (by omega)) ?_;simp [Ty.valid, *]
/-- returns this type, in memory of its own -/
def zQM (f:FuncId) (args:List PV) (t:Ty):Prop:=∀ (N:Nat) (Q:QT [.ag 2]),(∀ d' N',N≤N'→t.Is d'→Own N N' d'→Q d' N')→ACalls prog f [.ag 2] args N Q
def zPy:Ty:=.mk 1 []
def zP3:Ty:=.mk 2 []
def tZero:Ty:=.mk 0 []
def zQx (a b:Ty):Ty:=.mk 3 [a,b]
def zQq (a:Ty):Ty:=.mk 4 [a]
def Ty.base (t:Ty):Bool:=(t.k==1||t.k==2)&&(t.as.length:Int)==0
theorem zG4 (k:Int):(Ty.mk k []).Is (.ag [.lit (.int .i64 k),.sl none 2 [] 0]):=Ty.is_mk.2 ⟨_,_,_,rfl,by simp,rfl⟩
theorem zLW {N N':Nat} {x:Value}:Own N N' (.ag [.lit x,.sl none 2 [] 0]):=⟨by simp [D.foot,zB],⟨trivial,⟨by simp,trivial⟩,trivial⟩,by simp [D.foot,zB],by simp [D.foot,zB]⟩
theorem u5:∀ l:List Ty,l.length≤zG l
 | []=>Nat.le_refl _
 | .mk k l::ts=>by simp only [zG,Ty.cnt,List.length_cons];have:=u5 ts;omega
theorem wv {α:Type} {l:List α} {i:Nat} {x:α} (h:l[i]?=some x):l.take (i+1)=l.take i++[x]:=by
 rw [List.take_add_one,h];rfl
theorem qw:∀ (t:Ty) (d:D),t.Is d→t.cnt≤1073741824→zQM 65 [.dg 2 d] t:=by
 refine Ty.ind fun k l ih d hd hc N Q hQ=>?_
 obtain ⟨a,es,c,rfl,hlen,hes⟩:=Ty.is_mk.1 hd
 have hl:=hes.len
 simp only [Ty.cnt] at hc
 have hlc:=u5 l
 refine zEz N _ Q fun _=>⟨_,rfl,?_⟩
 have key:=up hes hlen (fun i xs=>∀ (N':Nat),N≤N'→(i=0→vV Q N i (.ag [.lit (.int .i64 k),.sl a 2 es c]) 0 none [] 0 k none [] 0 N')∧∀ (m q:Nat) (r:List D),m=r.length→All2 Ty.Is (l.take i) r→OwnL N N' r →
  yo Q N i (.ag [.lit (.int .i64 k),.sl a 2 es c]) 0 none [] 0 k m q r q N') ?_ ?_
 ·exact (key N (Nat.le_refl _)).1 rfl
 ·intro i hlt hi N' hN'
  refine ⟨fun h0=>tn _ _ _ _ _ _ _ _ _ _ _ _ _ ?_,fun m q r hm hr ho=>v8 _ _ _ _ _ _ _ _ _ _ _ _ _ _ ?_⟩
  ·repeat' first|with_reducible intro _|simp only[hlt,Y1,Y2,Y3,Y4]|(with_reducible first|refine X1 ?_ ?_|refine X2 ?_ ?_|refine X3 ?_ ?_|refine X4 ?_ ?_|refine X5 ?_ ?_|refine X6 ?_ ?_|refine X7 ?_ ?_|refine X8 ?_ ?_|refine X9 ?_ ?_)|refine⟨_,_,_,rfl,?_⟩|refine⟨_,rfl,?_⟩|((with_reducible refine And.intro ?_ ?_);·first|omega|trivial|(show _=_;rfl)|((with_reducible refine And.intro ?_ ?_)<;>first|omega|trivial|(show _=_;rfl)))|fail
   have:l=[]:=List.eq_nil_of_length_eq_zero (by omega)
   subst this
   exact hQ _ _ (by omega) (zG4 _) zLW
  ·repeat' first|with_reducible intro _|simp only[hlt,Y1,Y2,Y3,Y4]|(with_reducible first|refine X1 ?_ ?_|refine X2 ?_ ?_|refine X3 ?_ ?_|refine X4 ?_ ?_|refine X5 ?_ ?_|refine X6 ?_ ?_|refine X7 ?_ ?_|refine X8 ?_ ?_|refine X9 ?_ ?_)|refine⟨_,_,_,rfl,?_⟩|refine⟨_,rfl,?_⟩|((with_reducible refine And.intro ?_ ?_);·first|omega|trivial|(show _=_;rfl)|((with_reducible refine And.intro ?_ ?_)<;>first|omega|trivial|(show _=_;rfl)))|fail
   rename_i a' N3 hN3 hf N4 hN4
   rw [List.take_of_length_le (by omega)] at hr
   exact hQ _ _ (by omega) (Ty.is_mk.2 ⟨_,_,_,rfl,by have:=hr.len;omega,hr⟩) (zGY (xv (wH ((zGr ho hf (by omega)).mono (Nat.le_refl _) hN4))))
 ·intro i x xs hat _ ih2 N' hN'
  have hb:=hat.b
  have hxc:=wN hat.m
  refine ⟨fun h0=>tn _ _ _ _ _ _ _ _ _ _ _ _ _ ?_,fun m q r hm hr ho=>v8 _ _ _ _ _ _ _ _ _ _ _ _ _ _ ?_⟩
  ·repeat' first|with_reducible intro _|simp only[hat.lt,hat.w,Int.toNat_natCast,Y1,Y2,Y3,Y4]|(with_reducible first|refine X1 ?_ ?_|refine X2 ?_ ?_|refine X3 ?_ ?_|refine X4 ?_ ?_|refine X5 ?_ ?_|refine X6 ?_ ?_|refine X7 ?_ ?_|refine X8 ?_ ?_|refine X9 ?_ ?_)|refine⟨_,_,_,rfl,?_⟩|refine⟨_,rfl,?_⟩|((with_reducible refine And.intro ?_ ?_);·first|omega|trivial|(show _=_;rfl)|((with_reducible refine And.intro ?_ ?_)<;>first|omega|trivial|(show _=_;rfl)))|refine (ih x hat.m _ hat.r (by omega)) _ _ ?_|fail
   rename_i N2 hN2 d' N3 hN3 hx hox hle hbel
   subst h0
   exact ⟨by unfold zK;simp,fun c2=>(ih2 _ (by omega)).2 _ _ _ rfl (by rw [wv hat.g];exact ⟨_,_,rfl,hx,rfl⟩) (wH (hox.mono (by omega) (Nat.le_refl _)))⟩
  ·repeat' first|with_reducible intro _|simp only[hat.lt,hat.w,Int.toNat_natCast,Y1,Y2,Y3,Y4]|(with_reducible first|refine X1 ?_ ?_|refine X2 ?_ ?_|refine X3 ?_ ?_|refine X4 ?_ ?_|refine X5 ?_ ?_|refine X6 ?_ ?_|refine X7 ?_ ?_|refine X8 ?_ ?_|refine X9 ?_ ?_)|refine⟨_,_,_,rfl,?_⟩|refine⟨_,rfl,?_⟩|((with_reducible refine And.intro ?_ ?_);·first|omega|trivial|(show _=_;rfl)|((with_reducible refine And.intro ?_ ?_)<;>first|omega|trivial|(show _=_;rfl)))|refine (ih x hat.m _ hat.r (by omega)) _ _ ?_|fail
   rename_i N2 hN2 d' N3 hN3 hx hox hle hbel
   have hrl:=hr.len
   have hli:(l.take i).length=i:=by rw [List.length_take];omega
   refine ⟨by unfold zK;simp only [List.length_append,List.length_singleton];omega,fun c2=>?_⟩
   exact (ih2 _ (by omega)).2 _ _ _ rfl (by rw [wv hat.g];exact hr.snoc hx) (yc (ho.mono (Nat.le_refl _) hN2) (wH hox) (by omega) hN3)
theorem upN {n:Nat} (hn:n≤4611686018427387904) (P:Nat→Prop) (hend:decide ((n:Int)<(n:Int))=false→P n)
  (hstep:∀ i:Nat,i<n→decide ((i:Int)<(n:Int))=true→IntKind.i64.wrap ((i:Int)+1)=((i+1:Nat):Int)→P (i+1)→P i):P 0:=by
 have key : ∀ (m i:Nat),i+m=n→P i:=by
  intro m
  induction m with
  | zero => intro i h;have:i=n:=by omega
            subst this;exact hend (by simp)
  | succ m ih=>intro i h;exact hstep i (by omega) (decide_eq_true (by omega)) (by rw [i64_in _ (by omega)];simp) (ih (i+1) (by omega))
 exact key n 0 (by omega)
abbrev zAX (s:ByteArray) (i:Nat):Int:=((s.data.getD i (OfNat.ofNat 0)).toNat:Int)
def zEI (s:ByteArray) (i:Nat):Bool:=(decide (zAX s i≥97)&&decide (zAX s i≤122))||(!(decide ((i:Int)=0))&&(!(decide (zAX s i<48))&&!(decide (zAX s i>57))))
def uA (s:ByteArray) (i:Nat):Bool:=(List.range' i (s.size - i)).all (zEI s)
theorem qm {s:ByteArray} {i:Nat} (h:i<s.size):uA s i=(zEI s i&&uA s (i+1)):=by
 unfold uA
 rw [show s.size - i=(s.size - (i+1))+1 by omega,List.range'_succ]
 rfl
theorem zAU {s:ByteArray}:uA s s.size=true:=by simp [uA]
def zD9 (s:ByteArray):Bool:=inB s.size 1 4&&(!(decide (s=bytes [105,102]))&&(!(decide (s=bytes [108,101,116]))&&(!(decide (s=bytes [114,101,99]))&&(!(decide (s=bytes [114,117,110]))&&!(decide (s=bytes [108,105,102,116]))))))
def rd (s:ByteArray):Bool:=uA s 0&&zD9 s
theorem qW (s:ByteArray) (hs:s.size≤4611686018427387904):wU 172 [.str s] (rd s):=fun N Q hQ=>by
 refine zFZ N s Q ?_
 have key:=upN hs (fun i=>∀ N',N≤N'→(∀ N'',N'≤N''→Q (uA s i&&zD9 s) N'')→yY Q N s i N') ?_ ?_
 ·exact key N (Nat.le_refl _) hQ
 ·intro hlt N' hN' hQ'
  refine sH _ _ _ _ _ ?_
  repeat' first|with_reducible intro _|simp only[hlt,Y1,Y2,Y3,Y4]|(with_reducible first|refine X1 ?_ ?_|refine X2 ?_ ?_|refine X3 ?_ ?_|refine X4 ?_ ?_|refine X5 ?_ ?_|refine X6 ?_ ?_|refine X7 ?_ ?_|refine X8 ?_ ?_|refine X9 ?_ ?_)|refine⟨_,_,_,rfl,?_⟩|refine⟨_,rfl,?_⟩|((with_reducible refine And.intro ?_ ?_);·first|omega|trivial|(show _=_;rfl)|((with_reducible refine And.intro ?_ ?_)<;>first|omega|trivial|(show _=_;rfl)))|refine (vY _ _ _) _ _ ?_|fail
  all_goals (refine Qb (hQ' _ (by omega)) ?_;rw [zAU])
  all_goals simp [zD9,rC, *]
 ·intro i hi hlt hw ih2 N' hN' hQ'
  refine sH _ _ _ _ _ ?_
  rw [qm hi] at hQ'
  repeat' first|with_reducible intro _|simp only[hlt,hw,Int.toNat_natCast,Y1,Y2,Y3,Y4]|(with_reducible first|refine X1 ?_ ?_|refine X2 ?_ ?_|refine X3 ?_ ?_|refine X4 ?_ ?_|refine X5 ?_ ?_|refine X6 ?_ ?_|refine X7 ?_ ?_|refine X8 ?_ ?_|refine X9 ?_ ?_)|refine⟨_,_,_,rfl,?_⟩|refine⟨_,rfl,?_⟩|((with_reducible refine And.intro ?_ ?_);·first|omega|trivial|(show _=_;rfl)|((with_reducible refine And.intro ?_ ?_)<;>first|omega|trivial|(show _=_;rfl)))|fail
  all_goals first
   | (refine Qb (hQ' _ (by omega)) ?_;unfold zEI zAX;simp only [*];simp;done)
   | (refine ih2 _ (by omega) fun N'' h=>Qb (hQ' N'' (by omega)) ?_;unfold zEI zAX;simp only [*];simp;done)
end Go.Proofs.YtnpjpplbkoammaaGreatDoor
