/- Types: the reference's functions. -/
import Derived.Test.YtmfjakahanbnlaaGreatDoorA1
import Derived.Test.YtmfjakahanbnlaaGreatDoorKs
set_option linter.unusedVariables false
set_option linter.unusedSimpArgs false
namespace Go.Proofs.YtmfjakahanbnlaaGreatDoor
open Go Go.Proofs Go.Proofs.Tryz Go.IntWalk
def inB (n a b:Int):Bool:=decide (a<=n)&&decide (n<=b)
theorem qv (n a b:Int):tW 63 [.int .i64 n,.int .i64 a,.int .i64 b] (inB n a b):=fun N Q hQ=>by
 refine zDg N n a b Q ?_
 repeat' first|with_reducible intro _|simp only[Y1,Y2,Y3,Y4]|with_reducible refine X ?_ ?_|refine⟨_,_,_,rfl,?_⟩|refine⟨_,rfl,?_⟩|refine And.intro (by first|omega|trivial|(show _=_;rfl)|(with_reducible constructor)<;>first|omega|trivial|rfl) ?_|fail
 all_goals simpa [inB, *] using hQ _ (by omega)
theorem zC5 (a b:Int):zCJ 274 [.int .i64 a,.int .i64 b] (max a b):=fun N Q hQ=>by
 refine zC4 N a b Q ?_
 repeat' first|with_reducible intro _|simp only[Y1,Y2,Y3,Y4]|with_reducible refine X ?_ ?_|refine⟨_,_,_,rfl,?_⟩|refine⟨_,rfl,?_⟩|refine And.intro (by first|omega|trivial|(show _=_;rfl)|(with_reducible constructor)<;>first|omega|trivial|rfl) ?_|fail
 ·have:=hQ _ (by assumption)
  rwa [Int.max_eq_left (by omega)] at this
 ·have:=hQ _ (by assumption)
  rwa [Int.max_eq_right (by omega)] at this
mutual
def Ty.dep:Ty->Nat
 | .mk _ l=>vQ l+1
def vQ:List Ty->Nat
 | []=>0
 | t::ts=>max t.dep (vQ ts)
end
mutual
theorem Ty.dep_cnt:∀ t:Ty,t.dep<=t.cnt
 | .mk _ l=>by simp only [Ty.dep,Ty.cnt];have:=uW l;omega
theorem uW:∀ l:List Ty,vQ l<=yb l
 | []=>oF _
 | t::ts=>by simp only [vQ,yb];have:=t.dep_cnt;have:=uW ts;omega
end
theorem xY:∀ {l:List Ty} {t:Ty},t∈l->t.cnt<=yb l
 | u::us,t,h=>by
   simp only [yb]
   rcases oI.1 h with rfl | h
   ·omega
   ·have:=xY h;omega
def p7 (k:Int) (n:Nat):Bool:=if k=1\/k=2 then (n:Int)==0 else if k=3 then (n:Int)==2 else if k=4 then (n:Int)==1 else false
mutual
def Ty.form:Ty->Bool
 | .mk k l=>wq l&&p7 k l.length
def wq:List Ty->Bool
 | []=>true
 | t::ts=>t.form&&wq ts
end
def Ty.valid (t:Ty):Bool:=decide (t.cnt<=30)&&decide (t.dep<=8)&&t.form
theorem tz:∀ (t:Ty) (d:D),t.Is d->∀ n:Int,0<=n->n<=1000->zCJ 230 [.dg 2 d,.int .i64 n] (if (t.cnt:Int)<=n then n - t.cnt else -1):=by
 refine Ty.ind fun k l ih d hd n hn0 hn1 N Q hQ=>?_
 obtain ⟨a,es,c,rfl,hlen,hes⟩:=Ty.is_mk.1 hd
 refine zBf N _ n Q fun _=>?_
 have key:=up hes hlen (fun i xs=>∀ (m:Int) (N':Nat),N<=N' -> -1<=m->m<=1000->(∀ N'',N'<=N''->Q (if m<0 then -1 else if (yb xs:Int)<=m then m - yb xs else -1) N'') ->
  xO Q N m i (.ag [.lit (.int .i64 k),.sl a 2 es c]) N') ?_ ?_
 ·rw [i64_in _ (by omega)]
  refine key (n - 1) N (oF _) (by omega) (by omega) fun N' hN'=>Qi (hQ N' hN') ?_
  simp only [Ty.cnt]
  (repeat' split)<;>omega
 ·intro i hlt _ m N' hN' h1 h2 hQ'
  refine uA _ _ _ _ _ _ ?_
  repeat' first|with_reducible intro _|simp only[hlt,Y1,Y2,Y3,Y4]|with_reducible refine X ?_ ?_|refine⟨_,_,_,rfl,?_⟩|refine⟨_,rfl,?_⟩|refine And.intro (by first|omega|trivial|(show _=_;rfl)|(with_reducible constructor)<;>first|omega|trivial|rfl) ?_|fail
  refine Qi (hQ' _ (by assumption)) ?_
  simp only [yb]
  (repeat' split)<;>omega
 ·intro i x xs hat _ ih2 m N' hN' h1 h2 hQ'
  have hb:=hat.b
  refine uA _ _ _ _ _ _ ?_
  repeat' first|with_reducible intro _|simp only[hat.lt,hat.w,oJ,Y1,Y2,Y3,Y4]|with_reducible refine X ?_ ?_|refine⟨_,_,_,rfl,?_⟩|refine⟨_,rfl,?_⟩|refine And.intro (by first|omega|trivial|(show _=_;rfl)|(with_reducible constructor)<;>first|omega|trivial|rfl) ?_|refine (ih x hat.m _ hat.r m (by omega) (by omega)) _ _ ?_|fail
  ·refine ih2 _ _ (by omega) (by split<;>omega) (by split<;>omega) fun N'' hN''=>Qi (hQ' N'' (by omega)) ?_
   simp only [yb]
   (repeat' split)<;>omega
  ·refine Qi (hQ' _ (by assumption)) ?_
   rw [if_pos (by omega)]
   omega
theorem wd:∀ (t:Ty) (d:D),t.Is d->t.cnt<=1073741824->zCJ 231 [.dg 2 d] t.dep:=by
 refine Ty.ind fun k l ih d hd hc N Q hQ=>?_
 obtain ⟨a,es,c,rfl,hlen,hes⟩:=Ty.is_mk.1 hd
 refine tu N _ Q fun _=>?_
 simp only [Ty.cnt] at hc
 have hdl:=uW l
 have key:=up hes hlen (fun i xs=>∀ (m:Nat) (N':Nat),N<=N'->max m (vQ xs)=vQ l->zu Q N (m:Int) i (.ag [.lit (.int .i64 k),.sl a 2 es c]) N') ?_ ?_
 ·exact key 0 N (oF _) (by omega)
 ·intro i hlt _ m N' hN' hm
  simp only [vQ] at hm
  refine xq _ _ _ _ _ _ ?_
  repeat' first|with_reducible intro _|simp only[hlt,Y1,Y2,Y3,Y4]|with_reducible refine X ?_ ?_|refine⟨_,_,_,rfl,?_⟩|refine⟨_,rfl,?_⟩|refine And.intro (by first|omega|trivial|(show _=_;rfl)|(with_reducible constructor)<;>first|omega|trivial|rfl) ?_|fail
  rw [i64_in _ (by omega)]
  refine Qi (hQ _ (ol hN' (by assumption))) ?_
  simp only [Ty.dep]
  omega
 ·intro i x xs hat _ ih2 m N' hN' hm
  have hb:=hat.b
  have hxc:=xY hat.m
  simp only [vQ] at hm
  refine xq _ _ _ _ _ _ ?_
  repeat' first|with_reducible intro _|simp only[hat.lt,hat.w,oJ,Y1,Y2,Y3,Y4]|with_reducible refine X ?_ ?_|refine⟨_,_,_,rfl,?_⟩|refine⟨_,rfl,?_⟩|refine And.intro (by first|omega|trivial|(show _=_;rfl)|(with_reducible constructor)<;>first|omega|trivial|rfl) ?_|refine (ih x hat.m _ hat.r (by omega)) _ _ ?_|refine (zC5 _ _) _ _ ?_|fail
  have e:max (m:Int) (x.dep:Int)=((max m x.dep:Nat):Int):=by omega
  rw [e]
  exact ih2 _ _ (by omega) (by omega)
theorem sR:∀ (t:Ty) (d:D),t.Is d->tW 232 [.dg 2 d] t.form:=by
 refine Ty.ind fun k l ih d hd N Q hQ=>?_
 obtain ⟨a,es,c,rfl,hlen,hes⟩:=Ty.is_mk.1 hd
 have hl:=hes.len
 refine zBr N _ Q fun _=>?_
 have key:=up hes hlen (fun i xs=>∀ (N':Nat),N<=N'->(∀ N'',N'<=N''->Q (wq xs&&p7 k l.length) N'')->xR Q N i (.ag [.lit (.int .i64 k),.sl a 2 es c]) N') ?_ ?_
 ·exact key N (oF _) hQ
 ·intro i hlt _ N' hN' hQ'
  refine vz _ _ _ _ _ ?_
  repeat' first|with_reducible intro _|simp only[hlt,Y1,Y2,Y3,Y4]|with_reducible refine X ?_ ?_|refine⟨_,_,_,rfl,?_⟩|refine⟨_,rfl,?_⟩|refine And.intro (by first|omega|trivial|(show _=_;rfl)|(with_reducible constructor)<;>first|omega|trivial|rfl) ?_|fail
  all_goals (refine Qb (hQ' _ (by assumption)) ?_;simp [wq,p7, *])
 ·intro i x xs hat _ ih2 N' hN' hQ'
  have hb:=hat.b
  refine vz _ _ _ _ _ ?_
  repeat' first|with_reducible intro _|simp only[hat.lt,hat.w,oJ,Y1,Y2,Y3,Y4]|with_reducible refine X ?_ ?_|refine⟨_,_,_,rfl,?_⟩|refine⟨_,rfl,?_⟩|refine And.intro (by first|omega|trivial|(show _=_;rfl)|(with_reducible constructor)<;>first|omega|trivial|rfl) ?_|refine (ih x hat.m _ hat.r) _ _ ?_|fail
  ·refine Qb (hQ' _ (by omega)) ?_;simp [wq, *]
  ·exact ih2 _ (by omega) fun N'' h=>Qb (hQ' N'' (by omega)) (by simp [wq, *])
theorem we (t:Ty) (d:D) (hd:t.Is d) (hc:t.cnt<=1073741824):tW 167 [.dg 2 d] t.valid:=fun N Q hQ=>by
 refine tk N _ Q fun _=>?_
 by_cases h30:t.cnt<=30
 ·have h1:((t.cnt:Int)<=30):=by omega
  repeat' first|with_reducible intro _|simp only[if_pos h1,Y1,Y2,Y3,Y4]|with_reducible refine X ?_ ?_|refine⟨_,_,_,rfl,?_⟩|refine⟨_,rfl,?_⟩|refine And.intro (by first|omega|trivial|(show _=_;rfl)|(with_reducible constructor)<;>first|omega|trivial|rfl) ?_|refine (tz t d hd _ (by omega) (by omega)) _ _ ?_|refine (wd t d hd hc) _ _ ?_|refine (sR t d hd) _ _ ?_|fail
  all_goals first | omega | skip
  ·have h8:t.dep<=8:=by omega
   refine Qb (hQ _ (by omega)) ?_;simp [Ty.valid, *]
  ·have h8:¬t.dep<=8:=by omega
   refine Qb (hQ _ (by omega)) ?_;simp [Ty.valid, *]
 ·have h1:¬((t.cnt:Int)<=30):=by omega
  repeat' first|with_reducible intro _|simp only[if_neg h1,Y1,Y2,Y3,Y4]|with_reducible refine X ?_ ?_|refine⟨_,_,_,rfl,?_⟩|refine⟨_,rfl,?_⟩|refine And.intro (by first|omega|trivial|(show _=_;rfl)|(with_reducible constructor)<;>first|omega|trivial|rfl) ?_|refine (tz t d hd _ (by omega) (by omega)) _ _ ?_|refine (wd t d hd hc) _ _ ?_|refine (sR t d hd) _ _ ?_|fail
  all_goals first | omega | skip
  refine Qb (hQ _ (by omega)) ?_;simp [Ty.valid, *]
/-- returns this type, in memory of its own -/
def zLg (f:FuncId) (args:List PV) (t:Ty):Prop:=∀ (N:Nat) (Q:QT [.ag 2]),(∀ d' N',N<=N'->t.Is d'->Own N N' d'->Q d' N')->ACalls prog f [.ag 2] args N Q
def zLy:Ty:=.mk 1 []
def zLX:Ty:=.mk 2 []
def tZero:Ty:=.mk 0 []
def zKO (a b:Ty):Ty:=.mk 3 [a,b]
def zF4 (a:Ty):Ty:=.mk 4 [a]
def Ty.base (t:Ty):Bool:=(t.k==1||t.k==2)&&(t.as.length:Int)==0
theorem zGi (k:Int):(Ty.mk k []).Is (.ag [.lit (.int .i64 k),.sl none 2 [] 0]):=Ty.is_mk.2 ⟨_,_,_,rfl,by simp,rfl⟩
theorem zHC {N N':Nat} {x:Value}:Own N N' (.ag [.lit x,.sl none 2 [] 0]):=⟨by simp [D.foot,zM],⟨trivial,⟨by simp,trivial⟩,trivial⟩,by simp [D.foot,zM],by simp [D.foot,zM]⟩
theorem vG:∀ l:List Ty,l.length<=yb l
 | []=>oF _
 | .mk k l::ts=>by simp only [yb,Ty.cnt,oR];have:=vG ts;omega
theorem vq {α:Type} {l:List α} {i:Nat} {x:α} (h:l[i]?=some x):l.take (i+1)=l.take i++[x]:=by
 rw [List.take_add_one,h];rfl
theorem tq:∀ (t:Ty) (d:D),t.Is d->t.cnt<=1073741824->zLg 141 [.dg 2 d] t:=by
 refine Ty.ind fun k l ih d hd hc N Q hQ=>?_
 obtain ⟨a,es,c,rfl,hlen,hes⟩:=Ty.is_mk.1 hd
 have hl:=hes.len
 simp only [Ty.cnt] at hc
 have hlc:=vG l
 refine zBq N _ Q fun _=>⟨_,rfl,?_⟩
 have key:=up hes hlen (fun i xs=>∀ (N':Nat),N<=N'->(i=0->wN Q N i (.ag [.lit (.int .i64 k),.sl a 2 es c]) 0 none [] 0 k none [] 0 N')/\∀ (m q:Nat) (r:List D),m=r.length->All2 Ty.Is (l.take i) r->OwnL N N' r ->
  yK Q N i (.ag [.lit (.int .i64 k),.sl a 2 es c]) 0 none [] 0 k m q r q N') ?_ ?_
 ·exact (key N (oF _)).1 rfl
 ·intro i hlt hi N' hN'
  refine ⟨fun h0=>uP _ _ _ _ _ _ _ _ _ _ _ _ _ ?_,fun m q r hm hr ho=>wb _ _ _ _ _ _ _ _ _ _ _ _ _ _ ?_⟩
  ·repeat' first|with_reducible intro _|simp only[hlt,Y1,Y2,Y3,Y4]|with_reducible refine X ?_ ?_|refine⟨_,_,_,rfl,?_⟩|refine⟨_,rfl,?_⟩|refine And.intro (by first|omega|trivial|(show _=_;rfl)|(with_reducible constructor)<;>first|omega|trivial|rfl) ?_|fail
   have:l=[]:=oX (by omega)
   subst this
   exact hQ _ _ (by omega) (zGi _) zHC
  ·repeat' first|with_reducible intro _|simp only[hlt,Y1,Y2,Y3,Y4]|with_reducible refine X ?_ ?_|refine⟨_,_,_,rfl,?_⟩|refine⟨_,rfl,?_⟩|refine And.intro (by first|omega|trivial|(show _=_;rfl)|(with_reducible constructor)<;>first|omega|trivial|rfl) ?_|fail
   rename_i a' N3 hN3 hf N4 hN4
   rw [nH (by omega)] at hr
   exact hQ _ _ (by omega) (Ty.is_mk.2 ⟨_,_,_,rfl,by have:=hr.len;omega,hr⟩) (zE3 (vL (xe ((zDC ho hf (by omega)).mono (oF _) hN4))))
 ·intro i x xs hat _ ih2 N' hN'
  have hb:=hat.b
  have hxc:=xY hat.m
  refine ⟨fun h0=>uP _ _ _ _ _ _ _ _ _ _ _ _ _ ?_,fun m q r hm hr ho=>wb _ _ _ _ _ _ _ _ _ _ _ _ _ _ ?_⟩
  ·repeat' first|with_reducible intro _|simp only[hat.lt,hat.w,oJ,Y1,Y2,Y3,Y4]|with_reducible refine X ?_ ?_|refine⟨_,_,_,rfl,?_⟩|refine⟨_,rfl,?_⟩|refine And.intro (by first|omega|trivial|(show _=_;rfl)|(with_reducible constructor)<;>first|omega|trivial|rfl) ?_|refine (ih x hat.m _ hat.r (by omega)) _ _ ?_|fail
   rename_i N2 hN2 d' N3 hN3 hx hox hle hbel
   subst h0
   exact ⟨by unfold zC;simp,fun c2=>(ih2 _ (by omega)).2 _ _ _ rfl (by rw [vq hat.g];exact ⟨_,_,rfl,hx,rfl⟩) (xe (hox.mono (by omega) (oF _)))⟩
  ·repeat' first|with_reducible intro _|simp only[hat.lt,hat.w,oJ,Y1,Y2,Y3,Y4]|with_reducible refine X ?_ ?_|refine⟨_,_,_,rfl,?_⟩|refine⟨_,rfl,?_⟩|refine And.intro (by first|omega|trivial|(show _=_;rfl)|(with_reducible constructor)<;>first|omega|trivial|rfl) ?_|refine (ih x hat.m _ hat.r (by omega)) _ _ ?_|fail
   rename_i N2 hN2 d' N3 hN3 hx hox hle hbel
   have hrl:=hr.len
   have hli:(l.take i).length=i:=by rw [nB];omega
   refine ⟨by unfold zC;simp only [oH,me];omega,fun c2=>?_⟩
   exact (ih2 _ (by omega)).2 _ _ _ rfl (by rw [vq hat.g];exact hr.snoc hx) (y3 (ho.mono (oF _) hN2) (xe hox) (by omega) hN3)
theorem upN {n:Nat} (hn:n<=4611686018427387904) (P:Nat->Prop) (hend:decide ((n:Int)<(n:Int))=false->P n)
  (hstep:∀ i:Nat,i<n->decide ((i:Int)<(n:Int))=true->IntKind.i64.wrap ((i:Int)+1)=((i+1:Nat):Int)->P (i+1)->P i):P 0:=by
 have key : ∀ (m i:Nat),i+m=n->P i:=by
  intro m
  induction m with
  | zero => intro i h;have:i=n:=by omega
            subst this;exact hend (by simp)
  | succ m ih=>intro i h;exact hstep i (by omega) (decide_eq_true (by omega)) (by rw [i64_in _ (by omega)];simp) (ih (i+1) (by omega))
 exact key n 0 (by omega)
abbrev rS (s:ByteArray) (i:Nat):Int:=((s.data.getD i (OfNat.ofNat 0)).toNat:Int)
def zAY (s:ByteArray) (i:Nat):Bool:=(decide (rS s i≥97)&&decide (rS s i<=122))||(!(decide ((i:Int)=0))&&(!(decide (rS s i<48))&&!(decide (rS s i>57))))
def wg (s:ByteArray) (i:Nat):Bool:=(List.range' i (s.size - i)).all (zAY s)
theorem ta {s:ByteArray} {i:Nat} (h:i<s.size):wg s i=(zAY s i&&wg s (i+1)):=by
 unfold wg
 rw [show s.size - i=(s.size - (i+1))+1 by omega,List.range'_succ]
 rfl
theorem rV {s:ByteArray}:wg s s.size=true:=by simp [wg]
def qW (s:ByteArray):Bool:=inB s.size 1 4&&(!(decide (s=bytes [105,102]))&&(!(decide (s=bytes [108,101,116]))&&(!(decide (s=bytes [114,101,99]))&&(!(decide (s=bytes [114,117,110]))&&!(decide (s=bytes [108,105,102,116]))))))
def vf (s:ByteArray):Bool:=wg s 0&&qW s
theorem sK (s:ByteArray) (hs:s.size<=4611686018427387904):tW 233 [.str s] (vf s):=fun N Q hQ=>by
 refine zBb N s Q ?_
 have key:=upN hs (fun i=>∀ N',N<=N'->(∀ N'',N'<=N''->Q (wg s i&&qW s) N'')->zy Q N s i N') ?_ ?_
 ·exact key N (oF _) hQ
 ·intro hlt N' hN' hQ'
  refine uO _ _ _ _ _ ?_
  repeat' first|with_reducible intro _|simp only[hlt,Y1,Y2,Y3,Y4]|with_reducible refine X ?_ ?_|refine⟨_,_,_,rfl,?_⟩|refine⟨_,rfl,?_⟩|refine And.intro (by first|omega|trivial|(show _=_;rfl)|(with_reducible constructor)<;>first|omega|trivial|rfl) ?_|refine (qv _ _ _) _ _ ?_|fail
  all_goals (refine Qb (hQ' _ (by omega)) ?_;rw [rV])
  all_goals simp [qW,wc, *]
 ·intro i hi hlt hw ih2 N' hN' hQ'
  refine uO _ _ _ _ _ ?_
  rw [ta hi] at hQ'
  repeat' first|with_reducible intro _|simp only[hlt,hw,oJ,Y1,Y2,Y3,Y4]|with_reducible refine X ?_ ?_|refine⟨_,_,_,rfl,?_⟩|refine⟨_,rfl,?_⟩|refine And.intro (by first|omega|trivial|(show _=_;rfl)|(with_reducible constructor)<;>first|omega|trivial|rfl) ?_|fail
  all_goals first
   | (refine Qb (hQ' _ (by omega)) ?_;unfold zAY rS;simp only [*];simp;done)
   | (refine ih2 _ (by omega) fun N'' h=>Qb (hQ' N'' (by omega)) ?_;unfold zAY rS;simp only [*];simp;done)
end Go.Proofs.YtmfjakahanbnlaaGreatDoor
