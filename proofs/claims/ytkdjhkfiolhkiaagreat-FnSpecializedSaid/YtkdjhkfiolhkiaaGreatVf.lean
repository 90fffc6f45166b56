/- Types: the reference's functions. -/
import Derived.Test.YtkdjhkfiolhkiaaGreatVa
import Derived.Test.YtkdjhkfiolhkiaaGreatKs
set_option linter.unusedVariables false
set_option linter.unusedSimpArgs false
namespace Go.Proofs.YtkdjhkfiolhkiaaGreat
open Go Go.Proofs Go.Proofs.Tryz Go.IntWalk
def inB (n a b:Int):Bool:=decide (a<=n)&&decide (n<=b)
theorem xm (n a b:Int):wm 117 [.int .i64 n,.int .i64 a,.int .i64 b] (inB n a b):=fun N Q hQ=>by
 refine zIa N n a b Q ?_
 repeat' first|with_reducible intro _|simp only[Y1,Y2,Y3,Y4]|with_reducible refine X ?_ ?_|refine⟨_,_,_,rfl,?_⟩|refine⟨_,rfl,?_⟩|refine And.intro (by first|omega|trivial|(show _=_;rfl)|(with_reducible constructor)<;>first|omega|trivial|rfl) ?_|fail
 all_goals simpa [inB, *] using hQ _ (by omega)
theorem zA5 (a b:Int):tz 168 [.int .i64 a,.int .i64 b] (max a b):=fun N Q hQ=>by
 refine zHt N a b Q ?_
 repeat' first|with_reducible intro _|simp only[Y1,Y2,Y3,Y4]|with_reducible refine X ?_ ?_|refine⟨_,_,_,rfl,?_⟩|refine⟨_,rfl,?_⟩|refine And.intro (by first|omega|trivial|(show _=_;rfl)|(with_reducible constructor)<;>first|omega|trivial|rfl) ?_|fail
 ·have:=hQ _ (by assumption)
  rwa [Int.max_eq_left (by omega)] at this
 ·have:=hQ _ (by assumption)
  rwa [Int.max_eq_right (by omega)] at this
mutual
def Ty.dep:Ty->Nat
 | .mk _ l=>uo l+1
def uo:List Ty->Nat
 | []=>0
 | t::ts=>max t.dep (uo ts)
end
mutual
theorem Ty.dep_cnt:∀ t:Ty,t.dep<=t.cnt
 | .mk _ l=>by simp only [Ty.dep,Ty.cnt];have:=rF l;omega
theorem rF:∀ l:List Ty,uo l<=zO l
 | []=>oF _
 | t::ts=>by simp only [uo,zO];have:=t.dep_cnt;have:=rF ts;omega
end
theorem xk:∀ {l:List Ty} {t:Ty},t∈l->t.cnt<=zO l
 | u::us,t,h=>by
   simp only [zO]
   rcases oJ.1 h with rfl | h
   ·omega
   ·have:=xk h;omega
def rV (k:Int) (n:Nat):Bool:=if k=1\/k=2 then (n:Int)==0 else if k=3 then (n:Int)==2 else if k=4 then (n:Int)==1 else false
mutual
def Ty.form:Ty->Bool
 | .mk k l=>uJ l&&rV k l.length
def uJ:List Ty->Bool
 | []=>true
 | t::ts=>t.form&&uJ ts
end
def Ty.valid (t:Ty):Bool:=decide (t.cnt<=30)&&decide (t.dep<=8)&&t.form
theorem qh:∀ (t:Ty) (d:D),t.Is d->∀ n:Int,0<=n->n<=1000->tz 99 [.dg 2 d,.int .i64 n] (if (t.cnt:Int)<=n then n - t.cnt else -1):=by
 refine Ty.ind fun k l ih d hd n hn0 hn1 N Q hQ=>?_
 obtain ⟨a,es,c,rfl,hlen,hes⟩:=Ty.is_mk.1 hd
 refine zE1 N _ n Q fun _=>?_
 have key:=up hes hlen (fun i xs=>∀ (m:Int) (N':Nat),N<=N' -> -1<=m->m<=1000->(∀ N'',N'<=N''->Q (if m<0 then -1 else if (zO xs:Int)<=m then m - zO xs else -1) N'') ->
  wG Q N m i (.ag [.lit (.int .i64 k),.sl a 2 es c]) N') ?_ ?_
 ·rw [i64_in _ (by omega)]
  refine key (n - 1) N (oF _) (by omega) (by omega) fun N' hN'=>Qi (hQ N' hN') ?_
  simp only [Ty.cnt]
  (repeat' split)<;>omega
 ·intro i hlt _ m N' hN' h1 h2 hQ'
  refine sw _ _ _ _ _ _ ?_
  repeat' first|with_reducible intro _|simp only[hlt,Y1,Y2,Y3,Y4]|with_reducible refine X ?_ ?_|refine⟨_,_,_,rfl,?_⟩|refine⟨_,rfl,?_⟩|refine And.intro (by first|omega|trivial|(show _=_;rfl)|(with_reducible constructor)<;>first|omega|trivial|rfl) ?_|fail
  refine Qi (hQ' _ (by assumption)) ?_
  simp only [zO]
  (repeat' split)<;>omega
 ·intro i x xs hat _ ih2 m N' hN' h1 h2 hQ'
  have hb:=hat.b
  refine sw _ _ _ _ _ _ ?_
  repeat' first|with_reducible intro _|simp only[hat.lt,hat.w,oG,Y1,Y2,Y3,Y4]|with_reducible refine X ?_ ?_|refine⟨_,_,_,rfl,?_⟩|refine⟨_,rfl,?_⟩|refine And.intro (by first|omega|trivial|(show _=_;rfl)|(with_reducible constructor)<;>first|omega|trivial|rfl) ?_|refine (ih x hat.m _ hat.r m (by omega) (by omega)) _ _ ?_|fail
  ·refine ih2 _ _ (by omega) (by split<;>omega) (by split<;>omega) fun N'' hN''=>Qi (hQ' N'' (by omega)) ?_
   simp only [zO]
   (repeat' split)<;>omega
  ·refine Qi (hQ' _ (by assumption)) ?_
   rw [if_pos (by omega)]
   omega
theorem v3:∀ (t:Ty) (d:D),t.Is d->t.cnt<=1073741824->tz 100 [.dg 2 d] t.dep:=by
 refine Ty.ind fun k l ih d hd hc N Q hQ=>?_
 obtain ⟨a,es,c,rfl,hlen,hes⟩:=Ty.is_mk.1 hd
 refine qc N _ Q fun _=>?_
 simp only [Ty.cnt] at hc
 have hdl:=rF l
 have key:=up hes hlen (fun i xs=>∀ (m:Nat) (N':Nat),N<=N'->max m (uo xs)=uo l->yb Q N (m:Int) i (.ag [.lit (.int .i64 k),.sl a 2 es c]) N') ?_ ?_
 ·exact key 0 N (oF _) (by omega)
 ·intro i hlt _ m N' hN' hm
  simp only [uo] at hm
  refine wy _ _ _ _ _ _ ?_
  repeat' first|with_reducible intro _|simp only[hlt,Y1,Y2,Y3,Y4]|with_reducible refine X ?_ ?_|refine⟨_,_,_,rfl,?_⟩|refine⟨_,rfl,?_⟩|refine And.intro (by first|omega|trivial|(show _=_;rfl)|(with_reducible constructor)<;>first|omega|trivial|rfl) ?_|fail
  rw [i64_in _ (by omega)]
  refine Qi (hQ _ (od hN' (by assumption))) ?_
  simp only [Ty.dep]
  omega
 ·intro i x xs hat _ ih2 m N' hN' hm
  have hb:=hat.b
  have hxc:=xk hat.m
  simp only [uo] at hm
  refine wy _ _ _ _ _ _ ?_
  repeat' first|with_reducible intro _|simp only[hat.lt,hat.w,oG,Y1,Y2,Y3,Y4]|with_reducible refine X ?_ ?_|refine⟨_,_,_,rfl,?_⟩|refine⟨_,rfl,?_⟩|refine And.intro (by first|omega|trivial|(show _=_;rfl)|(with_reducible constructor)<;>first|omega|trivial|rfl) ?_|refine (ih x hat.m _ hat.r (by omega)) _ _ ?_|refine (zA5 _ _) _ _ ?_|fail
  have e:max (m:Int) (x.dep:Int)=((max m x.dep:Nat):Int):=by omega
  rw [e]
  exact ih2 _ _ (by omega) (by omega)
theorem pi:∀ (t:Ty) (d:D),t.Is d->wm 101 [.dg 2 d] t.form:=by
 refine Ty.ind fun k l ih d hd N Q hQ=>?_
 obtain ⟨a,es,c,rfl,hlen,hes⟩:=Ty.is_mk.1 hd
 have hl:=hes.len
 refine zFG N _ Q fun _=>?_
 have key:=up hes hlen (fun i xs=>∀ (N':Nat),N<=N'->(∀ N'',N'<=N''->Q (uJ xs&&rV k l.length) N'')->wD Q N i (.ag [.lit (.int .i64 k),.sl a 2 es c]) N') ?_ ?_
 ·exact key N (oF _) hQ
 ·intro i hlt _ N' hN' hQ'
  refine sP _ _ _ _ _ ?_
  repeat' first|with_reducible intro _|simp only[hlt,Y1,Y2,Y3,Y4]|with_reducible refine X ?_ ?_|refine⟨_,_,_,rfl,?_⟩|refine⟨_,rfl,?_⟩|refine And.intro (by first|omega|trivial|(show _=_;rfl)|(with_reducible constructor)<;>first|omega|trivial|rfl) ?_|fail
  all_goals (refine Qb (hQ' _ (by assumption)) ?_;simp [uJ,rV, *])
 ·intro i x xs hat _ ih2 N' hN' hQ'
  have hb:=hat.b
  refine sP _ _ _ _ _ ?_
  repeat' first|with_reducible intro _|simp only[hat.lt,hat.w,oG,Y1,Y2,Y3,Y4]|with_reducible refine X ?_ ?_|refine⟨_,_,_,rfl,?_⟩|refine⟨_,rfl,?_⟩|refine And.intro (by first|omega|trivial|(show _=_;rfl)|(with_reducible constructor)<;>first|omega|trivial|rfl) ?_|refine (ih x hat.m _ hat.r) _ _ ?_|fail
  ·refine Qb (hQ' _ (by omega)) ?_;simp [uJ, *]
  ·exact ih2 _ (by omega) fun N'' h=>Qb (hQ' N'' (by omega)) (by simp [uJ, *])
theorem y4 (t:Ty) (d:D) (hd:t.Is d) (hc:t.cnt<=1073741824):wm 34 [.dg 2 d] t.valid:=fun N Q hQ=>by
 refine pm N _ Q fun _=>?_
 by_cases h30:t.cnt<=30
 ·have h1:((t.cnt:Int)<=30):=by omega
  repeat' first|with_reducible intro _|simp only[if_pos h1,Y1,Y2,Y3,Y4]|with_reducible refine X ?_ ?_|refine⟨_,_,_,rfl,?_⟩|refine⟨_,rfl,?_⟩|refine And.intro (by first|omega|trivial|(show _=_;rfl)|(with_reducible constructor)<;>first|omega|trivial|rfl) ?_|refine (qh t d hd _ (by omega) (by omega)) _ _ ?_|refine (v3 t d hd hc) _ _ ?_|refine (pi t d hd) _ _ ?_|fail
  all_goals first | omega | skip
  ·have h8:t.dep<=8:=by omega
   refine Qb (hQ _ (by omega)) ?_;simp [Ty.valid, *]
  ·have h8:¬t.dep<=8:=by omega
   refine Qb (hQ _ (by omega)) ?_;simp [Ty.valid, *]
 ·have h1:¬((t.cnt:Int)<=30):=by omega
  repeat' first|with_reducible intro _|simp only[if_neg h1,Y1,Y2,Y3,Y4]|with_reducible refine X ?_ ?_|refine⟨_,_,_,rfl,?_⟩|refine⟨_,rfl,?_⟩|refine And.intro (by first|omega|trivial|(show _=_;rfl)|(with_reducible constructor)<;>first|omega|trivial|rfl) ?_|refine (qh t d hd _ (by omega) (by omega)) _ _ ?_|refine (v3 t d hd hc) _ _ ?_|refine (pi t d hd) _ _ ?_|fail
  all_goals first | omega | skip
  refine Qb (hQ _ (by omega)) ?_;simp [Ty.valid, *]
/-- returns this type, in memory of its own -/
def zBT (f:FuncId) (args:List PV) (t:Ty):Prop:=∀ (N:Nat) (Q:QT [.ag 2]),(∀ d' N',N<=N'->t.Is d'->Own N N' d'->Q d' N')->ACalls prog f [.ag 2] args N Q
def tInt:Ty:=.mk 1 []
def tBool:Ty:=.mk 2 []
def tZero:Ty:=.mk 0 []
def vJ (a b:Ty):Ty:=.mk 3 [a,b]
def pJ (a:Ty):Ty:=.mk 4 [a]
def Ty.base (t:Ty):Bool:=(t.k==1||t.k==2)&&(t.as.length:Int)==0
theorem xV (k:Int):(Ty.mk k []).Is (.ag [.lit (.int .i64 k),.sl none 2 [] 0]):=Ty.is_mk.2 ⟨_,_,_,rfl,by simp,rfl⟩
theorem yB {N N':Nat} {x:Value}:Own N N' (.ag [.lit x,.sl none 2 [] 0]):=⟨by simp [D.foot,zD],⟨trivial,⟨by simp,trivial⟩,trivial⟩,by simp [D.foot,zD],by simp [D.foot,zD]⟩
theorem qG:∀ l:List Ty,l.length<=zO l
 | []=>oF _
 | .mk k l::ts=>by simp only [zO,Ty.cnt,oH];have:=qG ts;omega
theorem xe:∀ (t u:Ty) (d e:D),t.Is d->u.Is e->wm 107 [.dg 2 d,.dg 2 e] (ut t u):=by
 refine Ty.ind fun k l ih u d e hd he N Q hQ=>?_
 cases u with
 | mk k' l'=>
 obtain ⟨a,es,c,rfl,hlen,hes⟩:=Ty.is_mk.1 hd
 obtain ⟨a',es',c',rfl,hlen',hes'⟩:=Ty.is_mk.1 he
 have hl:=hes.len
 have hl':=hes'.len
 simp only [ut] at hQ
 have key:l.length=l'.length->∀ (N':Nat),N<=N'->(∀ N'',N'<=N''->Q (tJ l (l'.drop 0)) N'')->yQ Q N (0:Nat) (.ag [.lit (.int .i64 k),.sl a 2 es c]) (.ag [.lit (.int .i64 k'),.sl a' 2 es' c']) N':=by
  intro hll
  refine up hes hlen (fun i xs=>∀ (N':Nat),N<=N'->(∀ N'',N'<=N''->Q (tJ xs (l'.drop i)) N'')->yQ Q N i (.ag [.lit (.int .i64 k),.sl a 2 es c]) (.ag [.lit (.int .i64 k'),.sl a' 2 es' c']) N') ?_ ?_
  ·intro i hlt hi N' hN' hQ'
   refine vq _ _ _ _ _ _ ?_
   repeat' first|with_reducible intro _|simp only[hlt,Y1,Y2,Y3,Y4]|with_reducible refine X ?_ ?_|refine⟨_,_,_,rfl,?_⟩|refine⟨_,rfl,?_⟩|refine And.intro (by first|omega|trivial|(show _=_;rfl)|(with_reducible constructor)<;>first|omega|trivial|rfl) ?_|fail
   refine Qb (hQ' _ (by assumption)) ?_
   rw [mT (by omega)]
   rfl
  ·intro i x xs hat _ ih2 N' hN' hQ'
   have hb:=hat.b
   have hi':i<l'.length:=by omega
   have hg:l'[i]?=some l'[i]:=oD hi'
   have hd':l'.drop i=l'[i]::l'.drop (i+1):=List.drop_eq_getElem_cons hi'
   refine vq _ _ _ _ _ _ ?_
   rw [hd'] at hQ'
   repeat' first|with_reducible intro _|simp only[hat.lt,hat.w,oG,Y1,Y2,Y3,Y4]|with_reducible refine X ?_ ?_|refine⟨_,_,_,rfl,?_⟩|refine⟨_,rfl,?_⟩|refine And.intro (by first|omega|trivial|(show _=_;rfl)|(with_reducible constructor)<;>first|omega|trivial|rfl) ?_|refine (ih x hat.m _ _ _ hat.r (hes'.get hg)) _ _ ?_|fail
   ·exact Qb (hQ' _ (by omega)) (by simp [tJ, *])
   ·exact ih2 _ (by omega) fun N'' h=>Qb (hQ' N'' (by omega)) (by simp [tJ, *])
 refine zBR N _ _ Q fun _ _=>?_
 repeat' first|with_reducible intro _|simp only[Y1,Y2,Y3,Y4]|with_reducible refine X ?_ ?_|refine⟨_,_,_,rfl,?_⟩|refine⟨_,rfl,?_⟩|refine And.intro (by first|omega|trivial|(show _=_;rfl)|(with_reducible constructor)<;>first|omega|trivial|rfl) ?_|fail
 ·exact Qb (hQ _ (by assumption)) (by simp [*])
 ·exact Qb (hQ _ (by assumption)) (by rw [zCh (by omega),mo])
 ·exact key (by omega) N (oF _) fun N'' hN''=>Qb (hQ _ hN'') (by simp [*])
theorem tE (t:Ty) (d:D) (hd:t.Is d):wm 108 [.dg 2 d] t.base:=fun N Q hQ=>by
 cases t with
 | mk k l=>
 obtain ⟨a,es,c,rfl,hlen,hes⟩:=Ty.is_mk.1 hd
 have hl:=hes.len
 refine zFV N _ Q fun _=>?_
 repeat' first|with_reducible intro _|simp only[Y1,Y2,Y3,Y4]|with_reducible refine X ?_ ?_|refine⟨_,_,_,rfl,?_⟩|refine⟨_,rfl,?_⟩|refine And.intro (by first|omega|trivial|(show _=_;rfl)|(with_reducible constructor)<;>first|omega|trivial|rfl) ?_|fail
 all_goals refine Qb (hQ _ (by assumption)) ?_
 all_goals simp [Ty.base,Ty.k,Ty.as,hl, *]
theorem wl:zBT 130 [] tInt:=fun N Q hQ=>zGv N Q fun N' hN'=>hQ _ _ hN' (xV _) yB
theorem w7:zBT 151 [] tBool:=fun N Q hQ=>zE6 N Q fun N' hN'=>hQ _ _ hN' (xV _) yB
theorem zY {α:Type} {l:List α} {i:Nat} {x:α} (h:l[i]?=some x):l.take (i+1)=l.take i++[x]:=by
 rw [List.take_add_one,h];rfl
theorem zW:∀ (t:Ty) (d:D),t.Is d->t.cnt<=1073741824->zBT 110 [.dg 2 d] t:=by
 refine Ty.ind fun k l ih d hd hc N Q hQ=>?_
 obtain ⟨a,es,c,rfl,hlen,hes⟩:=Ty.is_mk.1 hd
 have hl:=hes.len
 simp only [Ty.cnt] at hc
 have hlc:=qG l
 refine zFe N _ Q fun _=>⟨_,rfl,?_⟩
 have key:=up hes hlen (fun i xs=>∀ (N':Nat),N<=N'->(i=0->vb Q N i (.ag [.lit (.int .i64 k),.sl a 2 es c]) 0 none [] 0 k none [] 0 N')/\∀ (m q:Nat) (r:List D),m=r.length->All2 Ty.Is (l.take i) r->OwnL N N' r ->
  yy Q N i (.ag [.lit (.int .i64 k),.sl a 2 es c]) 0 none [] 0 k m q r q N') ?_ ?_
 ·exact (key N (oF _)).1 rfl
 ·intro i hlt hi N' hN'
  refine ⟨fun h0=>sf _ _ _ _ _ _ _ _ _ _ _ _ _ ?_,fun m q r hm hr ho=>vu _ _ _ _ _ _ _ _ _ _ _ _ _ _ ?_⟩
  ·repeat' first|with_reducible intro _|simp only[hlt,Y1,Y2,Y3,Y4]|with_reducible refine X ?_ ?_|refine⟨_,_,_,rfl,?_⟩|refine⟨_,rfl,?_⟩|refine And.intro (by first|omega|trivial|(show _=_;rfl)|(with_reducible constructor)<;>first|omega|trivial|rfl) ?_|fail
   have:l=[]:=oR (by omega)
   subst this
   exact hQ _ _ (by omega) (xV _) yB
  ·repeat' first|with_reducible intro _|simp only[hlt,Y1,Y2,Y3,Y4]|with_reducible refine X ?_ ?_|refine⟨_,_,_,rfl,?_⟩|refine⟨_,rfl,?_⟩|refine And.intro (by first|omega|trivial|(show _=_;rfl)|(with_reducible constructor)<;>first|omega|trivial|rfl) ?_|fail
   rename_i a' N3 hN3 hf N4 hN4
   rw [oY (by omega)] at hr
   exact hQ _ _ (by omega) (Ty.is_mk.2 ⟨_,_,_,rfl,by have:=hr.len;omega,hr⟩) (sR (zG (za ((rr ho hf (by omega)).mono (oF _) hN4))))
 ·intro i x xs hat _ ih2 N' hN'
  have hb:=hat.b
  have hxc:=xk hat.m
  refine ⟨fun h0=>sf _ _ _ _ _ _ _ _ _ _ _ _ _ ?_,fun m q r hm hr ho=>vu _ _ _ _ _ _ _ _ _ _ _ _ _ _ ?_⟩
  ·repeat' first|with_reducible intro _|simp only[hat.lt,hat.w,oG,Y1,Y2,Y3,Y4]|with_reducible refine X ?_ ?_|refine⟨_,_,_,rfl,?_⟩|refine⟨_,rfl,?_⟩|refine And.intro (by first|omega|trivial|(show _=_;rfl)|(with_reducible constructor)<;>first|omega|trivial|rfl) ?_|refine (ih x hat.m _ hat.r (by omega)) _ _ ?_|fail
   rename_i N2 hN2 d' N3 hN3 hx hox hle hbel
   subst h0
   exact ⟨by unfold zA;simp,fun c2=>(ih2 _ (by omega)).2 _ _ _ rfl (by rw [zY hat.g];exact ⟨_,_,rfl,hx,rfl⟩) (za (hox.mono (by omega) (oF _)))⟩
  ·repeat' first|with_reducible intro _|simp only[hat.lt,hat.w,oG,Y1,Y2,Y3,Y4]|with_reducible refine X ?_ ?_|refine⟨_,_,_,rfl,?_⟩|refine⟨_,rfl,?_⟩|refine And.intro (by first|omega|trivial|(show _=_;rfl)|(with_reducible constructor)<;>first|omega|trivial|rfl) ?_|refine (ih x hat.m _ hat.r (by omega)) _ _ ?_|fail
   rename_i N2 hN2 d' N3 hN3 hx hox hle hbel
   have hrl:=hr.len
   have hli:(l.take i).length=i:=by rw [o0];omega
   refine ⟨by unfold zA;simp only [oK,na];omega,fun c2=>?_⟩
   exact (ih2 _ (by omega)).2 _ _ _ rfl (by rw [zY hat.g];exact hr.snoc hx) (yk (ho.mono (oF _) hN2) (za hox) (by omega) hN3)
theorem sJ (t u:Ty) (d e:D) (hd:t.Is d) (he:u.Is e) (hct:t.cnt<=1073741824) (hcu:u.cnt<=1073741824):zBT 153 [.dg 2 d,.dg 2 e] (vJ t u):=fun N Q hQ=>by
 refine zHU N _ _ Q fun _ _=>?_
 repeat' first|with_reducible intro _|simp only[Y1,Y2,Y3,Y4]|with_reducible refine X ?_ ?_|refine⟨_,_,_,rfl,?_⟩|refine⟨_,rfl,?_⟩|refine And.intro (by first|omega|trivial|(show _=_;rfl)|(with_reducible constructor)<;>first|omega|trivial|rfl) ?_|refine (zW t d hd hct) _ _ ?_|refine (zW u e he hcu) _ _ ?_|fail
 rename_i N1 hN1 d1 N2 hN2 h1 o1 hl1 b1 N3 hN3 d2 N4 hN4 h2 o2 hl2 b2 a' N5 hN5 hf N6 hN6
 exact hQ _ _ (by omega) (Ty.is_mk.2 ⟨_,_,_,rfl,by simp,_,_,rfl,h1,_,_,rfl,h2,rfl⟩)
  (sR (zG (za ((rr (yk ((za o1).mono hN1 hN3) (za o2) (by omega) hN4) hf (by omega)).mono (oF _) hN6))))
theorem zFs (t:Ty) (d:D) (hd:t.Is d) (hct:t.cnt<=1073741824):zBT 152 [.dg 2 d] (pJ t):=fun N Q hQ=>by
 refine zFW N _ Q fun _=>?_
 repeat' first|with_reducible intro _|simp only[Y1,Y2,Y3,Y4]|with_reducible refine X ?_ ?_|refine⟨_,_,_,rfl,?_⟩|refine⟨_,rfl,?_⟩|refine And.intro (by first|omega|trivial|(show _=_;rfl)|(with_reducible constructor)<;>first|omega|trivial|rfl) ?_|refine (zW t d hd hct) _ _ ?_|fail
 rename_i N1 hN1 d1 N2 hN2 h1 o1 hl1 b1 a' N5 hN5 hf N6 hN6
 exact hQ _ _ (by omega) (Ty.is_mk.2 ⟨_,_,_,rfl,by simp,_,_,rfl,h1,rfl⟩)
  (sR (zG (za ((rr ((za o1).mono hN1 (oF _)) hf (by omega)).mono (oF _) hN6))))
theorem upN {n:Nat} (hn:n<=4611686018427387904) (P:Nat->Prop) (hend:decide ((n:Int)<(n:Int))=false->P n)
  (hstep:∀ i:Nat,i<n->decide ((i:Int)<(n:Int))=true->IntKind.i64.wrap ((i:Int)+1)=((i+1:Nat):Int)->P (i+1)->P i):P 0:=by
 have key : ∀ (m i:Nat),i+m=n->P i:=by
  intro m
  induction m with
  | zero => intro i h;have:i=n:=by omega
            subst this;exact hend (by simp)
  | succ m ih=>intro i h;exact hstep i (by omega) (nY (by omega)) (by rw [i64_in _ (by omega)];simp) (ih (i+1) (by omega))
 exact key n 0 (by omega)
abbrev zA1 (s:ByteArray) (i:Nat):Int:=((s.data.getD i (OfNat.ofNat 0)).toNat:Int)
def zEY (s:ByteArray) (i:Nat):Bool:=(decide (zA1 s i≥97)&&decide (zA1 s i<=122))||(!(decide ((i:Int)=0))&&(!(decide (zA1 s i<48))&&!(decide (zA1 s i>57))))
def v9 (s:ByteArray) (i:Nat):Bool:=(List.range' i (s.size - i)).all (zEY s)
theorem qj {s:ByteArray} {i:Nat} (h:i<s.size):v9 s i=(zEY s i&&v9 s (i+1)):=by
 unfold v9
 rw [show s.size - i=(s.size - (i+1))+1 by omega,List.range'_succ]
 rfl
theorem zA7 {s:ByteArray}:v9 s s.size=true:=by simp [v9]
def zEd (s:ByteArray):Bool:=inB s.size 1 4&&(!(decide (s=bytes [105,102]))&&(!(decide (s=bytes [108,101,116]))&&(!(decide (s=bytes [114,101,99]))&&(!(decide (s=bytes [114,117,110]))&&!(decide (s=bytes [108,105,102,116]))))))
def uh (s:ByteArray):Bool:=v9 s 0&&zEd s
theorem tK (s:ByteArray) (hs:s.size<=4611686018427387904):wm 116 [.str s] (uh s):=fun N Q hQ=>by
 refine zEp N s Q ?_
 have key:=upN hs (fun i=>∀ N',N<=N'->(∀ N'',N'<=N''->Q (v9 s i&&zEd s) N'')->yf Q N s i N') ?_ ?_
 ·exact key N (oF _) hQ
 ·intro hlt N' hN' hQ'
  refine t3 _ _ _ _ _ ?_
  repeat' first|with_reducible intro _|simp only[hlt,Y1,Y2,Y3,Y4]|with_reducible refine X ?_ ?_|refine⟨_,_,_,rfl,?_⟩|refine⟨_,rfl,?_⟩|refine And.intro (by first|omega|trivial|(show _=_;rfl)|(with_reducible constructor)<;>first|omega|trivial|rfl) ?_|refine (xm _ _ _) _ _ ?_|fail
  all_goals (refine Qb (hQ' _ (by omega)) ?_;rw [zA7])
  all_goals simp [zEd,tI, *]
 ·intro i hi hlt hw ih2 N' hN' hQ'
  refine t3 _ _ _ _ _ ?_
  rw [qj hi] at hQ'
  repeat' first|with_reducible intro _|simp only[hlt,hw,oG,Y1,Y2,Y3,Y4]|with_reducible refine X ?_ ?_|refine⟨_,_,_,rfl,?_⟩|refine⟨_,rfl,?_⟩|refine And.intro (by first|omega|trivial|(show _=_;rfl)|(with_reducible constructor)<;>first|omega|trivial|rfl) ?_|fail
  all_goals first
   | (refine Qb (hQ' _ (by omega)) ?_;unfold zEY zA1;simp only [*];simp;done)
   | (refine ih2 _ (by omega) fun N'' h=>Qb (hQ' N'' (by omega)) ?_;unfold zEY zA1;simp only [*];simp;done)
end Go.Proofs.YtkdjhkfiolhkiaaGreat
