/- Types: the reference's functions. -/
import Derived.Test.YtkdjhkfiolhkiaaGreatVa
import Derived.Test.YtkdjhkfiolhkiaaGreatKs
set_option linter.unusedVariables false
set_option linter.unusedSimpArgs false
namespace Go.Proofs.YtkdjhkfiolhkiaaGreat
open Go Go.Proofs Go.Proofs.Tryz Go.IntWalk
def inB (n a b:Int):Bool:=decide (a<=n)&&decide (n<=b)
theorem xB (n a b:Int):vK 117 [.int .i64 n,.int .i64 a,.int .i64 b] (inB n a b):=fun N Q hQ=>by
 refine zIj N n a b Q ?_
 repeat' first|with_reducible intro _|simp only[Y1,Y2,Y3,Y4]|with_reducible refine X ?_ ?_|refine⟨_,_,_,rfl,?_⟩|refine⟨_,rfl,?_⟩|refine And.intro (by first|omega|trivial|(show _=_;rfl)|(with_reducible constructor)<;>first|omega|trivial|rfl) ?_|fail
 all_goals simpa [inB, *] using hQ _ (by omega)
theorem zAp (a b:Int):zBW 168 [.int .i64 a,.int .i64 b] (max a b):=fun N Q hQ=>by
 refine zHX N a b Q ?_
 repeat' first|with_reducible intro _|simp only[Y1,Y2,Y3,Y4]|with_reducible refine X ?_ ?_|refine⟨_,_,_,rfl,?_⟩|refine⟨_,rfl,?_⟩|refine And.intro (by first|omega|trivial|(show _=_;rfl)|(with_reducible constructor)<;>first|omega|trivial|rfl) ?_|fail
 ·have:=hQ _ (by assumption)
  rwa [Int.max_eq_left (by omega)] at this
 ·have:=hQ _ (by assumption)
  rwa [Int.max_eq_right (by omega)] at this
mutual
def Ty.dep:Ty->Nat
 | .mk _ l=>tK l+1
def tK:List Ty->Nat
 | []=>0
 | t::ts=>max t.dep (tK ts)
end
mutual
theorem Ty.dep_cnt:∀ t:Ty,t.dep<=t.cnt
 | .mk _ l=>by simp only [Ty.dep,Ty.cnt];have:=sd l;omega
theorem sd:∀ l:List Ty,tK l<=zT l
 | []=>oD _
 | t::ts=>by simp only [tK,zT];have:=t.dep_cnt;have:=sd ts;omega
end
theorem wd:∀ {l:List Ty} {t:Ty},t∈l->t.cnt<=zT l
 | u::us,t,h=>by
   simp only [zT]
   rcases oG.1 h with rfl | h
   ·omega
   ·have:=wd h;omega
def zDk (k:Int) (n:Nat):Bool:=if k=1\/k=2 then (n:Int)==0 else if k=3 then (n:Int)==2 else if k=4 then (n:Int)==1 else false
mutual
def Ty.form:Ty->Bool
 | .mk k l=>uO l&&zDk k l.length
def uO:List Ty->Bool
 | []=>true
 | t::ts=>t.form&&uO ts
end
def Ty.valid (t:Ty):Bool:=decide (t.cnt<=30)&&decide (t.dep<=8)&&t.form
theorem pK:∀ (t:Ty) (d:D),t.Is d->∀ n:Int,0<=n->n<=1000->zBW 99 [.dg 2 d,.int .i64 n] (if (t.cnt:Int)<=n then n - t.cnt else -1):=by
 refine Ty.ind fun k l ih d hd n hn0 hn1 N Q hQ=>?_
 obtain ⟨a,es,c,rfl,hlen,hes⟩:=Ty.is_mk.1 hd
 refine zFG N _ n Q fun _=>?_
 have key:=up hes hlen (fun i xs=>∀ (m:Int) (N':Nat),N<=N' -> -1<=m->m<=1000->(∀ N'',N'<=N''->Q (if m<0 then -1 else if (zT xs:Int)<=m then m - zT xs else -1) N'') ->
  wP Q N m i (.ag [.lit (.int .i64 k),.sl a 2 es c]) N') ?_ ?_
 ·rw [i64_in _ (by omega)]
  refine key (n - 1) N (oD _) (by omega) (by omega) fun N' hN'=>Qi (hQ N' hN') ?_
  simp only [Ty.cnt]
  (repeat' split)<;>omega
 ·intro i hlt _ m N' hN' h1 h2 hQ'
  refine sR _ _ _ _ _ _ ?_
  repeat' first|with_reducible intro _|simp only[hlt,Y1,Y2,Y3,Y4]|with_reducible refine X ?_ ?_|refine⟨_,_,_,rfl,?_⟩|refine⟨_,rfl,?_⟩|refine And.intro (by first|omega|trivial|(show _=_;rfl)|(with_reducible constructor)<;>first|omega|trivial|rfl) ?_|fail
  refine Qi (hQ' _ (by assumption)) ?_
  simp only [zT]
  (repeat' split)<;>omega
 ·intro i x xs hat _ ih2 m N' hN' h1 h2 hQ'
  have hb:=hat.b
  refine sR _ _ _ _ _ _ ?_
  repeat' first|with_reducible intro _|simp only[hat.lt,hat.w,oJ,Y1,Y2,Y3,Y4]|with_reducible refine X ?_ ?_|refine⟨_,_,_,rfl,?_⟩|refine⟨_,rfl,?_⟩|refine And.intro (by first|omega|trivial|(show _=_;rfl)|(with_reducible constructor)<;>first|omega|trivial|rfl) ?_|refine (ih x hat.m _ hat.r m (by omega) (by omega)) _ _ ?_|fail
  ·refine ih2 _ _ (by omega) (by split<;>omega) (by split<;>omega) fun N'' hN''=>Qi (hQ' N'' (by omega)) ?_
   simp only [zT]
   (repeat' split)<;>omega
  ·refine Qi (hQ' _ (by assumption)) ?_
   rw [if_pos (by omega)]
   omega
theorem uF:∀ (t:Ty) (d:D),t.Is d->t.cnt<=1073741824->zBW 100 [.dg 2 d] t.dep:=by
 refine Ty.ind fun k l ih d hd hc N Q hQ=>?_
 obtain ⟨a,es,c,rfl,hlen,hes⟩:=Ty.is_mk.1 hd
 refine ru N _ Q fun _=>?_
 simp only [Ty.cnt] at hc
 have hdl:=sd l
 have key:=up hes hlen (fun i xs=>∀ (m:Nat) (N':Nat),N<=N'->max m (tK xs)=tK l->yO Q N (m:Int) i (.ag [.lit (.int .i64 k),.sl a 2 es c]) N') ?_ ?_
 ·exact key 0 N (oD _) (by omega)
 ·intro i hlt _ m N' hN' hm
  simp only [tK] at hm
  refine w5 _ _ _ _ _ _ ?_
  repeat' first|with_reducible intro _|simp only[hlt,Y1,Y2,Y3,Y4]|with_reducible refine X ?_ ?_|refine⟨_,_,_,rfl,?_⟩|refine⟨_,rfl,?_⟩|refine And.intro (by first|omega|trivial|(show _=_;rfl)|(with_reducible constructor)<;>first|omega|trivial|rfl) ?_|fail
  rw [i64_in _ (by omega)]
  refine Qi (hQ _ (oS hN' (by assumption))) ?_
  simp only [Ty.dep]
  omega
 ·intro i x xs hat _ ih2 m N' hN' hm
  have hb:=hat.b
  have hxc:=wd hat.m
  simp only [tK] at hm
  refine w5 _ _ _ _ _ _ ?_
  repeat' first|with_reducible intro _|simp only[hat.lt,hat.w,oJ,Y1,Y2,Y3,Y4]|with_reducible refine X ?_ ?_|refine⟨_,_,_,rfl,?_⟩|refine⟨_,rfl,?_⟩|refine And.intro (by first|omega|trivial|(show _=_;rfl)|(with_reducible constructor)<;>first|omega|trivial|rfl) ?_|refine (ih x hat.m _ hat.r (by omega)) _ _ ?_|refine (zAp _ _) _ _ ?_|fail
  have e:max (m:Int) (x.dep:Int)=((max m x.dep:Nat):Int):=by omega
  rw [e]
  exact ih2 _ _ (by omega) (by omega)
theorem rt:∀ (t:Ty) (d:D),t.Is d->vK 101 [.dg 2 d] t.form:=by
 refine Ty.ind fun k l ih d hd N Q hQ=>?_
 obtain ⟨a,es,c,rfl,hlen,hes⟩:=Ty.is_mk.1 hd
 have hl:=hes.len
 refine zFB N _ Q fun _=>?_
 have key:=up hes hlen (fun i xs=>∀ (N':Nat),N<=N'->(∀ N'',N'<=N''->Q (uO xs&&zDk k l.length) N'')->wH Q N i (.ag [.lit (.int .i64 k),.sl a 2 es c]) N') ?_ ?_
 ·exact key N (oD _) hQ
 ·intro i hlt _ N' hN' hQ'
  refine t3 _ _ _ _ _ ?_
  repeat' first|with_reducible intro _|simp only[hlt,Y1,Y2,Y3,Y4]|with_reducible refine X ?_ ?_|refine⟨_,_,_,rfl,?_⟩|refine⟨_,rfl,?_⟩|refine And.intro (by first|omega|trivial|(show _=_;rfl)|(with_reducible constructor)<;>first|omega|trivial|rfl) ?_|fail
  all_goals (refine Qb (hQ' _ (by assumption)) ?_;simp [uO,zDk, *])
 ·intro i x xs hat _ ih2 N' hN' hQ'
  have hb:=hat.b
  refine t3 _ _ _ _ _ ?_
  repeat' first|with_reducible intro _|simp only[hat.lt,hat.w,oJ,Y1,Y2,Y3,Y4]|with_reducible refine X ?_ ?_|refine⟨_,_,_,rfl,?_⟩|refine⟨_,rfl,?_⟩|refine And.intro (by first|omega|trivial|(show _=_;rfl)|(with_reducible constructor)<;>first|omega|trivial|rfl) ?_|refine (ih x hat.m _ hat.r) _ _ ?_|fail
  ·refine Qb (hQ' _ (by omega)) ?_;simp [uO, *]
  ·exact ih2 _ (by omega) fun N'' h=>Qb (hQ' N'' (by omega)) (by simp [uO, *])
theorem v9 (t:Ty) (d:D) (hd:t.Is d) (hc:t.cnt<=1073741824):vK 34 [.dg 2 d] t.valid:=fun N Q hQ=>by
 refine pI N _ Q fun _=>?_
 by_cases h30:t.cnt<=30
 ·have h1:((t.cnt:Int)<=30):=by omega
  repeat' first|with_reducible intro _|simp only[if_pos h1,Y1,Y2,Y3,Y4]|with_reducible refine X ?_ ?_|refine⟨_,_,_,rfl,?_⟩|refine⟨_,rfl,?_⟩|refine And.intro (by first|omega|trivial|(show _=_;rfl)|(with_reducible constructor)<;>first|omega|trivial|rfl) ?_|refine (pK t d hd _ (by omega) (by omega)) _ _ ?_|refine (uF t d hd hc) _ _ ?_|refine (rt t d hd) _ _ ?_|fail
  all_goals first | omega | skip
  ·have h8:t.dep<=8:=by omega
   refine Qb (hQ _ (by omega)) ?_;simp [Ty.valid, *]
  ·have h8:¬t.dep<=8:=by omega
   refine Qb (hQ _ (by omega)) ?_;simp [Ty.valid, *]
 ·have h1:¬((t.cnt:Int)<=30):=by omega
  repeat' first|with_reducible intro _|simp only[if_neg h1,Y1,Y2,Y3,Y4]|with_reducible refine X ?_ ?_|refine⟨_,_,_,rfl,?_⟩|refine⟨_,rfl,?_⟩|refine And.intro (by first|omega|trivial|(show _=_;rfl)|(with_reducible constructor)<;>first|omega|trivial|rfl) ?_|refine (pK t d hd _ (by omega) (by omega)) _ _ ?_|refine (uF t d hd hc) _ _ ?_|refine (rt t d hd) _ _ ?_|fail
  all_goals first | omega | skip
  refine Qb (hQ _ (by omega)) ?_;simp [Ty.valid, *]
/-- returns this type, in memory of its own -/
def zPr (f:FuncId) (args:List PV) (t:Ty):Prop:=∀ (N:Nat) (Q:QT [.ag 2]),(∀ d' N',N<=N'->t.Is d'->Own N N' d'->Q d' N')->ACalls prog f [.ag 2] args N Q
def tInt:Ty:=.mk 1 []
def tBool:Ty:=.mk 2 []
def tZero:Ty:=.mk 0 []
def zMl (a b:Ty):Ty:=.mk 3 [a,b]
def r6 (a:Ty):Ty:=.mk 4 [a]
def Ty.base (t:Ty):Bool:=(t.k==1||t.k==2)&&(t.as.length:Int)==0
theorem xE (k:Int):(Ty.mk k []).Is (.ag [.lit (.int .i64 k),.sl none 2 [] 0]):=Ty.is_mk.2 ⟨_,_,_,rfl,by simp,rfl⟩
theorem zGN {N N':Nat} {x:Value}:Own N N' (.ag [.lit x,.sl none 2 [] 0]):=⟨by simp [D.foot,zE],⟨trivial,⟨by simp,trivial⟩,trivial⟩,by simp [D.foot,zE],by simp [D.foot,zE]⟩
theorem rk:∀ l:List Ty,l.length<=zT l
 | []=>oD _
 | .mk k l::ts=>by simp only [zT,Ty.cnt,oP];have:=rk ts;omega
theorem wr:∀ (t u:Ty) (d e:D),t.Is d->u.Is e->vK 107 [.dg 2 d,.dg 2 e] (zKl t u):=by
 refine Ty.ind fun k l ih u d e hd he N Q hQ=>?_
 cases u with
 | mk k' l'=>
 obtain ⟨a,es,c,rfl,hlen,hes⟩:=Ty.is_mk.1 hd
 obtain ⟨a',es',c',rfl,hlen',hes'⟩:=Ty.is_mk.1 he
 have hl:=hes.len
 have hl':=hes'.len
 simp only [zKl] at hQ
 have key:l.length=l'.length->∀ (N':Nat),N<=N'->(∀ N'',N'<=N''->Q (um l (l'.drop 0)) N'')->yK Q N (0:Nat) (.ag [.lit (.int .i64 k),.sl a 2 es c]) (.ag [.lit (.int .i64 k'),.sl a' 2 es' c']) N':=by
  intro hll
  refine up hes hlen (fun i xs=>∀ (N':Nat),N<=N'->(∀ N'',N'<=N''->Q (um xs (l'.drop i)) N'')->yK Q N i (.ag [.lit (.int .i64 k),.sl a 2 es c]) (.ag [.lit (.int .i64 k'),.sl a' 2 es' c']) N') ?_ ?_
  ·intro i hlt hi N' hN' hQ'
   refine uE _ _ _ _ _ _ ?_
   repeat' first|with_reducible intro _|simp only[hlt,Y1,Y2,Y3,Y4]|with_reducible refine X ?_ ?_|refine⟨_,_,_,rfl,?_⟩|refine⟨_,rfl,?_⟩|refine And.intro (by first|omega|trivial|(show _=_;rfl)|(with_reducible constructor)<;>first|omega|trivial|rfl) ?_|fail
   refine Qb (hQ' _ (by assumption)) ?_
   rw [mG (by omega)]
   rfl
  ·intro i x xs hat _ ih2 N' hN' hQ'
   have hb:=hat.b
   have hi':i<l'.length:=by omega
   have hg:l'[i]?=some l'[i]:=oF hi'
   have hd':l'.drop i=l'[i]::l'.drop (i+1):=mR hi'
   refine uE _ _ _ _ _ _ ?_
   rw [hd'] at hQ'
   repeat' first|with_reducible intro _|simp only[hat.lt,hat.w,oJ,Y1,Y2,Y3,Y4]|with_reducible refine X ?_ ?_|refine⟨_,_,_,rfl,?_⟩|refine⟨_,rfl,?_⟩|refine And.intro (by first|omega|trivial|(show _=_;rfl)|(with_reducible constructor)<;>first|omega|trivial|rfl) ?_|refine (ih x hat.m _ _ _ hat.r (hes'.get hg)) _ _ ?_|fail
   ·exact Qb (hQ' _ (by omega)) (by simp [um, *])
   ·exact ih2 _ (by omega) fun N'' h=>Qb (hQ' N'' (by omega)) (by simp [um, *])
 refine zBC N _ _ Q fun _ _=>?_
 repeat' first|with_reducible intro _|simp only[Y1,Y2,Y3,Y4]|with_reducible refine X ?_ ?_|refine⟨_,_,_,rfl,?_⟩|refine⟨_,rfl,?_⟩|refine And.intro (by first|omega|trivial|(show _=_;rfl)|(with_reducible constructor)<;>first|omega|trivial|rfl) ?_|fail
 ·exact Qb (hQ _ (by assumption)) (by simp [*])
 ·exact Qb (hQ _ (by assumption)) (by rw [zCM (by omega),mu])
 ·exact key (by omega) N (oD _) fun N'' hN''=>Qb (hQ _ hN'') (by simp [*])
theorem pC (t:Ty) (d:D) (hd:t.Is d):vK 108 [.dg 2 d] t.base:=fun N Q hQ=>by
 cases t with
 | mk k l=>
 obtain ⟨a,es,c,rfl,hlen,hes⟩:=Ty.is_mk.1 hd
 have hl:=hes.len
 refine zF0 N _ Q fun _=>?_
 repeat' first|with_reducible intro _|simp only[Y1,Y2,Y3,Y4]|with_reducible refine X ?_ ?_|refine⟨_,_,_,rfl,?_⟩|refine⟨_,rfl,?_⟩|refine And.intro (by first|omega|trivial|(show _=_;rfl)|(with_reducible constructor)<;>first|omega|trivial|rfl) ?_|fail
 all_goals refine Qb (hQ _ (by assumption)) ?_
 all_goals simp [Ty.base,Ty.k,Ty.as,hl, *]
theorem wl:zPr 130 [] tInt:=fun N Q hQ=>zHT N Q fun N' hN'=>hQ _ _ hN' (xE _) zGN
theorem vB:zPr 151 [] tBool:=fun N Q hQ=>zE6 N Q fun N' hN'=>hQ _ _ hN' (xE _) zGN
theorem wt {α:Type} {l:List α} {i:Nat} {x:α} (h:l[i]?=some x):l.take (i+1)=l.take i++[x]:=by
 rw [List.take_add_one,h];rfl
theorem zR:∀ (t:Ty) (d:D),t.Is d->t.cnt<=1073741824->zPr 110 [.dg 2 d] t:=by
 refine Ty.ind fun k l ih d hd hc N Q hQ=>?_
 obtain ⟨a,es,c,rfl,hlen,hes⟩:=Ty.is_mk.1 hd
 have hl:=hes.len
 simp only [Ty.cnt] at hc
 have hlc:=rk l
 refine zFr N _ Q fun _=>⟨_,rfl,?_⟩
 have key:=up hes hlen (fun i xs=>∀ (N':Nat),N<=N'->(i=0->ve Q N i (.ag [.lit (.int .i64 k),.sl a 2 es c]) 0 none [] 0 k none [] 0 N')/\∀ (m q:Nat) (r:List D),m=r.length->All2 Ty.Is (l.take i) r->OwnL N N' r ->
  yp Q N i (.ag [.lit (.int .i64 k),.sl a 2 es c]) 0 none [] 0 k m q r q N') ?_ ?_
 ·exact (key N (oD _)).1 rfl
 ·intro i hlt hi N' hN'
  refine ⟨fun h0=>sA _ _ _ _ _ _ _ _ _ _ _ _ _ ?_,fun m q r hm hr ho=>vz _ _ _ _ _ _ _ _ _ _ _ _ _ _ ?_⟩
  ·repeat' first|with_reducible intro _|simp only[hlt,Y1,Y2,Y3,Y4]|with_reducible refine X ?_ ?_|refine⟨_,_,_,rfl,?_⟩|refine⟨_,rfl,?_⟩|refine And.intro (by first|omega|trivial|(show _=_;rfl)|(with_reducible constructor)<;>first|omega|trivial|rfl) ?_|fail
   have:l=[]:=oa (by omega)
   subst this
   exact hQ _ _ (by omega) (xE _) zGN
  ·repeat' first|with_reducible intro _|simp only[hlt,Y1,Y2,Y3,Y4]|with_reducible refine X ?_ ?_|refine⟨_,_,_,rfl,?_⟩|refine⟨_,rfl,?_⟩|refine And.intro (by first|omega|trivial|(show _=_;rfl)|(with_reducible constructor)<;>first|omega|trivial|rfl) ?_|fail
   rename_i a' N3 hN3 hf N4 hN4
   rw [nB (by omega)] at hr
   exact hQ _ _ (by omega) (Ty.is_mk.2 ⟨_,_,_,rfl,by have:=hr.len;omega,hr⟩) (zEP (yu (xT ((zEN ho hf (by omega)).mono (oD _) hN4))))
 ·intro i x xs hat _ ih2 N' hN'
  have hb:=hat.b
  have hxc:=wd hat.m
  refine ⟨fun h0=>sA _ _ _ _ _ _ _ _ _ _ _ _ _ ?_,fun m q r hm hr ho=>vz _ _ _ _ _ _ _ _ _ _ _ _ _ _ ?_⟩
  ·repeat' first|with_reducible intro _|simp only[hat.lt,hat.w,oJ,Y1,Y2,Y3,Y4]|with_reducible refine X ?_ ?_|refine⟨_,_,_,rfl,?_⟩|refine⟨_,rfl,?_⟩|refine And.intro (by first|omega|trivial|(show _=_;rfl)|(with_reducible constructor)<;>first|omega|trivial|rfl) ?_|refine (ih x hat.m _ hat.r (by omega)) _ _ ?_|fail
   rename_i N2 hN2 d' N3 hN3 hx hox hle hbel
   subst h0
   exact ⟨by unfold zB;simp,fun c2=>(ih2 _ (by omega)).2 _ _ _ rfl (by rw [wt hat.g];exact ⟨_,_,rfl,hx,rfl⟩) (xT (hox.mono (by omega) (oD _)))⟩
  ·repeat' first|with_reducible intro _|simp only[hat.lt,hat.w,oJ,Y1,Y2,Y3,Y4]|with_reducible refine X ?_ ?_|refine⟨_,_,_,rfl,?_⟩|refine⟨_,rfl,?_⟩|refine And.intro (by first|omega|trivial|(show _=_;rfl)|(with_reducible constructor)<;>first|omega|trivial|rfl) ?_|refine (ih x hat.m _ hat.r (by omega)) _ _ ?_|fail
   rename_i N2 hN2 d' N3 hN3 hx hox hle hbel
   have hrl:=hr.len
   have hli:(l.take i).length=i:=by rw [nH];omega
   refine ⟨by unfold zB;simp only [oH,mc];omega,fun c2=>?_⟩
   exact (ih2 _ (by omega)).2 _ _ _ rfl (by rw [wt hat.g];exact hr.snoc hx) (wb (ho.mono (oD _) hN2) (xT hox) (by omega) hN3)
theorem v4 (t u:Ty) (d e:D) (hd:t.Is d) (he:u.Is e) (hct:t.cnt<=1073741824) (hcu:u.cnt<=1073741824):zPr 153 [.dg 2 d,.dg 2 e] (zMl t u):=fun N Q hQ=>by
 refine zAq N _ _ Q fun _ _=>?_
 repeat' first|with_reducible intro _|simp only[Y1,Y2,Y3,Y4]|with_reducible refine X ?_ ?_|refine⟨_,_,_,rfl,?_⟩|refine⟨_,rfl,?_⟩|refine And.intro (by first|omega|trivial|(show _=_;rfl)|(with_reducible constructor)<;>first|omega|trivial|rfl) ?_|refine (zR t d hd hct) _ _ ?_|refine (zR u e he hcu) _ _ ?_|fail
 rename_i N1 hN1 d1 N2 hN2 h1 o1 hl1 b1 N3 hN3 d2 N4 hN4 h2 o2 hl2 b2 a' N5 hN5 hf N6 hN6
 exact hQ _ _ (by omega) (Ty.is_mk.2 ⟨_,_,_,rfl,by simp,_,_,rfl,h1,_,_,rfl,h2,rfl⟩)
  (zEP (yu (xT ((zEN (wb ((xT o1).mono hN1 hN3) (xT o2) (by omega) hN4) hf (by omega)).mono (oD _) hN6))))
theorem wJ (t:Ty) (d:D) (hd:t.Is d) (hct:t.cnt<=1073741824):zPr 152 [.dg 2 d] (r6 t):=fun N Q hQ=>by
 refine pX N _ Q fun _=>?_
 repeat' first|with_reducible intro _|simp only[Y1,Y2,Y3,Y4]|with_reducible refine X ?_ ?_|refine⟨_,_,_,rfl,?_⟩|refine⟨_,rfl,?_⟩|refine And.intro (by first|omega|trivial|(show _=_;rfl)|(with_reducible constructor)<;>first|omega|trivial|rfl) ?_|refine (zR t d hd hct) _ _ ?_|fail
 rename_i N1 hN1 d1 N2 hN2 h1 o1 hl1 b1 a' N5 hN5 hf N6 hN6
 exact hQ _ _ (by omega) (Ty.is_mk.2 ⟨_,_,_,rfl,by simp,_,_,rfl,h1,rfl⟩)
  (zEP (yu (xT ((zEN ((xT o1).mono hN1 (oD _)) hf (by omega)).mono (oD _) hN6))))
theorem upN {n:Nat} (hn:n<=4611686018427387904) (P:Nat->Prop) (hend:decide ((n:Int)<(n:Int))=false->P n)
  (hstep:∀ i:Nat,i<n->decide ((i:Int)<(n:Int))=true->IntKind.i64.wrap ((i:Int)+1)=((i+1:Nat):Int)->P (i+1)->P i):P 0:=by
 have key : ∀ (m i:Nat),i+m=n->P i:=by
  intro m
  induction m with
  | zero => intro i h;have:i=n:=by omega
            subst this;exact hend (by simp)
  | succ m ih=>intro i h;exact hstep i (by omega) (mN (by omega)) (by rw [i64_in _ (by omega)];simp) (ih (i+1) (by omega))
 exact key n 0 (by omega)
abbrev zAj (s:ByteArray) (i:Nat):Int:=((s.data.getD i (OfNat.ofNat 0)).toNat:Int)
def zEo (s:ByteArray) (i:Nat):Bool:=(decide (zAj s i≥97)&&decide (zAj s i<=122))||(!(decide ((i:Int)=0))&&(!(decide (zAj s i<48))&&!(decide (zAj s i>57))))
def uB (s:ByteArray) (i:Nat):Bool:=(List.range' i (s.size - i)).all (zEo s)
theorem qw {s:ByteArray} {i:Nat} (h:i<s.size):uB s i=(zEo s i&&uB s (i+1)):=by
 unfold uB
 rw [show s.size - i=(s.size - (i+1))+1 by omega,List.range'_succ]
 rfl
theorem zAh {s:ByteArray}:uB s s.size=true:=by simp [uB]
def zDG (s:ByteArray):Bool:=inB s.size 1 4&&(!(decide (s=bytes [105,102]))&&(!(decide (s=bytes [108,101,116]))&&(!(decide (s=bytes [114,101,99]))&&(!(decide (s=bytes [114,117,110]))&&!(decide (s=bytes [108,105,102,116]))))))
def yL (s:ByteArray):Bool:=uB s 0&&zDG s
theorem qN (s:ByteArray) (hs:s.size<=4611686018427387904):vK 116 [.str s] (yL s):=fun N Q hQ=>by
 refine zGF N s Q ?_
 have key:=upN hs (fun i=>∀ N',N<=N'->(∀ N'',N'<=N''->Q (uB s i&&zDG s) N'')->yQ Q N s i N') ?_ ?_
 ·exact key N (oD _) hQ
 ·intro hlt N' hN' hQ'
  refine th _ _ _ _ _ ?_
  repeat' first|with_reducible intro _|simp only[hlt,Y1,Y2,Y3,Y4]|with_reducible refine X ?_ ?_|refine⟨_,_,_,rfl,?_⟩|refine⟨_,rfl,?_⟩|refine And.intro (by first|omega|trivial|(show _=_;rfl)|(with_reducible constructor)<;>first|omega|trivial|rfl) ?_|refine (xB _ _ _) _ _ ?_|fail
  all_goals (refine Qb (hQ' _ (by omega)) ?_;rw [zAh])
  all_goals simp [zDG,uA, *]
 ·intro i hi hlt hw ih2 N' hN' hQ'
  refine th _ _ _ _ _ ?_
  rw [qw hi] at hQ'
  repeat' first|with_reducible intro _|simp only[hlt,hw,oJ,Y1,Y2,Y3,Y4]|with_reducible refine X ?_ ?_|refine⟨_,_,_,rfl,?_⟩|refine⟨_,rfl,?_⟩|refine And.intro (by first|omega|trivial|(show _=_;rfl)|(with_reducible constructor)<;>first|omega|trivial|rfl) ?_|fail
  all_goals first
   | (refine Qb (hQ' _ (by omega)) ?_;unfold zEo zAj;simp only [*];simp;done)
   | (refine ih2 _ (by omega) fun N'' h=>Qb (hQ' N'' (by omega)) ?_;unfold zEo zAj;simp only [*];simp;done)
end Go.Proofs.YtkdjhkfiolhkiaaGreat
