/- Parameters: what they are; the laws' sizes, copies, equality and marks on them. -/
import Derived.Test.YtnmnahkkcfghjaaGreatA4
import Derived.Test.YtnmnahkkcfghjaaGreatA3
import Derived.Test.YtnmnahkkcfghjaaGreatKi
set_option linter.unusedVariables false
set_option linter.unusedSimpArgs false
namespace Go.Proofs.YtnmnahkkcfghjaaGreat
open Go Go.Proofs Go.Proofs.Tryz Go.IntWalk
structure Pm where
 nm:ByteArray
 ty:Ty
 dy:Bool
def Pm.Is (g:Pm) (d:D):Prop:=∃ t0 t1,d=.ag [.t g.nm,t0,t1,.lit (.bool g.dy)]/\g.nm.size<=4611686018427387904/\g.ty.Is (.ag [t0,t1])
theorem zFG (n a b:Int):zBz 56 [.j n,.j a,.j b] (inB n a b):=λN Q I=>by
 refine zGJ N n a b Q ?_
 repeat' first|with_reducible intro _|simp only[Y1,Y2,Y3,Y4]|with_reducible refine X ?_ ?_|refine⟨_,_,_,rfl,?_⟩|refine⟨_,rfl,?_⟩|refine And.intro (by first|omega|trivial|(show _=_;rfl)|(with_reducible constructor)<;>first|omega|trivial|rfl) ?_|fail
 all_goals simpa [inB, *] using I _ (by omega)
def zLO {α:Type} (p:α->Bool):List α->Int->Int
 | [],_ => -1
 | x::xs,i=>if p x then i else zLO p xs (i+1)
theorem zI2 {α:Type} (p:α->Bool):∀ (l:List α) (i:Int),0<=i->decide (zLO p l i≥0)=l.any p
 | [],i,h=>by simp [zLO]
 | x::xs,i,h=>by
   have I:=zI2 p xs (i+1) (by omega)
   rw [mf,mS] at I ⊢
   simp only [zLO,List.any_cons,mJ]
   by_cases J:p x=true
   ·simp only [J,mV,true_or,iff_true];exact h
   ·simpa [J] using I
/-- a row of words -/
def zB (l:List ByteArray):List D:=l.map λs=>.t s
theorem wx:∀ l:List ByteArray,All2 (λs d=>d=.t s) l (zB l)
 | []=>rfl
 | s::l=>⟨_,_,rfl,rfl,wx l⟩
theorem pE (t:Ty):zDj t t=true:=(ud t t).2 rfl
theorem zRh:∀ (t:Ty) (d:D),t.Is d->t.cnt<=1073741824->zQW 83 [.dg 2 d] t:=by
 refine Ty.ind λk l ih d hd hc N Q hQ=>?_
 obtain ⟨a,es,c,rfl,Y,aa⟩:=Ty.is_mk.1 hd
 have hl:=aa.len
 simp only [Ty.cnt] at hc
 have al:=uC l
 refine zC3 N _ Q λ_=>⟨_,rfl,_,_,_,rfl,?_⟩
 have key:=up aa Y (λi xs=>∀ (N':Nat),N<=N'->(i=0->wm Q N a es c es.length i 0 none [] 0 k none [] 0 N')/\∀ (m q:Nat) (r:List D),m=r.length->All2 Ty.Is (l.take i) r->OwnL N N' r ->
  yU Q N a es c es.length i 0 none [] 0 k m q r q N') ?_ ?_
 ·exact (key N (oD _)).1 rfl
 ·intro i ab hi N' ai
  refine ⟨λh0=>tD _ _ _ _ _ _ _ _ _ _ _ _ _ _ _ _ ?_,λm q r hm U ho=>vU _ _ _ _ _ _ _ _ _ _ _ _ _ _ _ _ _ ?_⟩
  ·repeat' first|with_reducible intro _|simp only[ab,Y1,Y2,Y3,Y4]|with_reducible refine X ?_ ?_|refine⟨_,_,_,rfl,?_⟩|refine⟨_,rfl,?_⟩|refine And.intro (by first|omega|trivial|(show _=_;rfl)|(with_reducible constructor)<;>first|omega|trivial|rfl) ?_|fail
   have:l=[]:=oP (by omega)
   subst this
   exact hQ _ _ (by omega) (yz _) zGG
  ·repeat' first|with_reducible intro _|simp only[ab,Y1,Y2,Y3,Y4]|with_reducible refine X ?_ ?_|refine⟨_,_,_,rfl,?_⟩|refine⟨_,rfl,?_⟩|refine And.intro (by first|omega|trivial|(show _=_;rfl)|(with_reducible constructor)<;>first|omega|trivial|rfl) ?_|fail
   rename_i a' N3 J hf N4 aj
   rw [oi (by omega)] at U
   exact hQ _ _ (by omega) (Ty.is_mk.2 ⟨_,_,_,rfl,by have:=U.len;omega,U⟩) (zEe (yv (xj ((zD1 ho hf (by omega)).mono (oD _) aj))))
 ·intro i x xs I _ ac N' ai
  have hb:=I.b
  have am:=xn I.m
  refine ⟨λh0=>tD _ _ _ _ _ _ _ _ _ _ _ _ _ _ _ _ ?_,λm q r hm U ho=>vU _ _ _ _ _ _ _ _ _ _ _ _ _ _ _ _ _ ?_⟩
  ·repeat' first|with_reducible intro _|simp only[I.lt,I.w,oK,Y1,Y2,Y3,Y4]|with_reducible refine X ?_ ?_|refine⟨_,_,_,rfl,?_⟩|refine⟨_,rfl,?_⟩|refine And.intro (by first|omega|trivial|(show _=_;rfl)|(with_reducible constructor)<;>first|omega|trivial|rfl) ?_|refine (ih x I.m _ I.r (by omega)) _ _ ?_|fail
   rename_i N2 ae d' N3 J hx O ak ah
   subst h0
   exact ⟨by unfold zA;simp,λc2=>(ac _ (by omega)).2 _ _ _ rfl (by rw [vH I.g];exact ⟨_,_,rfl,hx,rfl⟩) (xj (O.mono (by omega) (oD _)))⟩
  ·repeat' first|with_reducible intro _|simp only[I.lt,I.w,oK,Y1,Y2,Y3,Y4]|with_reducible refine X ?_ ?_|refine⟨_,_,_,rfl,?_⟩|refine⟨_,rfl,?_⟩|refine And.intro (by first|omega|trivial|(show _=_;rfl)|(with_reducible constructor)<;>first|omega|trivial|rfl) ?_|refine (ih x I.m _ I.r (by omega)) _ _ ?_|fail
   rename_i N2 ae d' N3 J hx O ak ah
   have ao:=U.len
   have aq:(l.take i).length=i:=by rw [o5];omega
   refine ⟨by unfold zA;simp only [oI,nB];omega,λc2=>?_⟩
   exact (ac _ (by omega)).2 _ _ _ rfl (by rw [vH I.g];exact U.snoc hx) (wn (ho.mono (oD _) ae) (xj O) (by omega) J)
theorem v7 {a:Option Addr} {z c:Nat} {es:List D}:∀ x∈(D.sl a z es c).foot,x∈zF es\/∃ ad,a=some ad/\x=ad.block:=by
 intro x hx
 cases a with
 | none=>simp only [D.foot] at hx;exact .inl hx
 | some ad=>
   simp only [D.foot] at hx
   split at hx
   ·simp at hx
   ·rcases oF.1 hx with rfl | hx
    ·exact .inr ⟨ad,rfl,rfl⟩
    ·exact .inl hx
theorem uD {bs:List (Option Addr)} {N N':Nat} {d:D} (J:ux N bs) (O:Own N N' d):Off bs d:=λa U ad I Y=>by
 have:=J a U ad I
 have:=O.lo _ Y
 omega
mutual
def Tm.sz:Tm->Nat
 | .mk _ _ _ _ _ _ l=>1+zg l
def zg:List Tm->Nat
 | []=>0
 | t::I=>t.sz+zg I
end
mutual
theorem Tm.sz_cnt:∀ t:Tm,t.sz<=t.cnt
 | .mk _ _ _ _ ty re l=>by simp only [Tm.sz,Tm.cnt];have:=zHL l;omega
theorem zHL:∀ l:List Tm,zg l<=zI l
 | []=>oD _
 | t::I=>by simp only [zg,zI];have:=t.sz_cnt;have:=zHL I;omega
end
/-- one form of a body's nodes -/
def zSM (k:Int):Bool:=inB k 1 5||k==8
mutual
def Tm.isB:Tm->Bool
 | .mk k _ _ _ _ _ l=>zTC l&&zSM k
def zTC:List Tm->Bool
 | []=>true
 | t::I=>t.isB&&zTC I
end
def Tm.vd (t:Tm):Bool:=decide (t.sz<=80)&&decide (t.dp<=20)&&t.ok
theorem pw:∀ (t:Tm) (d:D),t.Is d->∀ n:Int,0<=n->n<=1000->zGX 129 [.dg 9 d,.j n] (if (t.sz:Int)<=n then n - t.sz else -1):=by
 refine Tm.ind λk nm ot n0 ty re l ih d hd n ae ah N Q hQ=>?_
 obtain ⟨t0,t1,r0,r1,a,es,c,rfl,hh,U,Y⟩:=Tm.is_mk.1 hd
 refine zEv N _ n Q λ_=>?_
 have key:=up Y U (λi xs=>∀ (m:Int) (N':Nat),N<=N' -> -1<=m->m<=1000->(∀ N'',N'<=N''->Q (if m<0 then -1 else if (zg xs:Int)<=m then m - zg xs else -1) N'') ->
  wg Q N m i (.ag [.j k,.t nm,.t ot,.j n0,t0,t1,r0,r1,.sl a 9 es c]) N') ?_ ?_
 ·rw [i64_in _ (by omega)]
  refine key (n - 1) N (oD _) (by omega) (by omega) λN' O=>Qi (hQ N' O) ?_
  simp only [Tm.sz]
  (repeat' split)<;>omega
 ·intro i aa _ m N' O h1 h2 J
  refine sW _ _ _ _ _ _ ?_
  repeat' first|with_reducible intro _|simp only[aa,Y1,Y2,Y3,Y4]|with_reducible refine X ?_ ?_|refine⟨_,_,_,rfl,?_⟩|refine⟨_,rfl,?_⟩|refine And.intro (by first|omega|trivial|(show _=_;rfl)|(with_reducible constructor)<;>first|omega|trivial|rfl) ?_|fail
  refine Qi (J _ (by assumption)) ?_
  simp only [zg]
  (repeat' split)<;>omega
 ·intro i x xs I _ ab m N' O h1 h2 J
  have hb:=I.b
  refine sW _ _ _ _ _ _ ?_
  repeat' first|with_reducible intro _|simp only[I.lt,I.w,oK,Y1,Y2,Y3,Y4]|with_reducible refine X ?_ ?_|refine⟨_,_,_,rfl,?_⟩|refine⟨_,rfl,?_⟩|refine And.intro (by first|omega|trivial|(show _=_;rfl)|(with_reducible constructor)<;>first|omega|trivial|rfl) ?_|refine (ih x I.m _ I.r m (by omega) (by omega)) _ _ ?_|fail
  ·refine ab _ _ (by omega) (by split<;>omega) (by split<;>omega) λN'' ac=>Qi (J N'' (by omega)) ?_
   simp only [zg]
   (repeat' split)<;>omega
  ·refine Qi (J _ (by assumption)) ?_
   rw [if_pos (by omega)]
   omega
theorem zDc:∀ (t:Tm) (d:D),t.Is d->t.cnt<=1073741824->zGX 130 [.dg 9 d] t.dp:=by
 refine Tm.ind λk nm ot n0 ty re l ih d hd hc N Q hQ=>?_
 obtain ⟨t0,t1,r0,r1,a,es,c,rfl,hh,J,U⟩:=Tm.is_mk.1 hd
 refine zDp N _ Q λ_=>?_
 simp only [Tm.cnt] at hc
 have ab:=zCo l
 have key:=up U J (λi xs=>∀ (m:Nat) (N':Nat),N<=N'->max m (uq xs)=uq l->xl Q N (m:Int) i (.ag [.j k,.t nm,.t ot,.j n0,t0,t1,r0,r1,.sl a 9 es c]) N') ?_ ?_
 ·exact key 0 N (oD _) (by omega)
 ·intro i Y _ m N' O hm
  simp only [uq] at hm
  refine tq _ _ _ _ _ _ ?_
  repeat' first|with_reducible intro _|simp only[Y,Y1,Y2,Y3,Y4]|with_reducible refine X ?_ ?_|refine⟨_,_,_,rfl,?_⟩|refine⟨_,rfl,?_⟩|refine And.intro (by first|omega|trivial|(show _=_;rfl)|(with_reducible constructor)<;>first|omega|trivial|rfl) ?_|fail
  rw [i64_in _ (by omega)]
  refine Qi (hQ _ (oN O (by assumption))) ?_
  simp only [Tm.dp]
  omega
 ·intro i x xs I _ aa m N' O hm
  have hb:=I.b
  have ac:=xt I.m
  simp only [uq] at hm
  refine tq _ _ _ _ _ _ ?_
  repeat' first|with_reducible intro _|simp only[I.lt,I.w,oK,Y1,Y2,Y3,Y4]|with_reducible refine X ?_ ?_|refine⟨_,_,_,rfl,?_⟩|refine⟨_,rfl,?_⟩|refine And.intro (by first|omega|trivial|(show _=_;rfl)|(with_reducible constructor)<;>first|omega|trivial|rfl) ?_|refine (ih x I.m _ I.r (by omega)) _ _ ?_|refine (zA0 _ _) _ _ ?_|fail
  have e:max (m:Int) (x.dp:Int)=((max m x.dp:Nat):Int):=by omega
  rw [e]
  exact aa _ _ (by omega) (by omega)
theorem qZ (t:Tm) (d:D) (hd:t.Is d) (hc:t.cnt<=1073741824):zBz 119 [.dg 9 d] t.vd:=λN Q I=>by
 refine qh N _ Q λ_=>?_
 by_cases O:t.sz<=80
 ·have J:((t.sz:Int)<=80):=by omega
  repeat' first|with_reducible intro _|simp only[if_pos J,Y1,Y2,Y3,Y4]|with_reducible refine X ?_ ?_|refine⟨_,_,_,rfl,?_⟩|refine⟨_,rfl,?_⟩|refine And.intro (by first|omega|trivial|(show _=_;rfl)|(with_reducible constructor)<;>first|omega|trivial|rfl) ?_|refine (pw t d hd _ (by omega) (by omega)) _ _ ?_|refine (zDc t d hd hc) _ _ ?_|refine (zFM t d hd hc) _ _ ?_|fail
  all_goals first | omega | skip
  ·have U:t.dp<=20:=by omega
   refine Qb (I _ (by omega)) ?_;simp [Tm.vd, *]
  ·have U:¬t.dp<=20:=by omega
   refine Qb (I _ (by omega)) ?_;simp [Tm.vd, *]
 ·have J:¬((t.sz:Int)<=80):=by omega
  repeat' first|with_reducible intro _|simp only[if_neg J,Y1,Y2,Y3,Y4]|with_reducible refine X ?_ ?_|refine⟨_,_,_,rfl,?_⟩|refine⟨_,rfl,?_⟩|refine And.intro (by first|omega|trivial|(show _=_;rfl)|(with_reducible constructor)<;>first|omega|trivial|rfl) ?_|refine (pw t d hd _ (by omega) (by omega)) _ _ ?_|fail
  all_goals first | omega | skip
  refine Qb (I _ (by omega)) ?_;simp [Tm.vd, *]
theorem yp (l:List ByteArray) (hl:l.length<=4611686018427387904) (a:Option Addr) (c:Nat) (s:ByteArray):zGX 111 [.sv a 0 (zB l) c,.str s] (zLO (λx=>decide (x=s)) l 0):=λN Q hQ=>by
 have O:=wx l
 have U:(zB l).length<=4611686018427387904:=by rw [O.len];exact hl
 refine zDv N a _ c s Q λ_=>?_
 refine up O U (λi xs=>∀ (N':Nat),N<=N'->(∀ N'',N'<=N''->Q (zLO (λx=>decide (x=s)) xs i) N'')->xd Q N a (zB l) c s i N') ?_ ?_ N (oD _) hQ
 ·intro i aa _ N' Y I
  refine t3 _ _ _ _ _ _ _ _ ?_
  repeat' first|with_reducible intro _|simp only[aa,Y1,Y2,Y3,Y4]|with_reducible refine X ?_ ?_|refine⟨_,_,_,rfl,?_⟩|refine⟨_,rfl,?_⟩|refine And.intro (by first|omega|trivial|(show _=_;rfl)|(with_reducible constructor)<;>first|omega|trivial|rfl) ?_|fail
  exact I _ (by omega)
 ·intro i x xs J _ ab N' Y I
  have hb:=J.b
  have hr:=J.r
  simp only [zLO] at I
  refine t3 _ _ _ _ _ _ _ _ ?_
  repeat' first|with_reducible intro _|simp only[J.lt,J.w,oK,hr,Y1,Y2,Y3,Y4]|with_reducible refine X ?_ ?_|refine⟨_,_,_,rfl,?_⟩|refine⟨_,rfl,?_⟩|refine And.intro (by first|omega|trivial|(show _=_;rfl)|(with_reducible constructor)<;>first|omega|trivial|rfl) ?_|fail
  ·rename_i h _ _;subst h;exact Qi (I _ (by omega)) (by simp)
  ·rename_i h;exact ab _ Y λN'' h2=>Qi (I _ h2) (by rw [if_neg (by simpa using h)];simp)
theorem tZ (l:List ByteArray) (s:ByteArray):zB l++[.t s]=zB (l++[s]):=by simp [zB]
theorem zS (l:List ByteArray):(zB l).length=l.length:=by simp [zB]
end Go.Proofs.YtnmnahkkcfghjaaGreat
