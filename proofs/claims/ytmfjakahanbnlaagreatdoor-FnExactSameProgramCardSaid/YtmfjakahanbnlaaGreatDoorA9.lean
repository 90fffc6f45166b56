/- Equal terms. -/
import Derived.Test.YtmfjakahanbnlaaGreatDoorA5
import Derived.Test.YtmfjakahanbnlaaGreatDoorKu
set_option linter.unusedVariables false
set_option linter.unusedSimpArgs false
namespace Go.Proofs.YtmfjakahanbnlaaGreatDoor
open Go Go.Proofs Go.Proofs.Tryz Go.IntWalk
mutual
def zGa:Tm→Tm→Bool
 | .mk k nm ot n ty re l,.mk k' nm' ot' n' ty' re' l'=>decide (k=k')&&(decide (nm=nm')&&(decide (ot=ot')&&(decide (n=n')&&(zBa ty ty'&&(zBa re re'&&vu l l')))))
def vu:List Tm→List Tm→Bool
 | [],[]=>true
 | x::xs,y::ys=>zGa x y&&vu xs ys
 | _,_=>false
end
theorem qz:∀ {l m:List Tm},(∀ t∈l,∀ u,zGa t u=true↔t=u)→(vu l m=true↔l=m)
 | [],[],_=>by simp [vu]
 | [],_::_,_=>by simp [vu]
 | _::_,[],_=>by simp [vu]
 | x::l,y::m,h=>by
   have h1:=h x (by simp) y
   have h2:=qz (l:=l) (m:=m) fun t ht=>h t (by simp [ht])
   simp only [vu,Bool.and_eq_true,h1,h2,List.cons.injEq]
theorem zGs:∀ (t u:Tm),zGa t u=true↔t=u:=by
 refine Tm.ind fun k nm ot n ty re l ih u=>?_
 cases u with
 | mk k' nm' ot' n' ty' re' l'=>
   have h1:=qz (m:=l') ih
   simp only [zGa,Bool.and_eq_true,decide_eq_true_eq,rl,h1,Tm.mk.injEq]
theorem zCM {l m:List Tm} (h:l.length≠m.length):vu l m=false:=by
 cases hc:vu l m with
 | false=>rfl
 | true=>exact absurd (congrArg List.length ((qz fun t _=>zGs t).1 hc)) h
theorem rT:∀ (t u:Tm) (d e:D),t.Is d→u.Is e→vb 41 [.dg 9 d,.dg 9 e] (zGa t u):=by
 refine Tm.ind fun k nm ot m ty re l ih u d e hd he N Q hQ=>?_
 cases u with
 | mk k' nm' ot' m' ty' re' l'=>
 obtain ⟨t0,t1,r0,r1,a,es,c,rfl,hh,hlen,hes⟩:=Tm.is_mk.1 hd
 obtain ⟨u0,u1,v0,v1,a',es',c',rfl,hh',hlen',hes'⟩:=Tm.is_mk.1 he
 have hl:=hes.len
 have hl':=hes'.len
 simp only [zGa] at hQ
 have key:l.length=l'.length→∀ (N':Nat),N≤N'→(∀ N'',N'≤N''→Q (vu l (l'.drop 0)) N'')→zm Q N (0:Nat) (.ag [.lit (.int .i64 k),.lit (.string nm),.lit (.string ot),.lit (.int .i64 m),t0,t1,r0,r1,.sl a 9 es c]) (.ag [.lit (.int .i64 k'),.lit (.string nm'),.lit (.string ot'),.lit (.int .i64 m'),u0,u1,v0,v1,.sl a' 9 es' c']) N':=by
  intro hll
  refine up hes hlen (fun i xs=>∀ (N':Nat),N≤N'→(∀ N'',N'≤N''→Q (vu xs (l'.drop i)) N'')→zm Q N i (.ag [.lit (.int .i64 k),.lit (.string nm),.lit (.string ot),.lit (.int .i64 m),t0,t1,r0,r1,.sl a 9 es c]) (.ag [.lit (.int .i64 k'),.lit (.string nm'),.lit (.string ot'),.lit (.int .i64 m'),u0,u1,v0,v1,.sl a' 9 es' c']) N') ?_ ?_
  ·intro i hlt hi N' hN' hQ'
   refine wc _ _ _ _ _ _ ?_
   repeat' first|with_reducible intro _|simp only[hlt,Y1,Y2,Y3,Y4]|with_reducible refine X ?_ ?_|refine⟨_,_,_,rfl,?_⟩|refine⟨_,rfl,?_⟩|refine And.intro (by first|omega|trivial|(show _=_;rfl)|(with_reducible constructor)<;>first|omega|trivial|rfl) ?_|fail
   refine Qb (hQ' _ (by assumption)) ?_
   rw [List.drop_eq_nil_of_le (by omega)]
   rfl
  ·intro i x xs hat _ ih2 N' hN' hQ'
   have hb:=hat.b
   have hi':i<l'.length:=by omega
   have hg:l'[i]?=some l'[i]:=List.getElem?_eq_getElem hi'
   have hd':l'.drop i=l'[i]::l'.drop (i+1):=List.drop_eq_getElem_cons hi'
   refine wc _ _ _ _ _ _ ?_
   rw [hd'] at hQ'
   repeat' first|with_reducible intro _|simp only[hat.lt,hat.w,Int.toNat_natCast,Y1,Y2,Y3,Y4]|with_reducible refine X ?_ ?_|refine⟨_,_,_,rfl,?_⟩|refine⟨_,rfl,?_⟩|refine And.intro (by first|omega|trivial|(show _=_;rfl)|(with_reducible constructor)<;>first|omega|trivial|rfl) ?_|refine (ih x hat.m _ _ _ hat.r (hes'.get hg)) _ _ ?_|fail
   ·exact Qb (hQ' _ (by omega)) (by simp [vu, *])
   ·exact ih2 _ (by omega) fun N'' h=>Qb (hQ' N'' (by omega)) (by simp [vu, *])
 refine rO N _ _ Q fun _ _=>?_
 repeat' first|with_reducible intro _|simp only[Y1,Y2,Y3,Y4]|with_reducible refine X ?_ ?_|refine⟨_,_,_,rfl,?_⟩|refine⟨_,rfl,?_⟩|refine And.intro (by first|omega|trivial|(show _=_;rfl)|(with_reducible constructor)<;>first|omega|trivial|rfl) ?_|refine (vI _ _ _ _ hh.ty hh'.ty) _ _ ?_|refine (vI _ _ _ _ hh.re hh'.re) _ _ ?_|fail
 all_goals first | exact key (by omega) _ (by omega) fun N'' hN''=>Qb (hQ _ (by omega)) (by simp [*]) | exact Qb (hQ _ (by omega)) (by rw [zCM (l:=l) (m:=l') (by omega)];simp) | exact Qb (hQ _ (by omega)) (by simp [*])
theorem rL {l l':List Tm} {es es':List D} (hes:All2 Tm.Is l es) (hes':All2 Tm.Is l' es') (hlen:es.length≤4611686018427387904) (hlen':es'.length≤4611686018427387904) (a a':Option Addr) (c c':Nat)
  (ih:∀ t∈l,∀ (u:Tm) (d e:D),t.Is d→u.Is e→vb 51 [.dg 9 d,.dg 9 e] (zGa t u)):vb 114 [.sv a 9 es c,.sv a' 9 es' c',.fn 51 []] (vu l l'):=fun N Q hQ=>by
 have hl:=hes.len
 have hl':=hes'.len
 refine wO N _ _ _ _ _ _ Q fun _ _=>Br.bne (fun h N1 hN1=>Qb (hQ _ hN1) (zCM (by omega))) fun h=>?_
 refine up hes hlen (fun i xs=>∀ (N':Nat),N≤N'→(∀ N'',N'≤N''→Q (vu xs (l'.drop i)) N'')→zX Q N a' es' c' a es c es.length i N') ?_ ?_ N (Nat.le_refl _) hQ
 ·intro i hlt hi N' hN' hQ'
  refine yZ _ _ _ _ _ _ _ _ _ _ _ ?_
  repeat' first|with_reducible intro _|simp only[hlt,Y1,Y2,Y3,Y4]|with_reducible refine X ?_ ?_|refine⟨_,_,_,rfl,?_⟩|refine⟨_,rfl,?_⟩|refine And.intro (by first|omega|trivial|(show _=_;rfl)|(with_reducible constructor)<;>first|omega|trivial|rfl) ?_|fail
  refine Qb (hQ' _ (by assumption)) ?_
  rw [List.drop_eq_nil_of_le (by omega)]
  rfl
 ·intro i x xs hat _ ih2 N' hN' hQ'
  have hb:=hat.b
  have hi':i<l'.length:=by omega
  have hg:l'[i]?=some l'[i]:=List.getElem?_eq_getElem hi'
  have hd':l'.drop i=l'[i]::l'.drop (i+1):=List.drop_eq_getElem_cons hi'
  refine yZ _ _ _ _ _ _ _ _ _ _ _ ?_
  rw [hd'] at hQ'
  repeat' first|with_reducible intro _|simp only[hat.lt,hat.w,Int.toNat_natCast,Y1,Y2,Y3,Y4]|with_reducible refine X ?_ ?_|refine⟨_,_,_,rfl,?_⟩|refine⟨_,rfl,?_⟩|refine And.intro (by first|omega|trivial|(show _=_;rfl)|(with_reducible constructor)<;>first|omega|trivial|rfl) ?_|refine (ih x hat.m _ _ _ hat.r (hes'.get hg)) _ _ ?_|fail
  ·exact Qb (hQ' _ (by omega)) (by simp [vu, *])
  ·exact ih2 _ (by omega) fun N'' h=>Qb (hQ' N'' (by omega)) (by simp [vu, *])
theorem rI:∀ (t u:Tm) (d e:D),t.Is d→u.Is e→vb 51 [.dg 9 d,.dg 9 e] (zGa t u):=by
 refine Tm.ind fun k nm ot m ty re l ih u d e hd he N Q hQ=>?_
 cases u with
 | mk k' nm' ot' m' ty' re' l'=>
 obtain ⟨t0,t1,r0,r1,a,es,c,rfl,hh,hlen,hes⟩:=Tm.is_mk.1 hd
 obtain ⟨u0,u1,v0,v1,a',es',c',rfl,hh',hlen',hes'⟩:=Tm.is_mk.1 he
 simp only [zGa] at hQ
 refine rS N _ _ Q fun _ _=>?_
 repeat' first|with_reducible intro _|simp only[Y1,Y2,Y3,Y4]|with_reducible refine X ?_ ?_|refine⟨_,_,_,rfl,?_⟩|refine⟨_,rfl,?_⟩|refine And.intro (by first|omega|trivial|(show _=_;rfl)|(with_reducible constructor)<;>first|omega|trivial|rfl) ?_|refine (zl _ _ _ _ hh.ty hh'.ty) _ _ ?_|refine (zl _ _ _ _ hh.re hh'.re) _ _ ?_|refine (rL hes hes' hlen hlen' _ _ _ _ ih) _ _ ?_|fail
 all_goals first | exact Qb (hQ _ (by omega)) (by simp [*]) | skip
end Go.Proofs.YtmfjakahanbnlaaGreatDoor
