/- Copies of terms: the program's and the reference's. -/
import Derived.Test.YtnpjpplbkoammaaGreatDoorWn
import Derived.Test.YtnpjpplbkoammaaGreatDoorKu
set_option linter.unusedVariables false
set_option linter.unusedSimpArgs false
namespace Go.Proofs.YtnpjpplbkoammaaGreatDoor
open Go Go.Proofs Go.Proofs.Tryz Go.IntWalk
theorem zAo {N N1 N2:Nat} {es fs:List D} (h1:OwnL N1 N2 es) (h2:OwnL N N1 fs) (hN:N≤N1) (hN2:N1≤N2):OwnL N N2 (es++fs):=by
 refine ⟨?_,yo h1.fl h2.fl,fun b hb=>?_,fun b hb=>?_⟩
 ·rw [zD,List.nodup_append]
  refine ⟨h1.nd,h2.nd,fun a ha b hb hab=>?_⟩
  have:=h1.lo a ha;have:=h2.hi b hb;omega
 ·rw [zD] at hb
  rcases List.mem_append.1 hb with hb | hb
  ·have:=h1.lo b hb;omega
  ·exact h2.lo b hb
 ·rw [zD] at hb
  rcases List.mem_append.1 hb with hb | hb
  ·exact h1.hi b hb
  ·have:=h2.hi b hb;omega
theorem zJb {a:Option Addr} {z c:Nat} {es:List D} (h:(zB es).Nodup) (ha:∀ ad,a=some ad→ad.block∉zB es):(D.sl a z es c).foot.Nodup:=by
 cases a with
 | none=>simpa only [D.foot] using h
 | some ad=>
   simp only [D.foot]
   split
   ·exact List.nodup_nil
   ·exact List.nodup_cons.2 ⟨ha ad rfl,h⟩
/-- a copied part goes behind the others -/
theorem zGg {N0 N1 N2 N3:Nat} {hd r xs es:List D} {l0 l1 l2 l3:Value} {a:Option Addr} {c:Nat} {ds:List D} (h1:OwnL N0 N1 (hd++r)) (h2:OwnL N1 N2 (xs++es)) (hf:Fresh N0 N3 a ds) (g1:N0≤N1) (g2:N1≤N2) (g3:N2≤N3)
  (d1:∀ ad,a=some ad→ad.block∉zB (hd++r)) (d2:∀ ad,a=some ad→ad.block∉zB (xs++es)):OwnL N0 N3 (hd++(r++[.ag (.lit l0::.lit l1::.lit l2::.lit l3::(xs++[.sl a 9 es c]))])):=by
 have hn1:=h1.nd
 have hn2:=h2.nd
 rw [zD] at hn1 hn2
 have e:zB (hd++(r++[.ag (.lit l0::.lit l1::.lit l2::.lit l3::(xs++[.sl a 9 es c]))]))=zB (hd++r)++(zB xs++(D.sl a 9 es c).foot):=by
  simp only [zD,zB,D.foot,List.nil_append,List.append_nil,List.append_assoc]
 have hfl1:=h1.fl
 have hfl2:=h2.fl
 have hbs:∀ b,b∈(D.sl a 9 es c).foot→b∈zB (xs++es)∨∃ ad,a=some ad∧b=ad.block:=fun b hb=>by
  rcases vY b hb with h | h
  ·left;rw [zD];exact List.mem_append_right _ h
  ·exact .inr h
 refine ⟨?_,?_,fun b hb=>?_,fun b hb=>?_⟩
 ·rw [e,List.nodup_append]
  refine ⟨h1.nd,?_,fun x hx y hy hxy=>?_⟩
  ·rw [List.nodup_append] at hn2 ⊢
   refine ⟨hn2.1,zJb hn2.2.1 fun ad h hc=>d2 ad h (by rw [zD];exact List.mem_append_right _ hc),fun x hx y hy hxy=>?_⟩
   subst hxy
   rcases vY x hy with h | ⟨ad,h9,h'⟩
   ·exact hn2.2.2 x hx x h rfl
   ·subst h';exact d2 ad h9 (by rw [zD];exact List.mem_append_left _ hx)
  ·subst hxy
   have hxi:=h1.hi x hx
   rcases List.mem_append.1 hy with h | h
   ·have:=h2.lo x (by rw [zD];exact List.mem_append_left _ h);omega
   ·rcases hbs x h with h | ⟨ad,h9,h'⟩
    ·have:=h2.lo x h;omega
    ·subst h';exact d1 ad h9 hx
 ·have hxs:xB xs∧xB es:=by
   have:∀ (u v:List D),xB (u++v)→xB u∧xB v:=by
    intro u
    induction u with
    | nil=>intro v h;exact ⟨trivial,h⟩
    | cons y u ih=>intro v h;obtain ⟨g1,g2⟩:=ih v h.2;exact ⟨⟨h.1,g1⟩,g2⟩
   exact this _ _ hfl2
  have hpr:xB hd∧xB r:=by
   have:∀ (u v:List D),xB (u++v)→xB u∧xB v:=by
    intro u
    induction u with
    | nil=>intro v h;exact ⟨trivial,h⟩
    | cons y u ih=>intro v h;obtain ⟨g1,g2⟩:=ih v h.2;exact ⟨⟨h.1,g1⟩,g2⟩
   exact this _ _ hfl1
  refine yo hpr.1 (yo hpr.2 ⟨?_,trivial⟩)
  have hsl:D.Flat0 (.sl a 9 es c):=⟨fun ad h=>hf.off ad h,hxs.2⟩
  exact ⟨trivial,trivial,trivial,trivial,yo hxs.1 ⟨hsl,trivial⟩⟩
 ·rw [e] at hb
  rcases List.mem_append.1 hb with h | h
  ·exact h1.lo b h
  ·rcases List.mem_append.1 h with h | h
   ·have:=h2.lo b (by rw [zD];exact List.mem_append_left _ h);omega
   ·rcases hbs b h with h | ⟨ad,h9,h'⟩
    ·have:=h2.lo b h;omega
    ·subst h';exact hf.lo ad h9
 ·rw [e] at hb
  rcases List.mem_append.1 hb with h | h
  ·have:=h1.hi b h;omega
  ·rcases List.mem_append.1 h with h | h
   ·have:=h2.hi b (by rw [zD];exact List.mem_append_left _ h);omega
   ·rcases hbs b h with h | ⟨ad,h9,h'⟩
    ·have:=h2.hi b h;omega
    ·subst h';exact hf.hi ad h9
/-- the reference's copy, told cell by cell -/
theorem zN0:∀ (t:Tm) (d:D),t.Is d→t.cnt≤1073741824→∀ (N:Nat) (Q:QT [.pk,.int .i64,.str,.str,.int .i64,.dc,.dc,.dc,.dc,.row 34 9]),
  (match t with | .mk k nm ot n ty re l=>∀ x4 x5 x6 x7 es' c' N',N≤N'→Tm.Hd nm ot ty re x4 x5 x6 x7→All2 Tm.Is l es'→OwnL N N' ([x4,x5,x6,x7]++es')→Q k nm ot n x4 x5 x6 x7 es' c' N') →
  ACalls prog 35 [.pk,.int .i64,.str,.str,.int .i64,.dc,.dc,.dc,.dc,.row 34 9] [.dg 9 d] N Q:=by
 refine Tm.ind fun k nm ot n0 ty re l ih d hd hc N Q hQ=>?_
 obtain ⟨t0,t1,r0,r1,a,es,c,rfl,hh,hlen,hes⟩:=Tm.is_mk.1 hd
 have hl:=hes.len
 simp only [Tm.cnt] at hc
 have hlc:=wj l
 simp only at hQ
 refine q8 N _ Q fun _=>?_
 repeat' first|with_reducible intro _|simp only[Y1,Y2,Y3,Y4]|(with_reducible first|refine X1 ?_ ?_|refine X2 ?_ ?_|refine X3 ?_ ?_|refine X4 ?_ ?_|refine X5 ?_ ?_|refine X6 ?_ ?_|refine X7 ?_ ?_|refine X8 ?_ ?_|refine X9 ?_ ?_)|refine⟨_,_,_,rfl,?_⟩|refine⟨_,rfl,?_⟩|((with_reducible refine And.intro ?_ ?_);·first|omega|trivial|(show _=_;rfl)|((with_reducible refine And.intro ?_ ?_)<;>first|omega|trivial|(show _=_;rfl)))|refine (vM _ _ hh.ty (by omega)) _ _ ?_|refine (vM _ _ hh.re (by omega)) _ _ ?_|fail
 rename_i N1 hN1 x1 N2 hN2 hx hox _ _ N3 hN3 y N4 hN4 hy hoy _ _
 have hHd:Tm.Hd nm ot ty re (x1.cell 0) (x1.cell 1) (y.cell 0) (y.cell 1):=⟨hh.nm,hh.ot,Ty.is_cells hx,Ty.is_cells hy⟩
 have hOX:OwnL N N4 ([x1.cell 0,x1.cell 1,y.cell 0,y.cell 1]++[]):=by
  have h:=yV ((ww hx hox).mono hN1 (Nat.le_refl _)) ((ww hy hoy).mono hN3 (Nat.le_refl _)) (by omega) (by omega)
  exact h
 refine up hes hlen (fun i xs=>∀ (done:List D) (q N':Nat),N4≤N'→All2 Tm.Is (l.take i) done→done.length=i→OwnL N N' ([x1.cell 0,x1.cell 1,y.cell 0,y.cell 1]++done) →
  xE Q N i (.ag [.lit (.int .i64 k),.lit (.string nm),.lit (.string ot),.lit (.int .i64 n0),t0,t1,r0,r1,.sl a 9 es c]) 0 (bytes []) (bytes []) 0 0 none [] 0 0 none [] 0 none [] 0 k nm ot n0 (x1.cell 0) (x1.cell 1) (y.cell 0) (y.cell 1) done.length q done q N') ?_ ?_ [] 0 N4 (Nat.le_refl _) rfl rfl hOX
 ·intro i hlt hi done q N' hN' hd hdl ho
  refine wQ _ _ _ _ _ _ _ _ _ _ _ _ _ _ _ _ _ _ _ _ _ _ _ _ _ _ _ _ _ _ _ _ ⟨_,_,_,rfl,?_⟩
  rw [List.take_of_length_le (by omega)] at hd
  rw [hlt]
  exact ⟨⟨rfl,rfl⟩,fun N5 hN5=>hQ _ _ _ _ _ _ _ (by omega) hHd hd (ho.mono (Nat.le_refl _) hN5)⟩
 ·intro i x xs hat _ ih2 done q N' hN' hd hdl ho
  have hb:=hat.b
  have hxc:=wh hat.m
  refine wQ _ _ _ _ _ _ _ _ _ _ _ _ _ _ _ _ _ _ _ _ _ _ _ _ _ _ _ _ _ _ _ _ ⟨_,_,_,rfl,?_⟩
  rw [hat.lt]
  refine ⟨_,_,_,rfl,⟨by omega,by omega⟩,fun N5 hN5=>?_⟩
  rw [Int.toNat_natCast,hat.w]
  refine ih x hat.m _ hat.r (by omega) _ _ ?_
  cases x with
  | mk k2 nm2 ot2 n2 ty2 re2 l2=>
    intro x4 x5 x6 x7 es2 c2 N6 hN6 hh2 hes2 ho2 _ _
    have hl2:=hes2.len
    have hlc2:=wj l2
    simp only [Tm.cnt] at hxc
    refine ⟨⟨rfl,rfl⟩,fun a2 N7 hN7 hf=>⟨⟨rfl,rfl⟩,by unfold zL;rw [List.length_append];simp only [List.length_cons,List.length_nil];omega,fun c3=>?_⟩⟩
    refine ih2 _ _ _ (by omega) (by rw [yu hat.g];exact hd.snoc (Tm.is_mk.2 ⟨_,_,_,_,_,_,_,rfl,hh2,by omega,hes2⟩)) (by simp [hdl]) ?_
    refine zGg (hd:=[x1.cell 0,x1.cell 1,y.cell 0,y.cell 1]) (xs:=[x4,x5,x6,x7]) (ho.mono (Nat.le_refl _) hN5) ho2 hf (by omega) (by omega) (by omega) ?_ ?_
    ·intro ad h hc
     have hap:=hf.ap ad h
     simp only [List.mem_cons,forall_eq_or_imp,D.foot,List.not_mem_nil,false_imp_iff,implies_true,and_true] at hap
     simp only [List.cons_append,List.nil_append,zB,List.mem_append] at hc
     obtain ⟨_,_,_,_,_,g1,g2,g3,g4,g5⟩:=hap
     rcases hc with hc | hc | hc | hc | hc
     ·exact g1 hc
     ·exact g2 hc
     ·exact g3 hc
     ·exact g4 hc
     ·exact g5 hc
    ·intro ad h hc
     have hap:=hf.ap ad h
     simp only [List.mem_cons,forall_eq_or_imp,D.foot,List.not_mem_nil,false_imp_iff,implies_true,and_true] at hap
     simp only [List.cons_append,List.nil_append,zB,List.mem_append] at hc
     obtain ⟨g5,g1,g2,g3,g4,_⟩:=hap
     rcases hc with hc | hc | hc | hc | hc
     ·exact g1 hc
     ·exact g2 hc
     ·exact g3 hc
     ·exact g4 hc
     ·exact g5 hc
theorem zFt {N N':Nat} {es:List D} (h:OwnL N N' es):OwnL N N' (.sl none 2 [] 0::es):=
 ⟨by simpa only [zB,D.foot,List.nil_append] using h.nd,⟨⟨by simp,trivial⟩,h.fl⟩,by simpa only [zB,D.foot,List.nil_append] using h.lo,by simpa only [zB,D.foot,List.nil_append] using h.hi⟩
/-- a node of the reference: the parts are copied -/
theorem zNl (k:Int) {l:List Tm} {es:List D} (hes:All2 Tm.Is l es) (hlen:es.length≤1073741824) (hc:∀ x∈l,x.cnt≤1073741824) (a:Option Addr) (c:Nat) (N:Nat) (Q:QT [.ag 9])
  (hQ:∀ d' N',N≤N'→(Tm.mk k (bytes []) (bytes []) 0 (.mk 0 []) (.mk 0 []) l).Is d'→Own N N' d'→Q d' N') :
  ACalls prog 86 [.ag 9] [.int .i64 k,.sv a 9 es c] N Q:=by
 have hl:=hes.len
 refine qn N _ a es c Q fun _=>?_
 refine up hes (by omega) (fun i xs=>∀ (done:List D) (q N':Nat),N≤N'→All2 Tm.Is (l.take i) done→done.length=i→OwnL N N' done →
  xD Q N a es c i 0 (bytes []) (bytes []) 0 0 none [] 0 0 none [] 0 none [] 0 k (bytes []) (bytes []) 0 0 none [] 0 0 none [] 0 done.length q done q N') ?_ ?_ [] 0 N (Nat.le_refl _) rfl rfl rU
 ·intro i hlt hi done q N' hN' hd hdl ho
  refine wV _ _ _ _ _ _ _ _ _ _ _ _ _ _ _ _ _ _ _ _ _ _ _ _ _ _ _ _ _ _ _ _ _ _ _ _ _ _ ?_
  rw [List.take_of_length_le (by omega)] at hd
  rw [hlt]
  refine ⟨⟨rfl,rfl⟩,⟨rfl,rfl⟩,⟨rfl,rfl⟩,fun a1 N4 hN4 hf N5 hN5=>hQ _ _ (by omega) (Tm.is_mk.2 ⟨_,_,_,_,_,_,_,rfl,⟨by decide,by decide,sF _,sF _⟩,by omega,hd⟩) ?_⟩
  exact zCN (zY (zY (zY (zY (zY (zFt (zY (zFt (xP ((zBd ho hf hN4).mono (Nat.le_refl _) hN5))))))))))
 ·intro i x xs hat _ ih2 done q N' hN' hd hdl ho
  have hb:=hat.b
  have hxc:=hc x hat.m
  refine wV _ _ _ _ _ _ _ _ _ _ _ _ _ _ _ _ _ _ _ _ _ _ _ _ _ _ _ _ _ _ _ _ _ _ _ _ _ _ ?_
  rw [hat.lt]
  refine ⟨⟨by omega,by omega⟩,fun N5 hN5=>?_⟩
  rw [Int.toNat_natCast,hat.w]
  refine zN0 x _ hat.r (by omega) _ _ ?_
  cases x with
  | mk k2 nm2 ot2 n2 ty2 re2 l2=>
    intro x4 x5 x6 x7 es2 c2 N6 hN6 hh2 hes2 ho2 _ _
    have hl2:=hes2.len
    have hlc2:=wj l2
    simp only [Tm.cnt] at hxc
    refine ⟨⟨rfl,rfl⟩,fun a2 N7 hN7 hf=>⟨⟨rfl,rfl⟩,by unfold zL;rw [List.length_append];simp only [List.length_cons,List.length_nil];omega,fun c3=>?_⟩⟩
    refine ih2 _ _ _ (by omega) (by rw [yu hat.g];exact hd.snoc (Tm.is_mk.2 ⟨_,_,_,_,_,_,_,rfl,hh2,by omega,hes2⟩)) (by simp [hdl]) ?_
    refine zGg (hd:=[]) (xs:=[x4,x5,x6,x7]) (ho.mono (Nat.le_refl _) hN5) ho2 hf (by omega) (by omega) (by omega) ?_ ?_
    ·intro ad h hc
     have hap:=hf.ap ad h (.ag done) (by simp)
     exact hap (by simpa only [D.foot,List.nil_append] using hc)
    ·intro ad h hc
     have hap:=hf.ap ad h
     simp only [List.cons_append,List.nil_append,zB,List.mem_append] at hc
     rcases hc with hc | hc | hc | hc | hc
     ·exact hap x4 (by simp) hc
     ·exact hap x5 (by simp) hc
     ·exact hap x6 (by simp) hc
     ·exact hap x7 (by simp) hc
     ·exact hap (.ag es2) (by simp) (by simpa only [D.foot] using hc)
end Go.Proofs.YtnpjpplbkoammaaGreatDoor
