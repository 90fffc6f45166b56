/- Copies of terms: the program's and the reference's. -/
import Derived.Test.YtkdjhkfiolhkiaaGreatWn
import Derived.Test.YtkdjhkfiolhkiaaGreatKu
set_option linter.unusedVariables false
set_option linter.unusedSimpArgs false
namespace Go.Proofs.YtkdjhkfiolhkiaaGreat
open Go Go.Proofs Go.Proofs.Tryz Go.IntWalk
theorem zGy {N N1 N2:Nat} {es fs:List D} (h1:OwnL N1 N2 es) (h2:OwnL N N1 fs) (hN:N<=N1) (hN2:N1<=N2):OwnL N N2 (es++fs):=by
 refine ⟨?_,ya h1.fl h2.fl,fun b hb=>?_,fun b hb=>?_⟩
 ·rw [zD,ou]
  refine ⟨h1.nd,h2.nd,fun a ha b hb hab=>?_⟩
  have:=h1.lo a ha;have:=h2.hi b hb;omega
 ·rw [zD] at hb
  rcases oI.1 hb with hb | hb
  ·have:=h1.lo b hb;omega
  ·exact h2.lo b hb
 ·rw [zD] at hb
  rcases oI.1 hb with hb | hb
  ·exact h1.hi b hb
  ·have:=h2.hi b hb;omega
theorem zJD {a:Option Addr} {z c:Nat} {es:List D} (h:(zE es).Nodup) (ha:∀ ad,a=some ad->ad.block∉zE es):(D.sl a z es c).foot.Nodup:=by
 cases a with
 | none=>simpa only [D.foot] using h
 | some ad=>
   simp only [D.foot]
   split
   ·exact mL
   ·exact nZ.2 ⟨ha ad rfl,h⟩
/-- a copied part goes behind the others -/
theorem zJV {N0 N1 N2 N3:Nat} {hd r xs es:List D} {l0 l1 l2 l3:Value} {a:Option Addr} {c:Nat} {ds:List D} (h1:OwnL N0 N1 (hd++r)) (h2:OwnL N1 N2 (xs++es)) (hf:Fresh N0 N3 a ds) (g1:N0<=N1) (g2:N1<=N2) (g3:N2<=N3)
  (d1:∀ ad,a=some ad->ad.block∉zE (hd++r)) (d2:∀ ad,a=some ad->ad.block∉zE (xs++es)):OwnL N0 N3 (hd++(r++[.ag (.lit l0::.lit l1::.lit l2::.lit l3::(xs++[.sl a 9 es c]))])):=by
 have hn1:=h1.nd
 have hn2:=h2.nd
 rw [zD] at hn1 hn2
 have e:zE (hd++(r++[.ag (.lit l0::.lit l1::.lit l2::.lit l3::(xs++[.sl a 9 es c]))]))=zE (hd++r)++(zE xs++(D.sl a 9 es c).foot):=by
  simp only [zD,zE,D.foot,oZ,nW,nc]
 have hfl1:=h1.fl
 have hfl2:=h2.fl
 have hbs:∀ b,b∈(D.sl a 9 es c).foot->b∈zE (xs++es)\/∃ ad,a=some ad/\b=ad.block:=fun b hb=>by
  rcases vU b hb with h | h
  ·left;rw [zD];exact oi _ h
  ·exact .inr h
 refine ⟨?_,?_,fun b hb=>?_,fun b hb=>?_⟩
 ·rw [e,ou]
  refine ⟨h1.nd,?_,fun x hx y hy hxy=>?_⟩
  ·rw [ou] at hn2 ⊢
   refine ⟨hn2.1,zJD hn2.2.1 fun ad h hc=>d2 ad h (by rw [zD];exact oi _ hc),fun x hx y hy hxy=>?_⟩
   subst hxy
   rcases vU x hy with h | ⟨ad,h9,h'⟩
   ·exact hn2.2.2 x hx x h rfl
   ·subst h';exact d2 ad h9 (by rw [zD];exact oY _ hx)
  ·subst hxy
   have hxi:=h1.hi x hx
   rcases oI.1 hy with h | h
   ·have:=h2.lo x (by rw [zD];exact oY _ h);omega
   ·rcases hbs x h with h | ⟨ad,h9,h'⟩
    ·have:=h2.lo x h;omega
    ·subst h';exact d1 ad h9 hx
 ·have hxs:xQ xs/\xQ es:=by
   have:∀ (u v:List D),xQ (u++v)->xQ u/\xQ v:=by
    intro u
    induction u with
    | nil=>intro v h;exact ⟨trivial,h⟩
    | cons y u ih=>intro v h;obtain ⟨g1,g2⟩:=ih v h.2;exact ⟨⟨h.1,g1⟩,g2⟩
   exact this _ _ hfl2
  have hpr:xQ hd/\xQ r:=by
   have:∀ (u v:List D),xQ (u++v)->xQ u/\xQ v:=by
    intro u
    induction u with
    | nil=>intro v h;exact ⟨trivial,h⟩
    | cons y u ih=>intro v h;obtain ⟨g1,g2⟩:=ih v h.2;exact ⟨⟨h.1,g1⟩,g2⟩
   exact this _ _ hfl1
  refine ya hpr.1 (ya hpr.2 ⟨?_,trivial⟩)
  have hsl:D.Flat0 (.sl a 9 es c):=⟨fun ad h=>hf.off ad h,hxs.2⟩
  exact ⟨trivial,trivial,trivial,trivial,ya hxs.1 ⟨hsl,trivial⟩⟩
 ·rw [e] at hb
  rcases oI.1 hb with h | h
  ·exact h1.lo b h
  ·rcases oI.1 h with h | h
   ·have:=h2.lo b (by rw [zD];exact oY _ h);omega
   ·rcases hbs b h with h | ⟨ad,h9,h'⟩
    ·have:=h2.lo b h;omega
    ·subst h';exact hf.lo ad h9
 ·rw [e] at hb
  rcases oI.1 hb with h | h
  ·have:=h1.hi b h;omega
  ·rcases oI.1 h with h | h
   ·have:=h2.hi b (by rw [zD];exact oY _ h);omega
   ·rcases hbs b h with h | ⟨ad,h9,h'⟩
    ·have:=h2.hi b h;omega
    ·subst h';exact hf.hi ad h9
/-- the reference's copy, told cell by cell -/
theorem zNf:∀ (t:Tm) (d:D),t.Is d->t.cnt<=1073741824->∀ (N:Nat) (Q:QT [.pk,.int .i64,.str,.str,.int .i64,.dc,.dc,.dc,.dc,.row 30 9]),
  (match t with | .mk k nm ot n ty re l=>∀ x4 x5 x6 x7 es' c' N',N<=N'->Tm.Hd nm ot ty re x4 x5 x6 x7->All2 Tm.Is l es'->OwnL N N' ([x4,x5,x6,x7]++es')->Q k nm ot n x4 x5 x6 x7 es' c' N') ->
  ACalls prog 124 [.pk,.int .i64,.str,.str,.int .i64,.dc,.dc,.dc,.dc,.row 30 9] [.dg 9 d] N Q:=by
 refine Tm.ind fun k nm ot n0 ty re l ih d hd hc N Q hQ=>?_
 obtain ⟨t0,t1,r0,r1,a,es,c,rfl,hh,hlen,hes⟩:=Tm.is_mk.1 hd
 have hl:=hes.len
 simp only [Tm.cnt] at hc
 have hlc:=vY l
 simp only at hQ
 refine qf N _ Q fun _=>?_
 repeat' first|with_reducible intro _|simp only[Y1,Y2,Y3,Y4]|with_reducible refine X ?_ ?_|refine⟨_,_,_,rfl,?_⟩|refine⟨_,rfl,?_⟩|refine And.intro (by first|omega|trivial|(show _=_;rfl)|(with_reducible constructor)<;>first|omega|trivial|rfl) ?_|refine (zR _ _ hh.ty (by omega)) _ _ ?_|refine (zR _ _ hh.re (by omega)) _ _ ?_|fail
 rename_i N1 hN1 x1 N2 hN2 hx hox _ _ N3 hN3 y N4 hN4 hy hoy _ _
 have hHd:Tm.Hd nm ot ty re (x1.cell 0) (x1.cell 1) (y.cell 0) (y.cell 1):=⟨hh.nm,hh.ot,Ty.is_cells hx,Ty.is_cells hy⟩
 have hOX:OwnL N N4 ([x1.cell 0,x1.cell 1,y.cell 0,y.cell 1]++[]):=by
  have h:=wb ((uQ hx hox).mono hN1 (oD _)) ((uQ hy hoy).mono hN3 (oD _)) (by omega) (by omega)
  exact h
 refine up hes hlen (fun i xs=>∀ (done:List D) (q N':Nat),N4<=N'->All2 Tm.Is (l.take i) done->done.length=i->OwnL N N' ([x1.cell 0,x1.cell 1,y.cell 0,y.cell 1]++done) ->
  yz Q N i (.ag [.lit (.int .i64 k),.lit (.string nm),.lit (.string ot),.lit (.int .i64 n0),t0,t1,r0,r1,.sl a 9 es c]) 0 (bytes []) (bytes []) 0 0 none [] 0 0 none [] 0 none [] 0 k nm ot n0 (x1.cell 0) (x1.cell 1) (y.cell 0) (y.cell 1) done.length q done q N') ?_ ?_ [] 0 N4 (oD _) rfl rfl hOX
 ·intro i hlt hi done q N' hN' hd hdl ho
  refine wF _ _ _ _ _ _ _ _ _ _ _ _ _ _ _ _ _ _ _ _ _ _ _ _ _ _ _ _ _ _ _ _ ⟨_,_,_,rfl,?_⟩
  rw [nB (by omega)] at hd
  rw [hlt]
  exact ⟨⟨rfl,rfl⟩,fun N5 hN5=>hQ _ _ _ _ _ _ _ (by omega) hHd hd (ho.mono (oD _) hN5)⟩
 ·intro i x xs hat _ ih2 done q N' hN' hd hdl ho
  have hb:=hat.b
  have hxc:=wc hat.m
  refine wF _ _ _ _ _ _ _ _ _ _ _ _ _ _ _ _ _ _ _ _ _ _ _ _ _ _ _ _ _ _ _ _ ⟨_,_,_,rfl,?_⟩
  rw [hat.lt]
  refine ⟨_,_,_,rfl,⟨by omega,by omega⟩,fun N5 hN5=>?_⟩
  rw [oJ,hat.w]
  refine ih x hat.m _ hat.r (by omega) _ _ ?_
  cases x with
  | mk k2 nm2 ot2 n2 ty2 re2 l2=>
    intro x4 x5 x6 x7 es2 c2 N6 hN6 hh2 hes2 ho2 _ _
    have hl2:=hes2.len
    have hlc2:=vY l2
    simp only [Tm.cnt] at hxc
    refine ⟨⟨rfl,rfl⟩,fun a2 N7 hN7 hf=>⟨⟨rfl,rfl⟩,by unfold zB;rw [oH];simp only [oP,od];omega,fun c3=>?_⟩⟩
    refine ih2 _ _ _ (by omega) (by rw [wt hat.g];exact hd.snoc (Tm.is_mk.2 ⟨_,_,_,_,_,_,_,rfl,hh2,by omega,hes2⟩)) (by simp [hdl]) ?_
    refine zJV (hd:=[x1.cell 0,x1.cell 1,y.cell 0,y.cell 1]) (xs:=[x4,x5,x6,x7]) (ho.mono (oD _) hN5) ho2 hf (by omega) (by omega) (by omega) ?_ ?_
    ·intro ad h hc
     have hap:=hf.ap ad h
     simp only [oG,mn,D.foot,nN,false_imp_iff,implies_true,and_true] at hap
     simp only [nA,oZ,zE,oI] at hc
     obtain ⟨_,_,_,_,_,g1,g2,g3,g4,g5⟩:=hap
     rcases hc with hc | hc | hc | hc | hc
     ·exact g1 hc
     ·exact g2 hc
     ·exact g3 hc
     ·exact g4 hc
     ·exact g5 hc
    ·intro ad h hc
     have hap:=hf.ap ad h
     simp only [oG,mn,D.foot,nN,false_imp_iff,implies_true,and_true] at hap
     simp only [nA,oZ,zE,oI] at hc
     obtain ⟨g5,g1,g2,g3,g4,_⟩:=hap
     rcases hc with hc | hc | hc | hc | hc
     ·exact g1 hc
     ·exact g2 hc
     ·exact g3 hc
     ·exact g4 hc
     ·exact g5 hc
theorem zK7 {N N':Nat} {es:List D} (h:OwnL N N' es):OwnL N N' (.sl none 2 [] 0::es):=
 ⟨by simpa only [zE,D.foot,oZ] using h.nd,⟨⟨by simp,trivial⟩,h.fl⟩,by simpa only [zE,D.foot,oZ] using h.lo,by simpa only [zE,D.foot,oZ] using h.hi⟩
/-- a node of the reference: the parts are copied -/
theorem si (k:Int) {l:List Tm} {es:List D} (hes:All2 Tm.Is l es) (hlen:es.length<=1073741824) (hc:∀ x∈l,x.cnt<=1073741824) (a:Option Addr) (c:Nat) (N:Nat) (Q:QT [.ag 9])
  (hQ:∀ d' N',N<=N'->(Tm.mk k (bytes []) (bytes []) 0 (.mk 0 []) (.mk 0 []) l).Is d'->Own N N' d'->Q d' N') :
  ACalls prog 123 [.ag 9] [.int .i64 k,.sv a 9 es c] N Q:=by
 have hl:=hes.len
 refine zF8 N _ a es c Q fun _=>?_
 refine up hes (by omega) (fun i xs=>∀ (done:List D) (q N':Nat),N<=N'->All2 Tm.Is (l.take i) done->done.length=i->OwnL N N' done ->
  wG Q N a es c i 0 (bytes []) (bytes []) 0 0 none [] 0 0 none [] 0 none [] 0 k (bytes []) (bytes []) 0 0 none [] 0 0 none [] 0 done.length q done q N') ?_ ?_ [] 0 N (oD _) rfl rfl zJZ
 ·intro i hlt hi done q N' hN' hd hdl ho
  refine sU _ _ _ _ _ _ _ _ _ _ _ _ _ _ _ _ _ _ _ _ _ _ _ _ _ _ _ _ _ _ _ _ _ _ _ _ _ _ ?_
  rw [nB (by omega)] at hd
  rw [hlt]
  refine ⟨⟨rfl,rfl⟩,⟨rfl,rfl⟩,⟨rfl,rfl⟩,fun a1 N4 hN4 hf N5 hN5=>hQ _ _ (by omega) (Tm.is_mk.2 ⟨_,_,_,_,_,_,_,rfl,⟨by decide,by decide,xE _,xE _⟩,by omega,hd⟩) ?_⟩
  exact zEP (yu (yu (yu (yu (yu (zK7 (yu (zK7 (xT ((zEN ho hf hN4).mono (oD _) hN5))))))))))
 ·intro i x xs hat _ ih2 done q N' hN' hd hdl ho
  have hb:=hat.b
  have hxc:=hc x hat.m
  refine sU _ _ _ _ _ _ _ _ _ _ _ _ _ _ _ _ _ _ _ _ _ _ _ _ _ _ _ _ _ _ _ _ _ _ _ _ _ _ ?_
  rw [hat.lt]
  refine ⟨⟨by omega,by omega⟩,fun N5 hN5=>?_⟩
  rw [oJ,hat.w]
  refine zNf x _ hat.r (by omega) _ _ ?_
  cases x with
  | mk k2 nm2 ot2 n2 ty2 re2 l2=>
    intro x4 x5 x6 x7 es2 c2 N6 hN6 hh2 hes2 ho2 _ _
    have hl2:=hes2.len
    have hlc2:=vY l2
    simp only [Tm.cnt] at hxc
    refine ⟨⟨rfl,rfl⟩,fun a2 N7 hN7 hf=>⟨⟨rfl,rfl⟩,by unfold zB;rw [oH];simp only [oP,od];omega,fun c3=>?_⟩⟩
    refine ih2 _ _ _ (by omega) (by rw [wt hat.g];exact hd.snoc (Tm.is_mk.2 ⟨_,_,_,_,_,_,_,rfl,hh2,by omega,hes2⟩)) (by simp [hdl]) ?_
    refine zJV (hd:=[]) (xs:=[x4,x5,x6,x7]) (ho.mono (oD _) hN5) ho2 hf (by omega) (by omega) (by omega) ?_ ?_
    ·intro ad h hc
     have hap:=hf.ap ad h (.ag done) (by simp)
     exact hap (by simpa only [D.foot,oZ] using hc)
    ·intro ad h hc
     have hap:=hf.ap ad h
     simp only [nA,oZ,zE,oI] at hc
     rcases hc with hc | hc | hc | hc | hc
     ·exact hap x4 (by simp) hc
     ·exact hap x5 (by simp) hc
     ·exact hap x6 (by simp) hc
     ·exact hap x7 (by simp) hc
     ·exact hap (.ag es2) (by simp) (by simpa only [D.foot] using hc)
/-- a node with nothing but its kind and its parts -/
def Tm.nod (k:Int) (l:List Tm):Tm:=.mk k (bytes []) (bytes []) 0 (.mk 0 []) (.mk 0 []) l
theorem uI {t:Tm} {d:D} (h:t.Is d):All2 Tm.Is [t] [d]:=⟨d,[],rfl,h,rfl⟩
theorem zN1 {t u:Tm} {d e:D} (h:t.Is d) (g:u.Is e):All2 Tm.Is [t,u] [d,e]:=⟨d,[e],rfl,h,uI g⟩
theorem zJb {N N':Nat} {v0 v1 v2 w:Value} {es:List D} (h:Own N N' (.ag (.lit v0::.lit v1::es))):Own N N' (.ag (.lit v0::.lit w::es)):=
 ⟨by simpa only [zE,D.foot,oZ] using h.nd,h.fl,by simpa only [zE,D.foot,oZ] using h.lo,by simpa only [zE,D.foot,oZ] using h.hi⟩
/-- a let around a name -/
def Tm.letN (s:ByteArray) (t u:Tm):Tm:=.mk 8 s (bytes []) 0 (.mk 0 []) (.mk 0 []) [t,u]
theorem zPP (s:ByteArray) (hs:s.size<=4611686018427387904) (t u:Tm) (d e:D) (hd:t.Is d) (he:u.Is e) (hc:t.cnt<=1073741824) (hc2:u.cnt<=1073741824):Cop 186 9 [.str s,.dg 9 d,.dg 9 e] (Tm.letN s t u).Is:=fun N Q hQ=>by
 refine zHs N s _ _ Q fun _ _=>⟨⟨rfl,rfl⟩,fun a _ N1 hN1 hb=>?_⟩
 refine si 8 (zN1 hd he) (by simp) (by simpa using ⟨hc,hc2⟩) a 2 N1 _ fun d' N2 hN2 hd' ho _=>⟨wC hb ho,fun _ N3 hN3=>?_⟩
 obtain ⟨t0,t1,r0,r1,a',es,c,rfl,hh,hlen,hes⟩:=Tm.is_mk.1 hd'
 exact hQ _ _ (by omega) (Tm.is_mk.2 ⟨_,_,_,_,_,_,_,rfl,⟨hs,hh.ot,hh.ty,hh.re⟩,hlen,hes⟩) ((zJb (v2:=.string s) ho).mono hN1 hN3)
end Go.Proofs.YtkdjhkfiolhkiaaGreat
