/- Copies of terms: the program's and the reference's. -/
import Derived.Test.YtnmnahkkcfghjaaGreatA5
import Derived.Test.YtnmnahkkcfghjaaGreatKu
set_option linter.unusedVariables false
set_option linter.unusedSimpArgs false
namespace Go.Proofs.YtnmnahkkcfghjaaGreat
open Go Go.Proofs Go.Proofs.Tryz Go.IntWalk
theorem zIn {a:Option Addr} {z c:Nat} {es:List D} (h:(zF es).Nodup) (I:∀ ad,a=some ad->ad.block∉zF es):(D.sl a z es c).foot.Nodup:=by
 cases a with
 | none=>simpa only [D.foot] using h
 | some ad=>
   simp only [D.foot]
   split
   ·exact mD
   ·exact nf.2 ⟨I ad rfl,h⟩
/-- a copied part goes behind the others -/
theorem zMU {N0 N1 N2 N3:Nat} {hd r xs es:List D} {l0 l1 l2 l3:Value} {a:Option Addr} {c:Nat} {ds:List D} (h1:OwnL N0 N1 (hd++r)) (J:OwnL N1 N2 (xs++es)) (hf:Fresh N0 N3 a ds) (g1:N0<=N1) (g2:N1<=N2) (g3:N2<=N3)
  (d1:∀ ad,a=some ad->ad.block∉zF (hd++r)) (d2:∀ ad,a=some ad->ad.block∉zF (xs++es)):OwnL N0 N3 (hd++(r++[.ag (.lit l0::.lit l1::.lit l2::.lit l3::(xs++[.sl a 9 es c]))])):=by
 have ah:=h1.nd
 have I:=J.nd
 rw [zK] at ah I
 have e:zF (hd++(r++[.ag (.lit l0::.lit l1::.lit l2::.lit l3::(xs++[.sl a 9 es c]))]))=zF (hd++r)++(zF xs++(D.sl a 9 es c).foot):=by
  simp only [zK,zF,D.foot,oc,nO,nw]
 have aa:=h1.fl
 have ab:=J.fl
 have O:∀ b,b∈(D.sl a 9 es c).foot->b∈zF (xs++es)\/∃ ad,a=some ad/\b=ad.block:=λb U=>by
  rcases v7 b U with h | h
  ·left;rw [zK];exact nT _ h
  ·exact .inr h
 refine ⟨?_,?_,λb U=>?_,λb U=>?_⟩
 ·rw [e,nQ]
  refine ⟨h1.nd,?_,λx hx y hy Y=>?_⟩
  ·rw [nQ] at I ⊢
   refine ⟨I.1,zIn I.2.1 λad h hc=>d2 ad h (by rw [zK];exact nT _ hc),λx hx y hy Y=>?_⟩
   subst Y
   rcases v7 x hy with h | ⟨ad,h9,h'⟩
   ·exact I.2.2 x hx x h rfl
   ·subst h';exact d2 ad h9 (by rw [zK];exact o0 _ hx)
  ·subst Y
   have aj:=h1.hi x hx
   rcases oJ.1 hy with h | h
   ·have:=J.lo x (by rw [zK];exact o0 _ h);omega
   ·rcases O x h with h | ⟨ad,h9,h'⟩
    ·have:=J.lo x h;omega
    ·subst h';exact d1 ad h9 hx
 ·have ac:xa xs/\xa es:=by
   have:∀ (u v:List D),xa (u++v)->xa u/\xa v:=by
    intro u
    induction u with
    | nil=>intro v h;exact ⟨trivial,h⟩
    | cons y u ih=>intro v h;obtain ⟨g1,g2⟩:=ih v h.2;exact ⟨⟨h.1,g1⟩,g2⟩
   exact this _ _ ab
  have ae:xa hd/\xa r:=by
   have:∀ (u v:List D),xa (u++v)->xa u/\xa v:=by
    intro u
    induction u with
    | nil=>intro v h;exact ⟨trivial,h⟩
    | cons y u ih=>intro v h;obtain ⟨g1,g2⟩:=ih v h.2;exact ⟨⟨h.1,g1⟩,g2⟩
   exact this _ _ aa
  refine xQ ae.1 (xQ ae.2 ⟨?_,trivial⟩)
  have ai:D.Flat0 (.sl a 9 es c):=⟨λad h=>hf.off ad h,ac.2⟩
  exact ⟨trivial,trivial,trivial,trivial,xQ ac.1 ⟨ai,trivial⟩⟩
 ·rw [e] at U
  rcases oJ.1 U with h | h
  ·exact h1.lo b h
  ·rcases oJ.1 h with h | h
   ·have:=J.lo b (by rw [zK];exact o0 _ h);omega
   ·rcases O b h with h | ⟨ad,h9,h'⟩
    ·have:=J.lo b h;omega
    ·subst h';exact hf.lo ad h9
 ·rw [e] at U
  rcases oJ.1 U with h | h
  ·have:=h1.hi b h;omega
  ·rcases oJ.1 h with h | h
   ·have:=J.hi b (by rw [zK];exact o0 _ h);omega
   ·rcases O b h with h | ⟨ad,h9,h'⟩
    ·have:=J.hi b h;omega
    ·subst h';exact hf.hi ad h9
/-- the reference's copy, told cell by cell -/
theorem zOM:∀ (t:Tm) (d:D),t.Is d->t.cnt<=1073741824->∀ (N:Nat) (Q:QT [.pk,.i,.str,.str,.i,.dc,.dc,.dc,.dc,.row 29 9]),
  (match t with | .mk k nm ot n ty re l=>∀ x4 x5 x6 x7 Y c' N',N<=N'->Tm.Hd nm ot ty re x4 x5 x6 x7->All2 Tm.Is l Y->OwnL N N' ([x4,x5,x6,x7]++Y)->Q k nm ot n x4 x5 x6 x7 Y c' N') ->
  ACalls prog 42 [.pk,.i,.str,.str,.i,.dc,.dc,.dc,.dc,.row 29 9] [.dg 9 d] N Q:=by
 refine Tm.ind λk nm ot n0 ty re l ih d hd hc N Q hQ=>?_
 obtain ⟨t0,t1,r0,r1,a,es,c,rfl,hh,ab,ac⟩:=Tm.is_mk.1 hd
 have hl:=ac.len
 simp only [Tm.cnt] at hc
 have a3:=xq l
 simp only at hQ
 refine pF N _ Q λ_=>?_
 repeat' first|with_reducible intro _|simp only[Y1,Y2,Y3,Y4]|with_reducible refine X ?_ ?_|refine⟨_,_,_,rfl,?_⟩|refine⟨_,rfl,?_⟩|refine And.intro (by first|omega|trivial|(show _=_;rfl)|(with_reducible constructor)<;>first|omega|trivial|rfl) ?_|refine (zH _ _ hh.ty (by omega)) _ _ ?_|refine (zH _ _ hh.re (by omega)) _ _ ?_|fail
 rename_i N1 ah O N2 a4 hx ai _ _ N3 aj y N4 a5 hy ak _ _
 have al:Tm.Hd nm ot ty re (O.cell 0) (O.cell 1) (y.cell 0) (y.cell 1):=⟨hh.nm,hh.ot,Ty.is_cells hx,Ty.is_cells hy⟩
 have am:OwnL N N4 ([O.cell 0,O.cell 1,y.cell 0,y.cell 1]++[]):=by
  have h:=wn ((u3 hx ai).mono ah (oD _)) ((u3 hy ak).mono aj (oD _)) (by omega) (by omega)
  exact h
 refine up ac ab (λi xs=>∀ (done:List D) (q N':Nat),N4<=N'->All2 Tm.Is (l.take i) done->done.length=i->OwnL N N' ([O.cell 0,O.cell 1,y.cell 0,y.cell 1]++done) ->
  xN Q N i (.ag [.j k,.t nm,.t ot,.j n0,t0,t1,r0,r1,.sl a 9 es c]) 0 (bytes []) (bytes []) 0 0 none [] 0 0 none [] 0 none [] 0 k nm ot n0 (O.cell 0) (O.cell 1) (y.cell 0) (y.cell 1) done.length q done q N') ?_ ?_ [] 0 N4 (oD _) rfl rfl am
 ·intro i ao hi done q N' aq hd ae ho
  refine wW _ _ _ _ _ _ _ _ _ _ _ _ _ _ _ _ _ _ _ _ _ _ _ _ _ _ _ _ _ _ _ _ ⟨_,_,_,rfl,?_⟩
  rw [oi (by omega)] at hd
  rw [ao]
  exact ⟨⟨rfl,rfl⟩,λN5 aa=>hQ _ _ _ _ _ _ _ (by omega) al hd (ho.mono (oD _) aa)⟩
 ·intro i x xs I _ au done q N' aq hd ae ho
  have hb:=I.b
  have aw:=xt I.m
  refine wW _ _ _ _ _ _ _ _ _ _ _ _ _ _ _ _ _ _ _ _ _ _ _ _ _ _ _ _ _ _ _ _ ⟨_,_,_,rfl,?_⟩
  rw [I.lt]
  refine ⟨_,_,_,rfl,⟨by omega,by omega⟩,λN5 aa=>?_⟩
  rw [oK,I.w]
  refine ih x I.m _ I.r (by omega) _ _ ?_
  cases x with
  | mk k2 a6 a7 n2 a8 a9 l2=>
    intro x4 x5 x6 x7 ba c2 N6 bb ax U ay _ _
    have bc:=U.len
    have az:=xq l2
    simp only [Tm.cnt] at aw
    refine ⟨⟨rfl,rfl⟩,λa2 N7 bg hf=>⟨⟨rfl,rfl⟩,by unfold zA;rw [oI];simp only [oO,oX];omega,λc3=>?_⟩⟩
    refine au _ _ _ (by omega) (by rw [vH I.g];exact hd.snoc (Tm.is_mk.2 ⟨_,_,_,_,_,_,_,rfl,ax,by omega,U⟩)) (by simp [ae]) ?_
    refine zMU (hd:=[O.cell 0,O.cell 1,y.cell 0,y.cell 1]) (xs:=[x4,x5,x6,x7]) (ho.mono (oD _) aa) ay hf (by omega) (by omega) (by omega) ?_ ?_
    ·intro ad h hc
     have J:=hf.ap ad h
     simp only [oF,nY,D.foot,od,false_imp_iff,implies_true,and_true] at J
     simp only [nG,oc,zF,oJ] at hc
     obtain ⟨_,_,_,_,_,g1,g2,g3,g4,g5⟩:=J
     rcases hc with hc | hc | hc | hc | hc
     ·exact g1 hc
     ·exact g2 hc
     ·exact g3 hc
     ·exact g4 hc
     ·exact g5 hc
    ·intro ad h hc
     have J:=hf.ap ad h
     simp only [oF,nY,D.foot,od,false_imp_iff,implies_true,and_true] at J
     simp only [nG,oc,zF,oJ] at hc
     obtain ⟨g5,g1,g2,g3,g4,_⟩:=J
     rcases hc with hc | hc | hc | hc | hc
     ·exact g1 hc
     ·exact g2 hc
     ·exact g3 hc
     ·exact g4 hc
     ·exact g5 hc
theorem zLk {N N':Nat} {es:List D} (h:OwnL N N' es):OwnL N N' (.sl none 2 [] 0::es):=
 ⟨by simpa only [zF,D.foot,oc] using h.nd,⟨⟨by simp,trivial⟩,h.fl⟩,by simpa only [zF,D.foot,oc] using h.lo,by simpa only [zF,D.foot,oc] using h.hi⟩
/-- a node of the reference: the parts are copied -/
theorem zBx (k:Int) {l:List Tm} {es:List D} (Y:All2 Tm.Is l es) (am:es.length<=1073741824) (hc:∀ x∈l,x.cnt<=1073741824) (a:Option Addr) (c:Nat) (N:Nat) (Q:QT [.ag 9])
  (hQ:∀ d' N',N<=N'->(Tm.mk k (bytes []) (bytes []) 0 (.mk 0 []) (.mk 0 []) l).Is d'->Own N N' d'->Q d' N') :
  ACalls prog 67 [.ag 9] [.j k,.sv a 9 es c] N Q:=by
 have hl:=Y.len
 refine zF9 N _ a es c Q λ_=>?_
 refine up Y (by omega) (λi xs=>∀ (done:List D) (q N':Nat),N<=N'->All2 Tm.Is (l.take i) done->done.length=i->OwnL N N' done ->
  wN Q N a es c i 0 (bytes []) (bytes []) 0 0 none [] 0 0 none [] 0 none [] 0 k (bytes []) (bytes []) 0 0 none [] 0 0 none [] 0 done.length q done q N') ?_ ?_ [] 0 N (oD _) rfl rfl zNZ
 ·intro i ab hi done q N' ac hd aa ho
  refine sL _ _ _ _ _ _ _ _ _ _ _ _ _ _ _ _ _ _ _ _ _ _ _ _ _ _ _ _ _ _ _ _ _ _ _ _ _ _ ?_
  rw [oi (by omega)] at hd
  rw [ab]
  refine ⟨⟨rfl,rfl⟩,⟨rfl,rfl⟩,⟨rfl,rfl⟩,λa1 N4 ae hf N5 U=>hQ _ _ (by omega) (Tm.is_mk.2 ⟨_,_,_,_,_,_,_,rfl,⟨by decide,by decide,yz _,yz _⟩,by omega,hd⟩) ?_⟩
  exact zEe (yv (yv (yv (yv (yv (zLk (yv (zLk (xj ((zD1 ho hf ae).mono (oD _) U))))))))))
 ·intro i x xs J _ ah done q N' ac hd aa ho
  have hb:=J.b
  have ai:=hc x J.m
  refine sL _ _ _ _ _ _ _ _ _ _ _ _ _ _ _ _ _ _ _ _ _ _ _ _ _ _ _ _ _ _ _ _ _ _ _ _ _ _ ?_
  rw [J.lt]
  refine ⟨⟨by omega,by omega⟩,λN5 U=>?_⟩
  rw [oK,J.w]
  refine zOM x _ J.r (by omega) _ _ ?_
  cases x with
  | mk k2 aq au n2 aw ax l2=>
    intro x4 x5 x6 x7 aj c2 N6 ay ak O al _ _
    have az:=O.len
    have ao:=xq l2
    simp only [Tm.cnt] at ai
    refine ⟨⟨rfl,rfl⟩,λa2 N7 a3 hf=>⟨⟨rfl,rfl⟩,by unfold zA;rw [oI];simp only [oO,oX];omega,λc3=>?_⟩⟩
    refine ah _ _ _ (by omega) (by rw [vH J.g];exact hd.snoc (Tm.is_mk.2 ⟨_,_,_,_,_,_,_,rfl,ak,by omega,O⟩)) (by simp [aa]) ?_
    refine zMU (hd:=[]) (xs:=[x4,x5,x6,x7]) (ho.mono (oD _) U) al hf (by omega) (by omega) (by omega) ?_ ?_
    ·intro ad h hc
     have I:=hf.ap ad h (.ag done) (by simp)
     exact I (by simpa only [D.foot,oc] using hc)
    ·intro ad h hc
     have I:=hf.ap ad h
     simp only [nG,oc,zF,oJ] at hc
     rcases hc with hc | hc | hc | hc | hc
     ·exact I x4 (by simp) hc
     ·exact I x5 (by simp) hc
     ·exact I x6 (by simp) hc
     ·exact I x7 (by simp) hc
     ·exact I (.ag aj) (by simp) (by simpa only [D.foot] using hc)
/-- a node with nothing but its kind and its parts -/
def Tm.nod (k:Int) (l:List Tm):Tm:=.mk k (bytes []) (bytes []) 0 (.mk 0 []) (.mk 0 []) l
theorem rK {t:Tm} {d:D} (h:t.Is d):All2 Tm.Is [t] [d]:=⟨d,[],rfl,h,rfl⟩
theorem zOG {t u:Tm} {d e:D} (h:t.Is d) (g:u.Is e):All2 Tm.Is [t,u] [d,e]:=⟨d,[e],rfl,h,rK g⟩
theorem zI1 {N N':Nat} {v0 v1 v2 w:Value} {es:List D} (h:Own N N' (.ag (.lit v0::.lit v1::es))):Own N N' (.ag (.lit v0::.lit w::es)):=
 ⟨by simpa only [zF,D.foot,oc] using h.nd,h.fl,by simpa only [zF,D.foot,oc] using h.lo,by simpa only [zF,D.foot,oc] using h.hi⟩
/-- a let around a name -/
def Tm.letN (s:ByteArray) (t u:Tm):Tm:=.mk 8 s (bytes []) 0 (.mk 0 []) (.mk 0 []) [t,u]
theorem zPC (s:ByteArray) (hs:s.size<=4611686018427387904) (t u:Tm) (d e:D) (hd:t.Is d) (he:u.Is e) (hc:t.cnt<=1073741824) (J:u.cnt<=1073741824):Cop 87 9 [.str s,.dg 9 d,.dg 9 e] (Tm.letN s t u).Is:=λN Q hQ=>by
 refine zG9 N s _ _ Q λ_ _=>⟨⟨rfl,rfl⟩,λa _ N1 O hb=>?_⟩
 refine zBx 8 (zOG hd he) (by simp) (by simpa using ⟨hc,J⟩) a 2 N1 _ λd' N2 ab U ho _=>⟨uD hb ho,λ_ N3 Y=>?_⟩
 obtain ⟨t0,t1,r0,r1,a',es,c,rfl,hh,I,aa⟩:=Tm.is_mk.1 U
 exact hQ _ _ (by omega) (Tm.is_mk.2 ⟨_,_,_,_,_,_,_,rfl,⟨hs,hh.ot,hh.ty,hh.re⟩,I,aa⟩) ((zI1 (v2:=.string s) ho).mono O Y)
end Go.Proofs.YtnmnahkkcfghjaaGreat
