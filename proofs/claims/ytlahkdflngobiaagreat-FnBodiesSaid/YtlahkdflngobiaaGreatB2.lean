/- Copies of terms: the program's and the reference's. -/
import Derived.Test.YtlahkdflngobiaaGreatB1
import Derived.Test.YtlahkdflngobiaaGreatKu
set_option linter.unusedVariables false
set_option linter.unusedSimpArgs false
namespace Go.Proofs.YtlahkdflngobiaaGreat
open Go Go.Proofs Go.Proofs.Tryz Go.IntWalk
theorem rg {N N1 N2:Nat} {es fs:List D} (I:OwnL N1 N2 es) (J:OwnL N N1 fs) (hN:N<=N1) (O:N1<=N2):OwnL N N2 (es++fs):=by
 refine ⟨?_,yZ I.fl J.fl,λb hb=>?_,λb hb=>?_⟩
 ·rw [zB,nN]
  refine ⟨I.nd,J.nd,λa U b hb Y=>?_⟩
  have:=I.lo a U;have:=J.hi b hb;omega
 ·rw [zB] at hb
  rcases oK.1 hb with hb | hb
  ·have:=I.lo b hb;omega
  ·exact J.lo b hb
 ·rw [zB] at hb
  rcases oK.1 hb with hb | hb
  ·exact I.hi b hb
  ·have:=J.hi b hb;omega
/-- a term's parts anew: its head is copied, the parts are those handed in -/
theorem zTx {k:Int} {nm ot:ByteArray} {n0:Int} {ty re:Ty} {t0 t1 r0 r1 x:D} (J:Tm.Hd nm ot ty re t0 t1 r0 r1) (h1:ty.cnt<=1073741824) (h2:re.cnt<=1073741824) {l:List Tm} {es:List D} (O:All2 Tm.Is l es) (I:es.length<=4611686018427387904) (a:Option Addr) (c:Nat) (N0 N:Nat) (U:N0<=N) (ho:Own N0 N (.sl a 9 es c))
  (Q:QT [.ag 9]) (hQ:∀ d' N',N<=N'->(Tm.mk k nm ot n0 ty re l).Is d'->Own N0 N' d'->Q d' N') :
  ACalls prog 144 [.ag 9] [.dg 9 (.ag [.j k,.t nm,.t ot,.j n0,t0,t1,r0,r1,x]),.sv a 9 es c] N Q:=by
 refine zDL N _ a es c Q λ_ _=>?_
 repeat' first|with_reducible intro _|simp only[Y1,Y2,Y3,Y4]|with_reducible refine X ?_ ?_|refine⟨_,_,_,rfl,?_⟩|refine⟨_,rfl,?_⟩|refine And.intro (by first|omega|trivial|(show _=_;rfl)|(with_reducible constructor)<;>first|omega|trivial|rfl) ?_|refine (zEk _ _ J.ty h1) _ _ ?_|refine (zEk _ _ J.re h2) _ _ ?_|fail
 rename_i N1 Y x1 N2 ah hx aa _ _ N3 ab y N4 ai hy ac _ _ N5 ae
 refine hQ _ _ (by omega) (Tm.is_mk.2 ⟨_,_,_,_,_,_,_,rfl,⟨J.nm,J.ot,Ty.is_cells hx,Ty.is_cells hy⟩,I,O⟩) ?_
 exact sB (zH (zH (zH (zH (rg (N1:=N) (xn ((vg hx aa).mono Y ab) ((vg hy ac).mono (oD _) ae) (by omega) (by omega)) (yA ho) U (by omega))))))
theorem zSi:∀ (t:Tm) (d:D),t.Is d->t.cnt<=1073741824->Cop 47 9 [.dg 9 d] t.Is:=by
 refine Tm.ind λk nm ot n0 ty re l ih d hd hc N Q hQ=>?_
 obtain ⟨t0,t1,r0,r1,a,es,c,rfl,hh,O,U⟩:=Tm.is_mk.1 hd
 have hl:=U.len
 simp only [Tm.cnt] at hc
 have am:=xK l
 refine zED N _ Q λ_ N1 aa=>?_
 refine rZ N1 _ _ λ_=>⟨_,_,_,rfl,?_⟩
 refine up U O (λi xs=>∀ (done:List D) (q N':Nat),N1<=N'->All2 Tm.Is (l.take i) done->done.length=i->OwnL N1 N' done ->
  yp _ N1 done.length q a es c es.length i (.ag [.j k,.t nm,.t ot,.j n0,t0,t1,r0,r1,.sl a 9 es c]) 0 (bytes []) (bytes []) 0 0 none [] 0 0 none [] 0 none [] 0 done q N') ?_ ?_ [] 0 N1 (oD _) rfl rfl zLa
 ·intro i ab hi done q N' ac hd Y ho
  refine vw _ _ _ _ _ _ _ _ _ _ _ _ _ _ _ _ _ _ _ _ _ _ _ _ _ _ _ _ ?_
  rw [oa (by omega)] at hd
  rw [ab]
  refine ⟨⟨rfl,rfl⟩,⟨rfl,rfl⟩,λa2 N3 J hf N4 ae=>?_⟩
  refine zTx hh (by omega) (by omega) hd (by omega) a2 q N1 N4 (by omega) ((qy ho hf J).mono (oD _) ae) _ λd' N5 ao ah ai _ _ N6 aq=>?_
  exact λ_ _ N7 au=>hQ _ _ (by omega) ah (ai.mono aa (by omega))
 ·intro i x xs I _ aj done q N' ac hd Y ho
  have hb:=I.b
  have aw:=ym I.m
  refine vw _ _ _ _ _ _ _ _ _ _ _ _ _ _ _ _ _ _ _ _ _ _ _ _ _ _ _ _ ?_
  repeat' first|with_reducible intro _|simp only[I.lt,I.w,oH,Y1,Y2,Y3,Y4]|with_reducible refine X ?_ ?_|refine⟨_,_,_,rfl,?_⟩|refine⟨_,rfl,?_⟩|refine And.intro (by first|omega|trivial|(show _=_;rfl)|(with_reducible constructor)<;>first|omega|trivial|rfl) ?_|refine (ih x I.m _ I.r (by omega)) _ _ ?_|fail
  rename_i N2 ak x' N3 J hx al _ _
  refine ⟨by unfold zA;rw [oL];simp only [oJ,oM];omega,λc1=>?_⟩
  refine aj _ _ _ (by omega) (by rw [zX I.g];exact hd.snoc hx) (by simp [Y]) (xn (ho.mono (oD _) ak) (yA al) (by omega) J)
theorem zG0 {a:Option Addr} {z c:Nat} {es:List D} (h:(zD es).Nodup) (I:∀ ad,a=some ad->ad.block∉zD es):(D.sl a z es c).foot.Nodup:=by
 cases a with
 | none=>simpa only [D.foot] using h
 | some ad=>
   simp only [D.foot]
   split
   ·exact mR
   ·exact nf.2 ⟨I ad rfl,h⟩
/-- a copied part goes behind the others -/
theorem zOx {N0 N1 N2 N3:Nat} {hd r xs es:List D} {l0 l1 l2 l3:Value} {a:Option Addr} {c:Nat} {ds:List D} (h1:OwnL N0 N1 (hd++r)) (J:OwnL N1 N2 (xs++es)) (hf:Fresh N0 N3 a ds) (g1:N0<=N1) (g2:N1<=N2) (g3:N2<=N3)
  (d1:∀ ad,a=some ad->ad.block∉zD (hd++r)) (d2:∀ ad,a=some ad->ad.block∉zD (xs++es)):OwnL N0 N3 (hd++(r++[.ag (.lit l0::.lit l1::.lit l2::.lit l3::(xs++[.sl a 9 es c]))])):=by
 have ah:=h1.nd
 have I:=J.nd
 rw [zB] at ah I
 have e:zD (hd++(r++[.ag (.lit l0::.lit l1::.lit l2::.lit l3::(xs++[.sl a 9 es c]))]))=zD (hd++r)++(zD xs++(D.sl a 9 es c).foot):=by
  simp only [zB,zD,D.foot,oU,nR,nh]
 have aa:=h1.fl
 have ab:=J.fl
 have O:∀ b,b∈(D.sl a 9 es c).foot->b∈zD (xs++es)\/∃ ad,a=some ad/\b=ad.block:=λb U=>by
  rcases xJ b U with h | h
  ·left;rw [zB];exact nK _ h
  ·exact .inr h
 refine ⟨?_,?_,λb U=>?_,λb U=>?_⟩
 ·rw [e,nN]
  refine ⟨h1.nd,?_,λx hx y hy Y=>?_⟩
  ·rw [nN] at I ⊢
   refine ⟨I.1,zG0 I.2.1 λad h hc=>d2 ad h (by rw [zB];exact nK _ hc),λx hx y hy Y=>?_⟩
   subst Y
   rcases xJ x hy with h | ⟨ad,h9,h'⟩
   ·exact I.2.2 x hx x h rfl
   ·subst h';exact d2 ad h9 (by rw [zB];exact oi _ hx)
  ·subst Y
   have aj:=h1.hi x hx
   rcases oK.1 hy with h | h
   ·have:=J.lo x (by rw [zB];exact oi _ h);omega
   ·rcases O x h with h | ⟨ad,h9,h'⟩
    ·have:=J.lo x h;omega
    ·subst h';exact d1 ad h9 hx
 ·have ac:xD xs/\xD es:=by
   have:∀ (u v:List D),xD (u++v)->xD u/\xD v:=by
    intro u
    induction u with
    | nil=>intro v h;exact ⟨trivial,h⟩
    | cons y u ih=>intro v h;obtain ⟨g1,g2⟩:=ih v h.2;exact ⟨⟨h.1,g1⟩,g2⟩
   exact this _ _ ab
  have ae:xD hd/\xD r:=by
   have:∀ (u v:List D),xD (u++v)->xD u/\xD v:=by
    intro u
    induction u with
    | nil=>intro v h;exact ⟨trivial,h⟩
    | cons y u ih=>intro v h;obtain ⟨g1,g2⟩:=ih v h.2;exact ⟨⟨h.1,g1⟩,g2⟩
   exact this _ _ aa
  refine yZ ae.1 (yZ ae.2 ⟨?_,trivial⟩)
  have ai:D.Flat0 (.sl a 9 es c):=⟨λad h=>hf.off ad h,ac.2⟩
  exact ⟨trivial,trivial,trivial,trivial,yZ ac.1 ⟨ai,trivial⟩⟩
 ·rw [e] at U
  rcases oK.1 U with h | h
  ·exact h1.lo b h
  ·rcases oK.1 h with h | h
   ·have:=J.lo b (by rw [zB];exact oi _ h);omega
   ·rcases O b h with h | ⟨ad,h9,h'⟩
    ·have:=J.lo b h;omega
    ·subst h';exact hf.lo ad h9
 ·rw [e] at U
  rcases oK.1 U with h | h
  ·have:=h1.hi b h;omega
  ·rcases oK.1 h with h | h
   ·have:=J.hi b (by rw [zB];exact oi _ h);omega
   ·rcases O b h with h | ⟨ad,h9,h'⟩
    ·have:=J.hi b h;omega
    ·subst h';exact hf.hi ad h9
/-- the reference's copy, told cell by cell -/
theorem zMA:∀ (t:Tm) (d:D),t.Is d->t.cnt<=1073741824->∀ (N:Nat) (Q:QT [.pk,.i,.str,.str,.i,.dc,.dc,.dc,.dc,.row 30 9]),
  (match t with | .mk k nm ot n ty re l=>∀ x4 x5 x6 x7 Y c' N',N<=N'->Tm.Hd nm ot ty re x4 x5 x6 x7->All2 Tm.Is l Y->OwnL N N' ([x4,x5,x6,x7]++Y)->Q k nm ot n x4 x5 x6 x7 Y c' N') ->
  ACalls prog 50 [.pk,.i,.str,.str,.i,.dc,.dc,.dc,.dc,.row 30 9] [.dg 9 d] N Q:=by
 refine Tm.ind λk nm ot n0 ty re l ih d hd hc N Q hQ=>?_
 obtain ⟨t0,t1,r0,r1,a,es,c,rfl,hh,ab,ac⟩:=Tm.is_mk.1 hd
 have hl:=ac.len
 simp only [Tm.cnt] at hc
 have a0:=xK l
 simp only at hQ
 refine zA0 N _ Q λ_=>?_
 repeat' first|with_reducible intro _|simp only[Y1,Y2,Y3,Y4]|with_reducible refine X ?_ ?_|refine⟨_,_,_,rfl,?_⟩|refine⟨_,rfl,?_⟩|refine And.intro (by first|omega|trivial|(show _=_;rfl)|(with_reducible constructor)<;>first|omega|trivial|rfl) ?_|refine (zI _ _ hh.ty (by omega)) _ _ ?_|refine (zI _ _ hh.re (by omega)) _ _ ?_|fail
 rename_i N1 ah O N2 a3 hx ai _ _ N3 aj y N4 a4 hy ak _ _
 have al:Tm.Hd nm ot ty re (O.cell 0) (O.cell 1) (y.cell 0) (y.cell 1):=⟨hh.nm,hh.ot,Ty.is_cells hx,Ty.is_cells hy⟩
 have am:OwnL N N4 ([O.cell 0,O.cell 1,y.cell 0,y.cell 1]++[]):=by
  have h:=xn ((vg hx ai).mono ah (oD _)) ((vg hy ak).mono aj (oD _)) (by omega) (by omega)
  exact h
 refine up ac ab (λi xs=>∀ (done:List D) (q N':Nat),N4<=N'->All2 Tm.Is (l.take i) done->done.length=i->OwnL N N' ([O.cell 0,O.cell 1,y.cell 0,y.cell 1]++done) ->
  xp Q N i (.ag [.j k,.t nm,.t ot,.j n0,t0,t1,r0,r1,.sl a 9 es c]) 0 (bytes []) (bytes []) 0 0 none [] 0 0 none [] 0 none [] 0 k nm ot n0 (O.cell 0) (O.cell 1) (y.cell 0) (y.cell 1) done.length q done q N') ?_ ?_ [] 0 N4 (oD _) rfl rfl am
 ·intro i ao hi done q N' aq hd ae ho
  refine ww _ _ _ _ _ _ _ _ _ _ _ _ _ _ _ _ _ _ _ _ _ _ _ _ _ _ _ _ _ _ _ _ ⟨_,_,_,rfl,?_⟩
  rw [oa (by omega)] at hd
  rw [ao]
  exact ⟨⟨rfl,rfl⟩,λN5 aa=>hQ _ _ _ _ _ _ _ (by omega) al hd (ho.mono (oD _) aa)⟩
 ·intro i x xs I _ au done q N' aq hd ae ho
  have hb:=I.b
  have aw:=ym I.m
  refine ww _ _ _ _ _ _ _ _ _ _ _ _ _ _ _ _ _ _ _ _ _ _ _ _ _ _ _ _ _ _ _ _ ⟨_,_,_,rfl,?_⟩
  rw [I.lt]
  refine ⟨_,_,_,rfl,⟨by omega,by omega⟩,λN5 aa=>?_⟩
  rw [oH,I.w]
  refine ih x I.m _ I.r (by omega) _ _ ?_
  cases x with
  | mk k2 a5 a6 n2 a7 a8 l2=>
    intro x4 x5 x6 x7 a9 c2 N6 ba ax U ay _ _
    have bb:=U.len
    have az:=xK l2
    simp only [Tm.cnt] at aw
    refine ⟨⟨rfl,rfl⟩,λa2 N7 bc hf=>⟨⟨rfl,rfl⟩,by unfold zA;rw [oL];simp only [oJ,oM];omega,λc3=>?_⟩⟩
    refine au _ _ _ (by omega) (by rw [zX I.g];exact hd.snoc (Tm.is_mk.2 ⟨_,_,_,_,_,_,_,rfl,ax,by omega,U⟩)) (by simp [ae]) ?_
    refine zOx (hd:=[O.cell 0,O.cell 1,y.cell 0,y.cell 1]) (xs:=[x4,x5,x6,x7]) (ho.mono (oD _) aa) ay hf (by omega) (by omega) (by omega) ?_ ?_
    ·intro ad h hc
     have J:=hf.ap ad h
     simp only [oG,mc,D.foot,oe,false_imp_iff,implies_true,and_true] at J
     simp only [nD,oU,zD,oK] at hc
     obtain ⟨_,_,_,_,_,g1,g2,g3,g4,g5⟩:=J
     rcases hc with hc | hc | hc | hc | hc
     ·exact g1 hc
     ·exact g2 hc
     ·exact g3 hc
     ·exact g4 hc
     ·exact g5 hc
    ·intro ad h hc
     have J:=hf.ap ad h
     simp only [oG,mc,D.foot,oe,false_imp_iff,implies_true,and_true] at J
     simp only [nD,oU,zD,oK] at hc
     obtain ⟨g5,g1,g2,g3,g4,_⟩:=J
     rcases hc with hc | hc | hc | hc | hc
     ·exact g1 hc
     ·exact g2 hc
     ·exact g3 hc
     ·exact g4 hc
     ·exact g5 hc
theorem zHo {N N':Nat} {es:List D} (h:OwnL N N' es):OwnL N N' (.sl none 2 [] 0::es):=
 ⟨by simpa only [zD,D.foot,oU] using h.nd,⟨⟨by simp,trivial⟩,h.fl⟩,by simpa only [zD,D.foot,oU] using h.lo,by simpa only [zD,D.foot,oU] using h.hi⟩
/-- a node of the reference: the parts are copied -/
theorem qg (k:Int) {l:List Tm} {es:List D} (Y:All2 Tm.Is l es) (am:es.length<=1073741824) (hc:∀ x∈l,x.cnt<=1073741824) (a:Option Addr) (c:Nat) (N:Nat) (Q:QT [.ag 9])
  (hQ:∀ d' N',N<=N'->(Tm.mk k (bytes []) (bytes []) 0 (.mk 0 []) (.mk 0 []) l).Is d'->Own N N' d'->Q d' N') :
  ACalls prog 45 [.ag 9] [.j k,.sv a 9 es c] N Q:=by
 have hl:=Y.len
 refine zIK N _ a es c Q λ_=>?_
 refine up Y (by omega) (λi xs=>∀ (done:List D) (q N':Nat),N<=N'->All2 Tm.Is (l.take i) done->done.length=i->OwnL N N' done ->
  wn Q N a es c i 0 (bytes []) (bytes []) 0 0 none [] 0 0 none [] 0 none [] 0 k (bytes []) (bytes []) 0 0 none [] 0 0 none [] 0 done.length q done q N') ?_ ?_ [] 0 N (oD _) rfl rfl zLa
 ·intro i ab hi done q N' ac hd aa ho
  refine rV _ _ _ _ _ _ _ _ _ _ _ _ _ _ _ _ _ _ _ _ _ _ _ _ _ _ _ _ _ _ _ _ _ _ _ _ _ _ ?_
  rw [oa (by omega)] at hd
  rw [ab]
  refine ⟨⟨rfl,rfl⟩,⟨rfl,rfl⟩,⟨rfl,rfl⟩,λa1 N4 ae hf N5 U=>hQ _ _ (by omega) (Tm.is_mk.2 ⟨_,_,_,_,_,_,_,rfl,⟨by decide,by decide,xP _,xP _⟩,by omega,hd⟩) ?_⟩
  exact sB (zH (zH (zH (zH (zH (zHo (zH (zHo (yA ((qy ho hf ae).mono (oD _) U))))))))))
 ·intro i x xs J _ ah done q N' ac hd aa ho
  have hb:=J.b
  have ai:=hc x J.m
  refine rV _ _ _ _ _ _ _ _ _ _ _ _ _ _ _ _ _ _ _ _ _ _ _ _ _ _ _ _ _ _ _ _ _ _ _ _ _ _ ?_
  rw [J.lt]
  refine ⟨⟨by omega,by omega⟩,λN5 U=>?_⟩
  rw [oH,J.w]
  refine zMA x _ J.r (by omega) _ _ ?_
  cases x with
  | mk k2 aq au n2 aw ax l2=>
    intro x4 x5 x6 x7 aj c2 N6 ay ak O al _ _
    have az:=O.len
    have ao:=xK l2
    simp only [Tm.cnt] at ai
    refine ⟨⟨rfl,rfl⟩,λa2 N7 a0 hf=>⟨⟨rfl,rfl⟩,by unfold zA;rw [oL];simp only [oJ,oM];omega,λc3=>?_⟩⟩
    refine ah _ _ _ (by omega) (by rw [zX J.g];exact hd.snoc (Tm.is_mk.2 ⟨_,_,_,_,_,_,_,rfl,ak,by omega,O⟩)) (by simp [aa]) ?_
    refine zOx (hd:=[]) (xs:=[x4,x5,x6,x7]) (ho.mono (oD _) U) al hf (by omega) (by omega) (by omega) ?_ ?_
    ·intro ad h hc
     have I:=hf.ap ad h (.ag done) (by simp)
     exact I (by simpa only [D.foot,oU] using hc)
    ·intro ad h hc
     have I:=hf.ap ad h
     simp only [nD,oU,zD,oK] at hc
     rcases hc with hc | hc | hc | hc | hc
     ·exact I x4 (by simp) hc
     ·exact I x5 (by simp) hc
     ·exact I x6 (by simp) hc
     ·exact I x7 (by simp) hc
     ·exact I (.ag aj) (by simp) (by simpa only [D.foot] using hc)
/-- a node with nothing but its kind and its parts -/
def Tm.nod (k:Int) (l:List Tm):Tm:=.mk k (bytes []) (bytes []) 0 (.mk 0 []) (.mk 0 []) l
theorem zAO {t:Tm} {d:D} (h:t.Is d):All2 Tm.Is [t] [d]:=⟨d,[],rfl,h,rfl⟩
theorem zIL {t u:Tm} {d e:D} (h:t.Is d) (g:u.Is e):All2 Tm.Is [t,u] [d,e]:=⟨d,[e],rfl,h,zAO g⟩
theorem zLY {N N':Nat} {v0 v1 v2 w:Value} {es:List D} (h:Own N N' (.ag (.lit v0::.lit v1::es))):Own N N' (.ag (.lit v0::.lit w::es)):=
 ⟨by simpa only [zD,D.foot,oU] using h.nd,h.fl,by simpa only [zD,D.foot,oU] using h.lo,by simpa only [zD,D.foot,oU] using h.hi⟩
/-- a let around a name -/
def Tm.letN (s:ByteArray) (t u:Tm):Tm:=.mk 8 s (bytes []) 0 (.mk 0 []) (.mk 0 []) [t,u]
theorem zRg (s:ByteArray) (hs:s.size<=4611686018427387904) (t u:Tm) (d e:D) (hd:t.Is d) (he:u.Is e) (hc:t.cnt<=1073741824) (J:u.cnt<=1073741824):Cop 111 9 [.str s,.dg 9 d,.dg 9 e] (Tm.letN s t u).Is:=λN Q hQ=>by
 refine zJS N s _ _ Q λ_ _=>⟨⟨rfl,rfl⟩,λa _ N1 O hb=>?_⟩
 refine qg 8 (zIL hd he) (by simp) (by simpa using ⟨hc,J⟩) a 2 N1 _ λd' N2 ab U ho _=>⟨wU hb ho,λ_ N3 Y=>?_⟩
 obtain ⟨t0,t1,r0,r1,a',es,c,rfl,hh,I,aa⟩:=Tm.is_mk.1 U
 exact hQ _ _ (by omega) (Tm.is_mk.2 ⟨_,_,_,_,_,_,_,rfl,⟨hs,hh.ot,hh.ty,hh.re⟩,I,aa⟩) ((zLY (v2:=.string s) ho).mono O Y)
end Go.Proofs.YtlahkdflngobiaaGreat
