/- The law FnExactTypeOf: for all data it answers true. -/
import Derived.Test.YtlahkdflngobiaaGreatDoorA4
import Derived.Test.YtlahkdflngobiaaGreatDoorB2
import Derived.Test.YtlahkdflngobiaaGreatDoorKa
import Derived.Test.YtlahkdflngobiaaGreatDoorB1
import Derived.Test.YtlahkdflngobiaaGreatDoorKu
set_option linter.unusedVariables false
set_option linter.unusedSimpArgs false
namespace Go.Proofs.YtlahkdflngobiaaGreatDoor
open Go Go.Proofs Go.Proofs.Tryz Go.IntWalk
theorem Bel.mono {N M:Nat} {x:D} (h:Bel N x) (I:N<=M):Bel M x:=λb J=>o5 (h b J) I
theorem zDl {N N1 N2:Nat} {es fs:List D} (I:OwnL N1 N2 es) (J:OwnL N N1 fs) (hN:N<=N1) (O:N1<=N2):OwnL N N2 (es++fs):=by
 refine ⟨?_,xc I.fl J.fl,λb hb=>?_,λb hb=>?_⟩
 ·rw [zE,oq]
  refine ⟨I.nd,J.nd,λa ha b hb aa=>?_⟩
  have:=I.lo a ha;have:=J.hi b hb;omega
 ·rw [zE] at hb
  rcases oG.1 hb with hb | hb
  ·have:=I.lo b hb;omega
  ·exact J.lo b hb
 ·rw [zE] at hb
  rcases oG.1 hb with hb | hb
  ·exact I.hi b hb
  ·have:=J.hi b hb;omega
theorem zMv {a:Option Addr} {z c:Nat} {es:List D} (h:(zC es).Nodup) (I:∀ ad,a=some ad->ad.block∉zC es):(D.sl a z es c).foot.Nodup:=by
 cases a with
 | none=>simpa only [D.foot] using h
 | some ad=>
   simp only [D.foot]
   split
   ·exact mK
   ·exact nh.2 ⟨I ad rfl,h⟩
/-- a copied part goes behind the others -/
theorem zLL {N0 N1 N2 N3:Nat} {hd r xs es:List D} {l0 l1 l2 l3:Value} {a:Option Addr} {c:Nat} {ds:List D} (h1:OwnL N0 N1 (hd++r)) (J:OwnL N1 N2 (xs++es)) (hf:Fresh N0 N3 a ds) (g1:N0<=N1) (g2:N1<=N2) (g3:N2<=N3)
  (d1:∀ ad,a=some ad->ad.block∉zC (hd++r)) (d2:∀ ad,a=some ad->ad.block∉zC (xs++es)):OwnL N0 N3 (hd++(r++[.ag (.lit l0::.lit l1::.lit l2::.lit l3::(xs++[.sl a 9 es c]))])):=by
 have ai:=h1.nd
 have I:=J.nd
 rw [zE] at ai I
 have e:zC (hd++(r++[.ag (.lit l0::.lit l1::.lit l2::.lit l3::(xs++[.sl a 9 es c]))]))=zC (hd++r)++(zC xs++(D.sl a 9 es c).foot):=by
  simp only [zE,zC,D.foot,oW,o6,nG]
 have ab:=h1.fl
 have ac:=J.fl
 have O:∀ b,b∈(D.sl a 9 es c).foot->b∈zC (xs++es)\/∃ ad,a=some ad/\b=ad.block:=λb hb=>by
  rcases vH b hb with h | h
  ·left;rw [zE];exact ow _ h
  ·exact .inr h
 refine ⟨?_,?_,λb hb=>?_,λb hb=>?_⟩
 ·rw [e,oq]
  refine ⟨h1.nd,?_,λx hx y hy aa=>?_⟩
  ·rw [oq] at I ⊢
   refine ⟨I.1,zMv I.2.1 λad h hc=>d2 ad h (by rw [zE];exact ow _ hc),λx hx y hy aa=>?_⟩
   subst aa
   rcases vH x hy with h | ⟨ad,h9,h'⟩
   ·exact I.2.2 x hx x h rfl
   ·subst h';exact d2 ad h9 (by rw [zE];exact oY _ hx)
  ·subst aa
   have ak:=h1.hi x hx
   rcases oG.1 hy with h | h
   ·have:=J.lo x (by rw [zE];exact oY _ h);omega
   ·rcases O x h with h | ⟨ad,h9,h'⟩
    ·have:=J.lo x h;omega
    ·subst h';exact d1 ad h9 hx
 ·have ae:xp xs/\xp es:=by
   have:∀ (u v:List D),xp (u++v)->xp u/\xp v:=by
    intro u
    induction u with
    | nil=>intro v h;exact ⟨trivial,h⟩
    | cons y u ih=>intro v h;obtain ⟨g1,g2⟩:=ih v h.2;exact ⟨⟨h.1,g1⟩,g2⟩
   exact this _ _ ac
  have ah:xp hd/\xp r:=by
   have:∀ (u v:List D),xp (u++v)->xp u/\xp v:=by
    intro u
    induction u with
    | nil=>intro v h;exact ⟨trivial,h⟩
    | cons y u ih=>intro v h;obtain ⟨g1,g2⟩:=ih v h.2;exact ⟨⟨h.1,g1⟩,g2⟩
   exact this _ _ ab
  refine xc ah.1 (xc ah.2 ⟨?_,trivial⟩)
  have aj:D.Flat0 (.sl a 9 es c):=⟨λad h=>hf.off ad h,ae.2⟩
  exact ⟨trivial,trivial,trivial,trivial,xc ae.1 ⟨aj,trivial⟩⟩
 ·rw [e] at hb
  rcases oG.1 hb with h | h
  ·exact h1.lo b h
  ·rcases oG.1 h with h | h
   ·have:=J.lo b (by rw [zE];exact oY _ h);omega
   ·rcases O b h with h | ⟨ad,h9,h'⟩
    ·have:=J.lo b h;omega
    ·subst h';exact hf.lo ad h9
 ·rw [e] at hb
  rcases oG.1 hb with h | h
  ·have:=h1.hi b h;omega
  ·rcases oG.1 h with h | h
   ·have:=J.hi b (by rw [zE];exact oY _ h);omega
   ·rcases O b h with h | ⟨ad,h9,h'⟩
    ·have:=J.hi b h;omega
    ·subst h';exact hf.hi ad h9
/-- the reference's copy, told cell by cell -/
theorem zSK:∀ (t:Tm) (d:D),t.Is d->t.cnt<=1073741824->∀ (N:Nat) (Q:QT [.pk,.i,.str,.str,.i,.dc,.dc,.dc,.dc,.row 36 9]),
  (match t with | .mk k nm ot n ty re l=>∀ x4 x5 x6 x7 ab c' N',N<=N'->Tm.Hd nm ot ty re x4 x5 x6 x7->All2 Tm.Is l ab->OwnL N N' ([x4,x5,x6,x7]++ab)->Q k nm ot n x4 x5 x6 x7 ab c' N') ->
  ACalls prog 34 [.pk,.i,.str,.str,.i,.dc,.dc,.dc,.dc,.row 36 9] [.dg 9 d] N Q:=by
 refine Tm.ind λk nm ot n0 ty re l ih d hd hc N Q hQ=>?_
 obtain ⟨t0,t1,r0,r1,a,es,c,rfl,hh,hlen,ae⟩:=Tm.is_mk.1 hd
 have hl:=ae.len
 simp only [Tm.cnt] at hc
 have a7:=y6 l
 simp only at hQ
 refine zCA N _ Q λ_=>?_
 repeat' first|with_reducible intro _|simp only[Y1,Y2,Y3,Y4]|with_reducible refine X ?_ ?_|refine⟨_,_,_,rfl,?_⟩|refine⟨_,rfl,?_⟩|refine And.intro (by first|omega|trivial|(show _=_;rfl)|(with_reducible constructor)<;>first|omega|trivial|rfl) ?_|refine (zT _ _ hh.ty (by omega)) _ _ ?_|refine (zT _ _ hh.re (by omega)) _ _ ?_|fail
 rename_i N1 ai O N2 a8 hx aj _ _ N3 ak y N4 ba hy al _ _
 have am:Tm.Hd nm ot ty re (O.cell 0) (O.cell 1) (y.cell 0) (y.cell 1):=⟨hh.nm,hh.ot,Ty.is_cells hx,Ty.is_cells hy⟩
 have ao:OwnL N N4 ([O.cell 0,O.cell 1,y.cell 0,y.cell 1]++[]):=by
  have h:=y7 ((rA hx aj).mono ai (oB _)) ((rA hy al).mono ak (oB _)) (by omega) (by omega)
  exact h
 refine up ae hlen (λi xs=>∀ (done:List D) (q N':Nat),N4<=N'->All2 Tm.Is (l.take i) done->done.length=i->OwnL N N' ([O.cell 0,O.cell 1,y.cell 0,y.cell 1]++done) ->
  wV Q N i (.ag [.j k,.t nm,.t ot,.j n0,t0,t1,r0,r1,.sl a 9 es c]) 0 (bytes []) (bytes []) 0 0 none [] 0 0 none [] 0 none [] 0 k nm ot n0 (O.cell 0) (O.cell 1) (y.cell 0) (y.cell 1) done.length q done q N') ?_ ?_ [] 0 N4 (oB _) rfl rfl ao
 ·intro i aq hi done q N' au hd ah ho
  refine vz _ _ _ _ _ _ _ _ _ _ _ _ _ _ _ _ _ _ _ _ _ _ _ _ _ _ _ _ _ _ _ _ ⟨_,_,_,rfl,?_⟩
  rw [od (by omega)] at hd
  rw [aq]
  exact ⟨⟨rfl,rfl⟩,λN5 ac=>hQ _ _ _ _ _ _ _ (by omega) am hd (ho.mono (oB _) ac)⟩
 ·intro i x xs I _ aw done q N' au hd ah ho
  have hb:=I.b
  have ax:=zu I.m
  refine vz _ _ _ _ _ _ _ _ _ _ _ _ _ _ _ _ _ _ _ _ _ _ _ _ _ _ _ _ _ _ _ _ ⟨_,_,_,rfl,?_⟩
  rw [I.lt]
  refine ⟨_,_,_,rfl,⟨by omega,by omega⟩,λN5 ac=>?_⟩
  rw [oK,I.w]
  refine ih x I.m _ I.r (by omega) _ _ ?_
  cases x with
  | mk k2 bb bc n2 bd bg l2=>
    intro x4 x5 x6 x7 es2 c2 N6 bh ay aa az _ _
    have bi:=aa.len
    have a6:=y6 l2
    simp only [Tm.cnt] at ax
    refine ⟨⟨rfl,rfl⟩,λa2 N7 bj hf=>⟨⟨rfl,rfl⟩,by unfold zB;rw [oE];simp only [oJ,oM];omega,λc3=>?_⟩⟩
    refine aw _ _ _ (by omega) (by rw [xK I.g];exact hd.snoc (Tm.is_mk.2 ⟨_,_,_,_,_,_,_,rfl,ay,by omega,aa⟩)) (by simp [ah]) ?_
    refine zLL (hd:=[O.cell 0,O.cell 1,y.cell 0,y.cell 1]) (xs:=[x4,x5,x6,x7]) (ho.mono (oB _) ac) az hf (by omega) (by omega) (by omega) ?_ ?_
    ·intro ad h hc
     have J:=hf.ap ad h
     simp only [oH,forall_eq_or_imp,D.foot,om,false_imp_iff,implies_true,and_true] at J
     simp only [o9,oW,zC,oG] at hc
     obtain ⟨_,_,_,_,_,g1,g2,g3,g4,g5⟩:=J
     rcases hc with hc | hc | hc | hc | hc
     ·exact g1 hc
     ·exact g2 hc
     ·exact g3 hc
     ·exact g4 hc
     ·exact g5 hc
    ·intro ad h hc
     have J:=hf.ap ad h
     simp only [oH,forall_eq_or_imp,D.foot,om,false_imp_iff,implies_true,and_true] at J
     simp only [o9,oW,zC,oG] at hc
     obtain ⟨g5,g1,g2,g3,g4,_⟩:=J
     rcases hc with hc | hc | hc | hc | hc
     ·exact g1 hc
     ·exact g2 hc
     ·exact g3 hc
     ·exact g4 hc
     ·exact g5 hc
theorem zDI {N N':Nat} {es:List D} (h:OwnL N N' es):OwnL N N' (.sl none 2 [] 0::es):=
 ⟨by simpa only [zC,D.foot,oW] using h.nd,⟨⟨by simp,trivial⟩,h.fl⟩,by simpa only [zC,D.foot,oW] using h.lo,by simpa only [zC,D.foot,oW] using h.hi⟩
/-- a node of the reference: the parts are copied -/
theorem zJe (k:Int) {l:List Tm} {es:List D} (ab:All2 Tm.Is l es) (hlen:es.length<=1073741824) (hc:∀ x∈l,x.cnt<=1073741824) (a:Option Addr) (c:Nat) (N:Nat) (Q:QT [.ag 9])
  (hQ:∀ d' N',N<=N'->(Tm.mk k (bytes []) (bytes []) 0 (.mk 0 []) (.mk 0 []) l).Is d'->Own N N' d'->Q d' N') :
  ACalls prog 79 [.ag 9] [.j k,.sv a 9 es c] N Q:=by
 have hl:=ab.len
 refine zJW N _ a es c Q λ_=>?_
 refine up ab (by omega) (λi xs=>∀ (done:List D) (q N':Nat),N<=N'->All2 Tm.Is (l.take i) done->done.length=i->OwnL N N' done ->
  vo Q N a es c i 0 (bytes []) (bytes []) 0 0 none [] 0 0 none [] 0 none [] 0 k (bytes []) (bytes []) 0 0 none [] 0 0 none [] 0 done.length q done q N') ?_ ?_ [] 0 N (oB _) rfl rfl zBw
 ·intro i ae hi done q N' ah hd ac ho
  refine qr _ _ _ _ _ _ _ _ _ _ _ _ _ _ _ _ _ _ _ _ _ _ _ _ _ _ _ _ _ _ _ _ _ _ _ _ _ _ ?_
  rw [od (by omega)] at hd
  rw [ae]
  refine ⟨⟨rfl,rfl⟩,⟨rfl,rfl⟩,⟨rfl,rfl⟩,λa1 N4 ai hf N5 aa=>hQ _ _ (by omega) (Tm.is_mk.2 ⟨_,_,_,_,_,_,_,rfl,⟨by decide,by decide,wD _,wD _⟩,by omega,hd⟩) ?_⟩
  exact zA5 (ze (ze (ze (ze (ze (zDI (ze (zDI (yP ((qm ho hf ai).mono (oB _) aa))))))))))
 ·intro i x xs J _ aj done q N' ah hd ac ho
  have hb:=J.b
  have ak:=hc x J.m
  refine qr _ _ _ _ _ _ _ _ _ _ _ _ _ _ _ _ _ _ _ _ _ _ _ _ _ _ _ _ _ _ _ _ _ _ _ _ _ _ ?_
  rw [J.lt]
  refine ⟨⟨by omega,by omega⟩,λN5 aa=>?_⟩
  rw [oK,J.w]
  refine zSK x _ J.r (by omega) _ _ ?_
  cases x with
  | mk k2 aq au n2 aw ax l2=>
    intro x4 x5 x6 x7 es2 c2 N6 ay al O am _ _
    have az:=O.len
    have ao:=y6 l2
    simp only [Tm.cnt] at ak
    refine ⟨⟨rfl,rfl⟩,λa2 N7 a6 hf=>⟨⟨rfl,rfl⟩,by unfold zB;rw [oE];simp only [oJ,oM];omega,λc3=>?_⟩⟩
    refine aj _ _ _ (by omega) (by rw [xK J.g];exact hd.snoc (Tm.is_mk.2 ⟨_,_,_,_,_,_,_,rfl,al,by omega,O⟩)) (by simp [ac]) ?_
    refine zLL (hd:=[]) (xs:=[x4,x5,x6,x7]) (ho.mono (oB _) aa) am hf (by omega) (by omega) (by omega) ?_ ?_
    ·intro ad h hc
     have I:=hf.ap ad h (.ag done) (by simp)
     exact I (by simpa only [D.foot,oW] using hc)
    ·intro ad h hc
     have I:=hf.ap ad h
     simp only [o9,oW,zC,oG] at hc
     rcases hc with hc | hc | hc | hc | hc
     ·exact I x4 (by simp) hc
     ·exact I x5 (by simp) hc
     ·exact I x6 (by simp) hc
     ·exact I x7 (by simp) hc
     ·exact I (.ag es2) (by simp) (by simpa only [D.foot] using hc)
theorem zIS {t:Tm} {d:D} (h:t.Is d):All2 Tm.Is [t] [d]:=⟨d,[],rfl,h,rfl⟩
theorem zNh {t u:Tm} {d e:D} (h:t.Is d) (g:u.Is e):All2 Tm.Is [t,u] [d,e]:=⟨d,[e],rfl,h,zIS g⟩
theorem zM9 {N N':Nat} {v0 v1 v2 w:Value} {es:List D} (h:Own N N' (.ag (.lit v0::.lit v1::es))):Own N N' (.ag (.lit v0::.lit w::es)):=
 ⟨by simpa only [zC,D.foot,oW] using h.nd,h.fl,by simpa only [zC,D.foot,oW] using h.lo,by simpa only [zC,D.foot,oW] using h.hi⟩
/-- a let around a name -/
def Tm.letN (s:ByteArray) (t u:Tm):Tm:=.mk 8 s (bytes []) 0 (.mk 0 []) (.mk 0 []) [t,u]
theorem zO2 (s:ByteArray) (hs:s.size<=4611686018427387904) (t u:Tm) (d e:D) (hd:t.Is d) (he:u.Is e) (hc:t.cnt<=1073741824) (I:u.cnt<=1073741824):Cop 38 9 [.str s,.dg 9 d,.dg 9 e] (Tm.letN s t u).Is:=λN Q hQ=>by
 refine zKi N s _ _ Q λ_ _=>⟨⟨rfl,rfl⟩,λa _ N1 J hb=>?_⟩
 refine zJe 8 (zNh hd he) (by simp) (by simpa using ⟨hc,I⟩) a 2 N1 _ λd' N2 ac O ho _=>⟨wW hb ho,λ_ N3 aa=>?_⟩
 obtain ⟨t0,t1,r0,r1,a',es,c,rfl,hh,hlen,ab⟩:=Tm.is_mk.1 O
 exact hQ _ _ (by omega) (Tm.is_mk.2 ⟨_,_,_,_,_,_,_,rfl,⟨hs,hh.ot,hh.ty,hh.re⟩,hlen,ab⟩) ((zM9 (v2:=.string s) ho).mono J aa)
end Go.Proofs.YtlahkdflngobiaaGreatDoor
