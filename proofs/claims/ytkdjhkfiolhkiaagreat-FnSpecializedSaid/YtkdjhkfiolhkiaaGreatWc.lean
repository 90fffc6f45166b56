/- Copies of terms: the program's and the reference's. -/
import Derived.Test.YtkdjhkfiolhkiaaGreatWp
import Derived.Test.YtkdjhkfiolhkiaaGreatWm
set_option linter.unusedVariables false
set_option linter.unusedSimpArgs false
namespace Go.Proofs.YtkdjhkfiolhkiaaGreat
open Go Go.Proofs Go.Proofs.Tryz Go.IntWalk
theorem zG4 {N N1 N2:Nat} {es fs:List D} (h1:OwnL N1 N2 es) (h2:OwnL N N1 fs) (hN:N<=N1) (hN2:N1<=N2):OwnL N N2 (es++fs):=by
 refine ⟨?_,yn h1.fl h2.fl,fun b hb=>?_,fun b hb=>?_⟩
 ·rw [zC,o9]
  refine ⟨h1.nd,h2.nd,fun a ha b hb hab=>?_⟩
  have:=h1.lo a ha;have:=h2.hi b hb;omega
 ·rw [zC] at hb
  rcases oL.1 hb with hb | hb
  ·have:=h1.lo b hb;omega
  ·exact h2.lo b hb
 ·rw [zC] at hb
  rcases oL.1 hb with hb | hb
  ·exact h1.hi b hb
  ·have:=h2.hi b hb;omega
/-- a term's parts anew: its head is copied, the parts are those handed in -/
theorem zNr {k:Int} {nm ot:ByteArray} {n0:Int} {ty re:Ty} {t0 t1 r0 r1 x:D} (hh:Tm.Hd nm ot ty re t0 t1 r0 r1) (h1:ty.cnt<=1073741824) (h2:re.cnt<=1073741824) {l:List Tm} {es:List D} (hes:All2 Tm.Is l es) (hlen:es.length<=4611686018427387904) (a:Option Addr) (c:Nat) (N0 N:Nat) (hN0:N0<=N) (ho:Own N0 N (.sl a 9 es c))
  (Q:QT [.ag 9]) (hQ:∀ d' N',N<=N'->(Tm.mk k nm ot n0 ty re l).Is d'->Own N0 N' d'->Q d' N') :
  ACalls prog 198 [.ag 9] [.dg 9 (.ag [.lit (.int .i64 k),.lit (.string nm),.lit (.string ot),.lit (.int .i64 n0),t0,t1,r0,r1,x]),.sv a 9 es c] N Q:=by
 refine zBj N _ a es c Q fun _ _=>?_
 repeat' first|with_reducible intro _|simp only[Y1,Y2,Y3,Y4]|with_reducible refine X ?_ ?_|refine⟨_,_,_,rfl,?_⟩|refine⟨_,rfl,?_⟩|refine And.intro (by first|omega|trivial|(show _=_;rfl)|(with_reducible constructor)<;>first|omega|trivial|rfl) ?_|refine (zD7 _ _ hh.ty h1) _ _ ?_|refine (zD7 _ _ hh.re h2) _ _ ?_|fail
 rename_i N1 hN1 x1 N2 hN2 hx hox _ _ N3 hN3 y N4 hN4 hy hoy _ _ N5 hN5
 refine hQ _ _ (by omega) (Tm.is_mk.2 ⟨_,_,_,_,_,_,_,rfl,⟨hh.nm,hh.ot,Ty.is_cells hx,Ty.is_cells hy⟩,hlen,hes⟩) ?_
 exact sR (zG (zG (zG (zG (zG4 (N1:=N) (yk ((qg hx hox).mono hN1 hN3) ((qg hy hoy).mono (oF _) hN5) (by omega) (by omega)) (za ho) hN0 (by omega))))))
theorem zON:∀ (t:Tm) (d:D),t.Is d->t.cnt<=1073741824->Cop 121 9 [.dg 9 d] t.Is:=by
 refine Tm.ind fun k nm ot n0 ty re l ih d hd hc N Q hQ=>?_
 obtain ⟨t0,t1,r0,r1,a,es,c,rfl,hh,hlen,hes⟩:=Tm.is_mk.1 hd
 have hl:=hes.len
 simp only [Tm.cnt] at hc
 have hlc:=y9 l
 refine zCp N _ Q fun _ N1 hN1=>?_
 refine t9 N1 _ _ fun _=>⟨_,_,_,rfl,?_⟩
 refine up hes hlen (fun i xs=>∀ (done:List D) (q N':Nat),N1<=N'->All2 Tm.Is (l.take i) done->done.length=i->OwnL N1 N' done ->
  ya _ N1 done.length q a es c es.length i (.ag [.lit (.int .i64 k),.lit (.string nm),.lit (.string ot),.lit (.int .i64 n0),t0,t1,r0,r1,.sl a 9 es c]) 0 (bytes []) (bytes []) 0 0 none [] 0 0 none [] 0 none [] 0 done q N') ?_ ?_ [] 0 N1 (oF _) rfl rfl zGP
 ·intro i hlt hi done q N' hN' hd hdl ho
  refine w5 _ _ _ _ _ _ _ _ _ _ _ _ _ _ _ _ _ _ _ _ _ _ _ _ _ _ _ _ ?_
  rw [oY (by omega)] at hd
  rw [hlt]
  refine ⟨⟨rfl,rfl⟩,⟨rfl,rfl⟩,fun a2 N3 hN3 hf N4 hN4=>?_⟩
  refine zNr hh (by omega) (by omega) hd (by omega) a2 q N1 N4 (by omega) ((rr ho hf hN3).mono (oF _) hN4) _ fun d' N5 hN5 hd' hod _ _ N6 hN6=>?_
  exact fun _ _ N7 hN7=>hQ _ _ (by omega) hd' (hod.mono hN1 (by omega))
 ·intro i x xs hat _ ih2 done q N' hN' hd hdl ho
  have hb:=hat.b
  have hxc:=zP hat.m
  refine w5 _ _ _ _ _ _ _ _ _ _ _ _ _ _ _ _ _ _ _ _ _ _ _ _ _ _ _ _ ?_
  repeat' first|with_reducible intro _|simp only[hat.lt,hat.w,oG,Y1,Y2,Y3,Y4]|with_reducible refine X ?_ ?_|refine⟨_,_,_,rfl,?_⟩|refine⟨_,rfl,?_⟩|refine And.intro (by first|omega|trivial|(show _=_;rfl)|(with_reducible constructor)<;>first|omega|trivial|rfl) ?_|refine (ih x hat.m _ hat.r (by omega)) _ _ ?_|fail
  rename_i N2 hN2 x' N3 hN3 hx hox _ _
  refine ⟨by unfold zA;rw [oK];simp only [oH,oN];omega,fun c1=>?_⟩
  refine ih2 _ _ _ (by omega) (by rw [zY hat.g];exact hd.snoc hx) (by simp [hdl]) (yk (ho.mono (oF _) hN2) (za hox) (by omega) hN3)
theorem zJV {a:Option Addr} {z c:Nat} {es:List D} (h:(zD es).Nodup) (ha:∀ ad,a=some ad->ad.block∉zD es):(D.sl a z es c).foot.Nodup:=by
 cases a with
 | none=>simpa only [D.foot] using h
 | some ad=>
   simp only [D.foot]
   split
   ·exact mP
   ·exact ni.2 ⟨ha ad rfl,h⟩
/-- a copied part goes behind the others -/
theorem zNn {N0 N1 N2 N3:Nat} {hd r xs es:List D} {l0 l1 l2 l3:Value} {a:Option Addr} {c:Nat} {ds:List D} (h1:OwnL N0 N1 (hd++r)) (h2:OwnL N1 N2 (xs++es)) (hf:Fresh N0 N3 a ds) (g1:N0<=N1) (g2:N1<=N2) (g3:N2<=N3)
  (d1:∀ ad,a=some ad->ad.block∉zD (hd++r)) (d2:∀ ad,a=some ad->ad.block∉zD (xs++es)):OwnL N0 N3 (hd++(r++[.ag (.lit l0::.lit l1::.lit l2::.lit l3::(xs++[.sl a 9 es c]))])):=by
 have hn1:=h1.nd
 have hn2:=h2.nd
 rw [zC] at hn1 hn2
 have e:zD (hd++(r++[.ag (.lit l0::.lit l1::.lit l2::.lit l3::(xs++[.sl a 9 es c]))]))=zD (hd++r)++(zD xs++(D.sl a 9 es c).foot):=by
  simp only [zC,zD,D.foot,oa,nD,nc]
 have hfl1:=h1.fl
 have hfl2:=h2.fl
 have hbs:∀ b,b∈(D.sl a 9 es c).foot->b∈zD (xs++es)\/∃ ad,a=some ad/\b=ad.block:=fun b hb=>by
  rcases wX b hb with h | h
  ·left;rw [zC];exact oh _ h
  ·exact .inr h
 refine ⟨?_,?_,fun b hb=>?_,fun b hb=>?_⟩
 ·rw [e,o9]
  refine ⟨h1.nd,?_,fun x hx y hy hxy=>?_⟩
  ·rw [o9] at hn2 ⊢
   refine ⟨hn2.1,zJV hn2.2.1 fun ad h hc=>d2 ad h (by rw [zC];exact oh _ hc),fun x hx y hy hxy=>?_⟩
   subst hxy
   rcases wX x hy with h | ⟨ad,h9,h'⟩
   ·exact hn2.2.2 x hx x h rfl
   ·subst h';exact d2 ad h9 (by rw [zC];exact oW _ hx)
  ·subst hxy
   have hxi:=h1.hi x hx
   rcases oL.1 hy with h | h
   ·have:=h2.lo x (by rw [zC];exact oW _ h);omega
   ·rcases hbs x h with h | ⟨ad,h9,h'⟩
    ·have:=h2.lo x h;omega
    ·subst h';exact d1 ad h9 hx
 ·have hxs:xa xs/\xa es:=by
   have:∀ (u v:List D),xa (u++v)->xa u/\xa v:=by
    intro u
    induction u with
    | nil=>intro v h;exact ⟨trivial,h⟩
    | cons y u ih=>intro v h;obtain ⟨g1,g2⟩:=ih v h.2;exact ⟨⟨h.1,g1⟩,g2⟩
   exact this _ _ hfl2
  have hpr:xa hd/\xa r:=by
   have:∀ (u v:List D),xa (u++v)->xa u/\xa v:=by
    intro u
    induction u with
    | nil=>intro v h;exact ⟨trivial,h⟩
    | cons y u ih=>intro v h;obtain ⟨g1,g2⟩:=ih v h.2;exact ⟨⟨h.1,g1⟩,g2⟩
   exact this _ _ hfl1
  refine yn hpr.1 (yn hpr.2 ⟨?_,trivial⟩)
  have hsl:D.Flat0 (.sl a 9 es c):=⟨fun ad h=>hf.off ad h,hxs.2⟩
  exact ⟨trivial,trivial,trivial,trivial,yn hxs.1 ⟨hsl,trivial⟩⟩
 ·rw [e] at hb
  rcases oL.1 hb with h | h
  ·exact h1.lo b h
  ·rcases oL.1 h with h | h
   ·have:=h2.lo b (by rw [zC];exact oW _ h);omega
   ·rcases hbs b h with h | ⟨ad,h9,h'⟩
    ·have:=h2.lo b h;omega
    ·subst h';exact hf.lo ad h9
 ·rw [e] at hb
  rcases oL.1 hb with h | h
  ·have:=h1.hi b h;omega
  ·rcases oL.1 h with h | h
   ·have:=h2.hi b (by rw [zC];exact oW _ h);omega
   ·rcases hbs b h with h | ⟨ad,h9,h'⟩
    ·have:=h2.hi b h;omega
    ·subst h';exact hf.hi ad h9
/-- the reference's copy, told cell by cell -/
theorem zJv:∀ (t:Tm) (d:D),t.Is d->t.cnt<=1073741824->∀ (N:Nat) (Q:QT [.pk,.int .i64,.str,.str,.int .i64,.dc,.dc,.dc,.dc,.row 30 9]),
  (match t with | .mk k nm ot n ty re l=>∀ x4 x5 x6 x7 es' c' N',N<=N'->Tm.Hd nm ot ty re x4 x5 x6 x7->All2 Tm.Is l es'->OwnL N N' ([x4,x5,x6,x7]++es')->Q k nm ot n x4 x5 x6 x7 es' c' N') ->
  ACalls prog 124 [.pk,.int .i64,.str,.str,.int .i64,.dc,.dc,.dc,.dc,.row 30 9] [.dg 9 d] N Q:=by
 refine Tm.ind fun k nm ot n0 ty re l ih d hd hc N Q hQ=>?_
 obtain ⟨t0,t1,r0,r1,a,es,c,rfl,hh,hlen,hes⟩:=Tm.is_mk.1 hd
 have hl:=hes.len
 simp only [Tm.cnt] at hc
 have hlc:=y9 l
 simp only at hQ
 refine zF2 N _ Q fun _=>?_
 repeat' first|with_reducible intro _|simp only[Y1,Y2,Y3,Y4]|with_reducible refine X ?_ ?_|refine⟨_,_,_,rfl,?_⟩|refine⟨_,rfl,?_⟩|refine And.intro (by first|omega|trivial|(show _=_;rfl)|(with_reducible constructor)<;>first|omega|trivial|rfl) ?_|refine (zW _ _ hh.ty (by omega)) _ _ ?_|refine (zW _ _ hh.re (by omega)) _ _ ?_|fail
 rename_i N1 hN1 x1 N2 hN2 hx hox _ _ N3 hN3 y N4 hN4 hy hoy _ _
 have hHd:Tm.Hd nm ot ty re (x1.cell 0) (x1.cell 1) (y.cell 0) (y.cell 1):=⟨hh.nm,hh.ot,Ty.is_cells hx,Ty.is_cells hy⟩
 have hOX:OwnL N N4 ([x1.cell 0,x1.cell 1,y.cell 0,y.cell 1]++[]):=by
  have h:=yk ((qg hx hox).mono hN1 (oF _)) ((qg hy hoy).mono hN3 (oF _)) (by omega) (by omega)
  exact h
 refine up hes hlen (fun i xs=>∀ (done:List D) (q N':Nat),N4<=N'->All2 Tm.Is (l.take i) done->done.length=i->OwnL N N' ([x1.cell 0,x1.cell 1,y.cell 0,y.cell 1]++done) ->
  wR Q N i (.ag [.lit (.int .i64 k),.lit (.string nm),.lit (.string ot),.lit (.int .i64 n0),t0,t1,r0,r1,.sl a 9 es c]) 0 (bytes []) (bytes []) 0 0 none [] 0 0 none [] 0 none [] 0 k nm ot n0 (x1.cell 0) (x1.cell 1) (y.cell 0) (y.cell 1) done.length q done q N') ?_ ?_ [] 0 N4 (oF _) rfl rfl hOX
 ·intro i hlt hi done q N' hN' hd hdl ho
  refine sC _ _ _ _ _ _ _ _ _ _ _ _ _ _ _ _ _ _ _ _ _ _ _ _ _ _ _ _ _ _ _ _ ⟨_,_,_,rfl,?_⟩
  rw [oY (by omega)] at hd
  rw [hlt]
  exact ⟨⟨rfl,rfl⟩,fun N5 hN5=>hQ _ _ _ _ _ _ _ (by omega) hHd hd (ho.mono (oF _) hN5)⟩
 ·intro i x xs hat _ ih2 done q N' hN' hd hdl ho
  have hb:=hat.b
  have hxc:=zP hat.m
  refine sC _ _ _ _ _ _ _ _ _ _ _ _ _ _ _ _ _ _ _ _ _ _ _ _ _ _ _ _ _ _ _ _ ⟨_,_,_,rfl,?_⟩
  rw [hat.lt]
  refine ⟨_,_,_,rfl,⟨by omega,by omega⟩,fun N5 hN5=>?_⟩
  rw [oG,hat.w]
  refine ih x hat.m _ hat.r (by omega) _ _ ?_
  cases x with
  | mk k2 nm2 ot2 n2 ty2 re2 l2=>
    intro x4 x5 x6 x7 es2 c2 N6 hN6 hh2 hes2 ho2 _ _
    have hl2:=hes2.len
    have hlc2:=y9 l2
    simp only [Tm.cnt] at hxc
    refine ⟨⟨rfl,rfl⟩,fun a2 N7 hN7 hf=>⟨⟨rfl,rfl⟩,by unfold zA;rw [oK];simp only [oH,oN];omega,fun c3=>?_⟩⟩
    refine ih2 _ _ _ (by omega) (by rw [zY hat.g];exact hd.snoc (Tm.is_mk.2 ⟨_,_,_,_,_,_,_,rfl,hh2,by omega,hes2⟩)) (by simp [hdl]) ?_
    refine zNn (hd:=[x1.cell 0,x1.cell 1,y.cell 0,y.cell 1]) (xs:=[x4,x5,x6,x7]) (ho.mono (oF _) hN5) ho2 hf (by omega) (by omega) (by omega) ?_ ?_
    ·intro ad h hc
     have hap:=hf.ap ad h
     simp only [oJ,forall_eq_or_imp,D.foot,nk,false_imp_iff,implies_true,and_true] at hap
     simp only [nV,oa,zD,oL] at hc
     obtain ⟨_,_,_,_,_,g1,g2,g3,g4,g5⟩:=hap
     rcases hc with hc | hc | hc | hc | hc
     ·exact g1 hc
     ·exact g2 hc
     ·exact g3 hc
     ·exact g4 hc
     ·exact g5 hc
    ·intro ad h hc
     have hap:=hf.ap ad h
     simp only [oJ,forall_eq_or_imp,D.foot,nk,false_imp_iff,implies_true,and_true] at hap
     simp only [nV,oa,zD,oL] at hc
     obtain ⟨g5,g1,g2,g3,g4,_⟩:=hap
     rcases hc with hc | hc | hc | hc | hc
     ·exact g1 hc
     ·exact g2 hc
     ·exact g3 hc
     ·exact g4 hc
     ·exact g5 hc
theorem zAV {N N':Nat} {es:List D} (h:OwnL N N' es):OwnL N N' (.sl none 2 [] 0::es):=
 ⟨by simpa only [zD,D.foot,oa] using h.nd,⟨⟨by simp,trivial⟩,h.fl⟩,by simpa only [zD,D.foot,oa] using h.lo,by simpa only [zD,D.foot,oa] using h.hi⟩
/-- a node of the reference: the parts are copied -/
theorem zFK (k:Int) {l:List Tm} {es:List D} (hes:All2 Tm.Is l es) (hlen:es.length<=1073741824) (hc:∀ x∈l,x.cnt<=1073741824) (a:Option Addr) (c:Nat) (N:Nat) (Q:QT [.ag 9])
  (hQ:∀ d' N',N<=N'->(Tm.mk k (bytes []) (bytes []) 0 (.mk 0 []) (.mk 0 []) l).Is d'->Own N N' d'->Q d' N') :
  ACalls prog 123 [.ag 9] [.int .i64 k,.sv a 9 es c] N Q:=by
 have hl:=hes.len
 refine zE9 N _ a es c Q fun _=>?_
 refine up hes (by omega) (fun i xs=>∀ (done:List D) (q N':Nat),N<=N'->All2 Tm.Is (l.take i) done->done.length=i->OwnL N N' done ->
  wL Q N a es c i 0 (bytes []) (bytes []) 0 0 none [] 0 0 none [] 0 none [] 0 k (bytes []) (bytes []) 0 0 none [] 0 0 none [] 0 done.length q done q N') ?_ ?_ [] 0 N (oF _) rfl rfl zGP
 ·intro i hlt hi done q N' hN' hd hdl ho
  refine sK _ _ _ _ _ _ _ _ _ _ _ _ _ _ _ _ _ _ _ _ _ _ _ _ _ _ _ _ _ _ _ _ _ _ _ _ _ _ ?_
  rw [oY (by omega)] at hd
  rw [hlt]
  refine ⟨⟨rfl,rfl⟩,⟨rfl,rfl⟩,⟨rfl,rfl⟩,fun a1 N4 hN4 hf N5 hN5=>hQ _ _ (by omega) (Tm.is_mk.2 ⟨_,_,_,_,_,_,_,rfl,⟨by decide,by decide,xV _,xV _⟩,by omega,hd⟩) ?_⟩
  exact sR (zG (zG (zG (zG (zG (zAV (zG (zAV (za ((rr ho hf hN4).mono (oF _) hN5))))))))))
 ·intro i x xs hat _ ih2 done q N' hN' hd hdl ho
  have hb:=hat.b
  have hxc:=hc x hat.m
  refine sK _ _ _ _ _ _ _ _ _ _ _ _ _ _ _ _ _ _ _ _ _ _ _ _ _ _ _ _ _ _ _ _ _ _ _ _ _ _ ?_
  rw [hat.lt]
  refine ⟨⟨by omega,by omega⟩,fun N5 hN5=>?_⟩
  rw [oG,hat.w]
  refine zJv x _ hat.r (by omega) _ _ ?_
  cases x with
  | mk k2 nm2 ot2 n2 ty2 re2 l2=>
    intro x4 x5 x6 x7 es2 c2 N6 hN6 hh2 hes2 ho2 _ _
    have hl2:=hes2.len
    have hlc2:=y9 l2
    simp only [Tm.cnt] at hxc
    refine ⟨⟨rfl,rfl⟩,fun a2 N7 hN7 hf=>⟨⟨rfl,rfl⟩,by unfold zA;rw [oK];simp only [oH,oN];omega,fun c3=>?_⟩⟩
    refine ih2 _ _ _ (by omega) (by rw [zY hat.g];exact hd.snoc (Tm.is_mk.2 ⟨_,_,_,_,_,_,_,rfl,hh2,by omega,hes2⟩)) (by simp [hdl]) ?_
    refine zNn (hd:=[]) (xs:=[x4,x5,x6,x7]) (ho.mono (oF _) hN5) ho2 hf (by omega) (by omega) (by omega) ?_ ?_
    ·intro ad h hc
     have hap:=hf.ap ad h (.ag done) (by simp)
     exact hap (by simpa only [D.foot,oa] using hc)
    ·intro ad h hc
     have hap:=hf.ap ad h
     simp only [nV,oa,zD,oL] at hc
     rcases hc with hc | hc | hc | hc | hc
     ·exact hap x4 (by simp) hc
     ·exact hap x5 (by simp) hc
     ·exact hap x6 (by simp) hc
     ·exact hap x7 (by simp) hc
     ·exact hap (.ag es2) (by simp) (by simpa only [D.foot] using hc)
/-- a node with nothing but its kind and its parts -/
def Tm.nod (k:Int) (l:List Tm):Tm:=.mk k (bytes []) (bytes []) 0 (.mk 0 []) (.mk 0 []) l
theorem zGF {t:Tm} {d:D} (h:t.Is d):All2 Tm.Is [t] [d]:=⟨d,[],rfl,h,rfl⟩
theorem zNN {t u:Tm} {d e:D} (h:t.Is d) (g:u.Is e):All2 Tm.Is [t,u] [d,e]:=⟨d,[e],rfl,h,zGF g⟩
theorem zJq {N N':Nat} {v0 v1 v2 w:Value} {es:List D} (h:Own N N' (.ag (.lit v0::.lit v1::es))):Own N N' (.ag (.lit v0::.lit w::es)):=
 ⟨by simpa only [zD,D.foot,oa] using h.nd,h.fl,by simpa only [zD,D.foot,oa] using h.lo,by simpa only [zD,D.foot,oa] using h.hi⟩
/-- a let around a name -/
def Tm.letN (s:ByteArray) (t u:Tm):Tm:=.mk 8 s (bytes []) 0 (.mk 0 []) (.mk 0 []) [t,u]
theorem zL7 (s:ByteArray) (hs:s.size<=4611686018427387904) (t u:Tm) (d e:D) (hd:t.Is d) (he:u.Is e) (hc:t.cnt<=1073741824) (hc2:u.cnt<=1073741824):Cop 186 9 [.str s,.dg 9 d,.dg 9 e] (Tm.letN s t u).Is:=fun N Q hQ=>by
 refine zG1 N s _ _ Q fun _ _=>⟨⟨rfl,rfl⟩,fun a _ N1 hN1 hb=>?_⟩
 refine zFK 8 (zNN hd he) (by simp) (by simpa using ⟨hc,hc2⟩) a 2 N1 _ fun d' N2 hN2 hd' ho _=>⟨wS hb ho,fun _ N3 hN3=>?_⟩
 obtain ⟨t0,t1,r0,r1,a',es,c,rfl,hh,hlen,hes⟩:=Tm.is_mk.1 hd'
 exact hQ _ _ (by omega) (Tm.is_mk.2 ⟨_,_,_,_,_,_,_,rfl,⟨hs,hh.ot,hh.ty,hh.re⟩,hlen,hes⟩) ((zJq (v2:=.string s) ho).mono hN1 hN3)
/-- what is bound around the parts behind the first -/
def bdE (k:Int) (nm:ByteArray) (v:List Bd) (b:Bool):List Bd:=if k=8 then v++[(nm,b)] else v
def zDC:List Tm->List Bd->Bool
 | [],_=>true
 | x::_,v=>x.late v
theorem Tm.cnt3:∀ t:Tm,3<=t.cnt
 | .mk _ _ _ _ ty re _=>by simp only [Tm.cnt];have:=ty.cnt_pos;have:=re.cnt_pos;omega
theorem zIS (k:Int) (l:List Tm):(Tm.nod k l).cnt=3+zJ l:=by simp only [Tm.nod,Tm.cnt,Ty.cnt,zO]
theorem zOR {a c:List D} {x y:D}:(a++x::c).set a.length y=a++y::c:=by simp
/-- the fields of a node that has neither number nor types nor other name -/
theorem zLp {k n:Int} {nm ot:ByteArray} {ty re:Ty} {l:List Tm} (h:Node k nm ot n ty re l) (hk:k=5\/k=8):ot=bytes []/\n=0/\ty=.mk 0 []/\re=.mk 0 []/\(k=5->nm=bytes []):=by
 have hf:=h.f
 have z:∀ t:Ty,t.zero=true->t=.mk 0 []:=fun t ht=>by
  obtain ⟨kk,ll⟩:=t
  simp only [Ty.zero,Ty.k,Ty.as,oI,np] at ht
  have:ll=[]:=oR (by omega)
  rw [ht.1,this]
 have e1:zA2 k=false:=by rcases hk with rfl | rfl<;>rfl
 have e2:(k==9)=false:=by rcases hk with rfl | rfl<;>rfl
 simp only [yH,e1,e2,oI,Bool.false_or,yG] at hf
 obtain ⟨_,h1,_,h2,h3,h4⟩:=hf
 rw [if_neg (by omega),if_neg (by omega)] at h3
 rcases hk with rfl | rfl
 ·simp [sF] at h4
  exact ⟨h4.2,by omega,z _ h1,z _ h2,fun _=>h4.1⟩
 ·simp [sF] at h4
  exact ⟨h4.2,by omega,z _ h1,z _ h2,fun h=>by omega⟩
theorem Fresh.mono {N0 N1 N M:Nat} {a:Option Addr} {ds:List D} (h:Fresh N0 N a ds) (h1:N1<=N0) (h2:N<=M):Fresh N1 M a ds:=
 ⟨fun ad h'=>od h1 (h.lo ad h'),fun ad h'=>ou (h.hi ad h') h2,h.off,h.ap⟩
theorem zN6 {k:Int} {a:Option Addr} {es:List D} {c:Nat} {l:List Tm} (h:All2 Tm.Is l es) (hl:es.length<=4611686018427387904) :
  (Tm.nod k l).Is (.ag [.lit (.int .i64 k),.lit (.string (bytes [])),.lit (.string (bytes [])),.lit (.int .i64 0),.lit (.int .i64 0),.sl none 2 [] 0,.lit (.int .i64 0),.sl none 2 [] 0,.sl a 9 es c]):=
 Tm.is_mk.2 ⟨_,_,_,_,_,_,_,rfl,⟨by decide,by decide,xV _,xV _⟩,hl,h⟩
theorem zJe {N N':Nat} (k:Int):Own N N' (.ag [.lit (.int .i64 k),.lit (.string (bytes [])),.lit (.string (bytes [])),.lit (.int .i64 0),.lit (.int .i64 0),.sl none 2 [] 0,.lit (.int .i64 0),.sl none 2 [] 0,.sl none 9 [] 0]):=
 sR (zG (zG (zG (zG (zG (zAV (zG (zAV (za ⟨by simp [D.foot,zD],⟨by simp,trivial⟩,by simp [D.foot,zD],by simp [D.foot,zD]⟩))))))))) 
end Go.Proofs.YtkdjhkfiolhkiaaGreat
