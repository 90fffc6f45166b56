/- The law FnExactTypeOf: for all data it answers true. -/
import Derived.Test.YtlahkdflngobiaaGreatDoorA4
import Derived.Test.YtlahkdflngobiaaGreatDoorB2
import Derived.Test.YtlahkdflngobiaaGreatDoorKa
import Derived.Test.YtlahkdflngobiaaGreatDoorB1
import Derived.Test.YtlahkdflngobiaaGreatDoorKu
set_option linter.unusedVariables false
set_option linter.unusedSimpArgs false
namespace Go.Proofs.YtlahkdflngobiaaGreatDoor
open Go Go.Proofs Go.Proofs.Tryz Go.IntWalk
mutual
theorem zRV:∀ (t:Ty) (k:Int),(zOP t k).1.cnt=t.cnt
 | .mk kk l,k=>by simp only [zOP,Ty.cnt,ql l]
theorem ql:∀ (l:List Ty) (k:Int),zI (ze l k).1=zI l
 | [],k=>rfl
 | t::I,k=>by simp only [ze,zI,zRV t,ql I]
end
theorem Own.tree {N N':Nat} {d:D} (h:Own N N' d):Tree d:=⟨h.nd,h.fl⟩
theorem Own.low {N N' M:Nat} {d:D} (h:Own N N' d) (I:M<=N):Low M d:=⟨λb J=>oe I (h.lo b J)⟩
/-- blocks below a bound and blocks from it on -/
theorem uu {N N':Nat} {d x:D} (h:Own N N' d) (I:Bel N x):∀ b∈d.foot,b∉x.foot:=λb J hc=>by
 have:=h.lo b J;have:=I b hc;omega
theorem zId {N N' M I:Nat} {d x:D} (h:Own N N' d) (J:Own M I x) (hM:N'<=M):∀ b∈d.foot,b∉x.foot:=λb O hc=>by
 have:=h.hi b O;have:=J.lo b hc;omega
theorem Bel.mono {N M:Nat} {x:D} (h:Bel N x) (I:N<=M):Bel M x:=λb J=>o5 (h b J) I
theorem zM6 (l:List Ty) (k:Int) (es:List D) (a:Option Addr) (c:Nat) (I:All2 Ty.Is (ze l k).1 es) (hlen:es.length<=4611686018427387904) (J:0<=k) (O:k+zI l<=4611686018427387904):p9 93 [.sv a 2 es c,.j k] (ze l k).2:=by
 have h:=zFO (.mk 0 (ze l k).1) es a c I hlen k J (by simp only [Ty.as,ql];exact O)
 simp only [Ty.as,zHk l k J] at h
 exact h
theorem zJ7:∀ (t:Tm) (k:Int) (es:List D) (a:Option Addr) (c:Nat),All2 Tm.Is (y9 t.as k).1 es->es.length<=4611686018427387904->0<=k->k+4*zh t.as<=4611686018427387904->p9 56 [.sv a 9 es c,.j k] (y9 t.as k).2:=by
 refine Tm.ind λkk nm ot n ty re l ih k es a c O hlen h0 h1 N Q hQ=>?_
 simp only [Tm.as] at O hQ h1
 have hl:=O.len
 rw [zKs] at hl
 refine zEO N a es c k Q λ_=>?_
 have key:∀ (xs:List Tm) (i:Nat) (m:Int) (N':Nat),N<=N'->(∀ x∈xs,x∈l)->i+xs.length=es.length->(y9 l k).1.drop i=(y9 xs m).1->(y9 xs m).2=(y9 l k).2->0<=m->m+4*zh xs<=4611686018427387904->x9 Q N a es c m i N':=by
  intro xs
  induction xs with
  | nil=>
    intro i m N' ao _ hi hd I hm _
    refine tw _ _ _ _ _ _ _ _ (Br.dec (λh=>?_) λ_ N1 bz=>?_)
    ·simp at hi;omega
    ·simp only [y9] at I;exact Qi (hQ _ (by omega)) I.symm
  | cons x ts aq=>
    intro i m N' ao J hi hd I hm hb
    cases x with
    | mk kx nx ox au aw ax lx=>
    obtain ⟨tk,tl⟩:=aw
    obtain ⟨rk,rl⟩:=ax
    have hx:=ih (.mk kx nx ox au (.mk tk tl) (.mk rk rl) lx) (J _ (by simp))
    simp only [Tm.as] at hx
    simp only [y9,Ty.as] at hd I
    simp only [zh,Tm.cnt,Ty.cnt] at hb
    simp only [oK] at hi
    have ay:=wb tl (m+1+1+1+1+1)
    generalize hT:ze tl (m+1+1+1+1+1)=mT at hd I ay
    have az:=wb rl (mT.2+1)
    generalize hR:ze rl (mT.2+1)=mR at hd I az
    have a6:=zCb lx mR.2
    generalize hA:y9 lx mR.2=mA at hd I a6
    have hg:(y9 l k).1[i]?=some (Tm.mk m (rp (m+1)) (rp (m+1+1)) (m+1+1+1) (.mk (m+1+1+1+1) mT.1) (.mk mT.2 mR.1) mA.1):=by
     have:=nH (λu=>u[0]?) hd
     simpa using this
    have hr:=O.get hg
    obtain ⟨t0,t1,r0,r1,a2,a7,c2,a8,hh,aa,ae⟩:=Tm.is_mk.1 hr
    obtain ⟨kT,lT,aT,ba,cT,eT,rfl,rfl,ab,ah⟩:=Ty.is_two hh.ty
    obtain ⟨kR,lR,aR,bb,cR,eR,rfl,rfl,ac,ai⟩:=Ty.is_two hh.re
    injection eT with bc bd
    injection eR with bg bh
    subst bc;subst bd;subst bg;subst bh
    have aj:(i:Int)<(es.length:Int):=by omega
    have B:(0:Int)<=(i:Int)/\(i:Int)<(es.length:Int):=⟨by omega,aj⟩
    refine tw _ _ _ _ _ _ _ _ ?_
    rw [i64_in (m+1) (by omega),i64_in (m+1+1) (by omega),i64_in (m+1+1+1) (by omega),i64_in (m+1+1+1+1) (by omega),i64_in (m+1+1+1+1+1) (by omega),i64_in ((i:Int)+1) (by omega)]
    rw [oH,a8]
    refine Br.dec (λ_=>?_) λh=>absurd aj h
    refine ⟨B,_,rfl,Br.bne (λh=>absurd rfl h) λ_=>⟨B,_,rfl,λN2 b1=>?_⟩⟩
    refine rn (m+1) (by omega) (by omega) N2 _ λN3 b2 _=>Br.nstr (λh=>absurd rfl h) λ_=>⟨B,_,rfl,λN5 b3=>?_⟩
    refine rn (m+1+1) (by omega) (by omega) N5 _ λN6 b4 _=>Br.nstr (λh=>absurd rfl h) λ_=>⟨B,_,rfl,Br.bne (λh=>absurd rfl h) λ_=>⟨B,_,rfl,Br.bne (λh=>absurd rfl h) λ_=>⟨B,_,_,_,rfl,λN10 bn=>?_⟩⟩⟩
    have ak:=zM6 tl (m+1+1+1+1+1) ba aT cT (by rw [hT];exact uw ah) ab (by omega) (by omega)
    rw [hT] at ak
    refine ak N10 _ λb5 bp _=>Br.dec (λh=>by omega) λ_=>⟨B,_,rfl,Br.bne (λh=>absurd rfl h) λ_=>⟨B,_,_,_,rfl,λbi bq=>?_⟩⟩
    rw [i64_in (mT.2+1) (by omega)]
    have al:=zM6 rl (mT.2+1) bb aR cR (by rw [hR];exact uw ai) ac (by omega) (by omega)
    rw [hR] at al
    refine al bi _ λb6 bt _=>Br.dec (λh=>by omega) λ_=>⟨B,_,_,_,rfl,λbj bv=>?_⟩
    have am:=hx mR.2 a7 a2 c2 (by rw [hA];exact ae) aa (by omega) (by omega)
    rw [hA] at am
    refine am bj _ λbm bw _=>Br.dec (λh=>by omega) λ_=>?_
    refine aq (i+1) mA.2 bm (by omega) (λx hx=>J x (by simp [hx])) (by omega) ?_ I (by omega) (by omega)
    have:=nH (List.drop 1) hd
    simpa [List.drop_drop,Nat.add_comm] using this
 exact key l 0 k N (oA _) (λx h=>h) (by omega) (by simp) rfl h0 h1
theorem zLv (t:Tm) (k:Int) (d:D) (hd:(t.mkd k).Is d) (h0:0<=k) (h1:k+4*t.cnt<=4611686018427387904):p9 16 [.dg 9 d,.j k] (t.mkk k):=λN Q hQ=>by
 obtain ⟨kk,nm,ot,n,⟨tk,tl⟩,⟨rk,rl⟩,l⟩:=t
 simp only [Tm.mkd,Tm.mkk,Ty.as,Ty.k] at hd hQ
 simp only [Tm.cnt,Ty.cnt] at h1
 have ah:=wb tl k
 generalize hT:ze tl k=I at hd hQ ah
 have ai:=wb rl I.2
 generalize hR:ze rl I.2=mR at hd hQ ai
 have ax:=zCb l mR.2
 obtain ⟨t0,t1,r0,r1,a2,aj,c2,rfl,hh,J,ab⟩:=Tm.is_mk.1 hd
 obtain ⟨kT,lT,aT,ay,cT,eT,rfl,rfl,O,ac⟩:=Ty.is_two hh.ty
 obtain ⟨kR,lR,aR,az,cR,eR,rfl,rfl,aa,ae⟩:=Ty.is_two hh.re
 injection eT with ak al
 injection eR with am ao
 subst ak;subst al;subst am;subst ao
 have a6:zI I.1=zI tl:=by rw [<-hT];exact ql tl k
 have a7:zI mR.1=zI rl:=by rw [<-hR];exact ql rl _
 have aq:sN I.1 k=I.2:=by rw [<-hT];exact zHk tl k h0
 have au:sN mR.1 I.2=mR.2:=by rw [<-hR];exact zHk rl _ (by omega)
 refine zFl N _ k Q λ_ N1 a8=>?_
 have h2:=zHM (kk:=tk) (a:=aT) (c:=cT) ac O k h0 (by omega)
 rw [aq] at h2
 refine h2 N1 _ λN2 ba _=>Br.dec (λh=>by omega) λ_ N4 bb=>?_
 have h3:=zHM (kk:=rk) (a:=aR) (c:=cR) ae aa I.2 (by omega) (by omega)
 rw [au] at h3
 refine h3 N4 _ λN5 bc _=>Br.dec (λh=>by omega) λ_=>⟨_,_,_,rfl,λN7 bd=>?_⟩
 refine zJ7 (.mk 0 (bytes []) (bytes []) 0 (.mk 0 []) (.mk 0 []) l) mR.2 aj a2 c2 ab J (by omega) (by simp only [Tm.as];omega) N7 _ λN8 bg _=>Br.dec (λh=>by simp only [Tm.as] at h;omega) λ_ N10 aw=>?_
 exact hQ _ (by omega)
theorem zDP {N N1 N2:Nat} {es fs:List D} (I:OwnL N1 N2 es) (J:OwnL N N1 fs) (hN:N<=N1) (O:N1<=N2):OwnL N N2 (es++fs):=by
 refine ⟨?_,xZ I.fl J.fl,λb hb=>?_,λb hb=>?_⟩
 ·rw [zE,oc]
  refine ⟨I.nd,J.nd,λa ha b hb aa=>?_⟩
  have:=I.lo a ha;have:=J.hi b hb;omega
 ·rw [zE] at hb
  rcases oF.1 hb with hb | hb
  ·have:=I.lo b hb;omega
  ·exact J.lo b hb
 ·rw [zE] at hb
  rcases oF.1 hb with hb | hb
  ·exact I.hi b hb
  ·have:=J.hi b hb;omega
theorem zMX {a:Option Addr} {z c:Nat} {es:List D} (h:(zB es).Nodup) (I:∀ ad,a=some ad->ad.block∉zB es):(D.sl a z es c).foot.Nodup:=by
 cases a with
 | none=>simpa only [D.foot] using h
 | some ad=>
   simp only [D.foot]
   split
   ·exact mJ
   ·exact nG.2 ⟨I ad rfl,h⟩
/-- a copied part goes behind the others -/
theorem zK6 {N0 N1 N2 N3:Nat} {hd r xs es:List D} {l0 l1 l2 l3:Value} {a:Option Addr} {c:Nat} {ds:List D} (h1:OwnL N0 N1 (hd++r)) (J:OwnL N1 N2 (xs++es)) (hf:Fresh N0 N3 a ds) (g1:N0<=N1) (g2:N1<=N2) (g3:N2<=N3)
  (d1:∀ ad,a=some ad->ad.block∉zB (hd++r)) (d2:∀ ad,a=some ad->ad.block∉zB (xs++es)):OwnL N0 N3 (hd++(r++[.ag (.lit l0::.lit l1::.lit l2::.lit l3::(xs++[.sl a 9 es c]))])):=by
 have ai:=h1.nd
 have I:=J.nd
 rw [zE] at ai I
 have e:zB (hd++(r++[.ag (.lit l0::.lit l1::.lit l2::.lit l3::(xs++[.sl a 9 es c]))]))=zB (hd++r)++(zB xs++(D.sl a 9 es c).foot):=by
  simp only [zE,zB,D.foot,oR,oY,o0]
 have ab:=h1.fl
 have ac:=J.fl
 have O:∀ b,b∈(D.sl a 9 es c).foot->b∈zB (xs++es)\/∃ ad,a=some ad/\b=ad.block:=λb hb=>by
  rcases w8 b hb with h | h
  ·left;rw [zE];exact oX _ h
  ·exact .inr h
 refine ⟨?_,?_,λb hb=>?_,λb hb=>?_⟩
 ·rw [e,oc]
  refine ⟨h1.nd,?_,λx hx y hy aa=>?_⟩
  ·rw [oc] at I ⊢
   refine ⟨I.1,zMX I.2.1 λad h hc=>d2 ad h (by rw [zE];exact oX _ hc),λx hx y hy aa=>?_⟩
   subst aa
   rcases w8 x hy with h | ⟨ad,h9,h'⟩
   ·exact I.2.2 x hx x h rfl
   ·subst h';exact d2 ad h9 (by rw [zE];exact oV _ hx)
  ·subst aa
   have ak:=h1.hi x hx
   rcases oF.1 hy with h | h
   ·have:=J.lo x (by rw [zE];exact oV _ h);omega
   ·rcases O x h with h | ⟨ad,h9,h'⟩
    ·have:=J.lo x h;omega
    ·subst h';exact d1 ad h9 hx
 ·have ae:y7 xs/\y7 es:=by
   have:∀ (u v:List D),y7 (u++v)->y7 u/\y7 v:=by
    intro u
    induction u with
    | nil=>intro v h;exact ⟨trivial,h⟩
    | cons y u ih=>intro v h;obtain ⟨g1,g2⟩:=ih v h.2;exact ⟨⟨h.1,g1⟩,g2⟩
   exact this _ _ ac
  have ah:y7 hd/\y7 r:=by
   have:∀ (u v:List D),y7 (u++v)->y7 u/\y7 v:=by
    intro u
    induction u with
    | nil=>intro v h;exact ⟨trivial,h⟩
    | cons y u ih=>intro v h;obtain ⟨g1,g2⟩:=ih v h.2;exact ⟨⟨h.1,g1⟩,g2⟩
   exact this _ _ ab
  refine xZ ah.1 (xZ ah.2 ⟨?_,trivial⟩)
  have aj:D.Flat0 (.sl a 9 es c):=⟨λad h=>hf.off ad h,ae.2⟩
  exact ⟨trivial,trivial,trivial,trivial,xZ ae.1 ⟨aj,trivial⟩⟩
 ·rw [e] at hb
  rcases oF.1 hb with h | h
  ·exact h1.lo b h
  ·rcases oF.1 h with h | h
   ·have:=J.lo b (by rw [zE];exact oV _ h);omega
   ·rcases O b h with h | ⟨ad,h9,h'⟩
    ·have:=J.lo b h;omega
    ·subst h';exact hf.lo ad h9
 ·rw [e] at hb
  rcases oF.1 hb with h | h
  ·have:=h1.hi b h;omega
  ·rcases oF.1 h with h | h
   ·have:=J.hi b (by rw [zE];exact oV _ h);omega
   ·rcases O b h with h | ⟨ad,h9,h'⟩
    ·have:=J.hi b h;omega
    ·subst h';exact hf.hi ad h9
/-- the reference's copy, told cell by cell -/
theorem zRm:∀ (t:Tm) (d:D),t.Is d->t.cnt<=1073741824->∀ (N:Nat) (Q:QT [.pk,.i,.str,.str,.i,.dc,.dc,.dc,.dc,.row 36 9]),
  (match t with | .mk k nm ot n ty re l=>∀ x4 x5 x6 x7 es' c' N',N<=N'->Tm.Hd nm ot ty re x4 x5 x6 x7->All2 Tm.Is l es'->OwnL N N' ([x4,x5,x6,x7]++es')->Q k nm ot n x4 x5 x6 x7 es' c' N') ->
  ACalls prog 34 [.pk,.i,.str,.str,.i,.dc,.dc,.dc,.dc,.row 36 9] [.dg 9 d] N Q:=by
 refine Tm.ind λk nm ot n0 ty re l ih d hd hc N Q hQ=>?_
 obtain ⟨t0,t1,r0,r1,a,es,c,rfl,hh,hlen,ac⟩:=Tm.is_mk.1 hd
 have hl:=ac.len
 simp only [Tm.cnt] at hc
 have a6:=yg l
 simp only at hQ
 refine zBo N _ Q λ_=>?_
 repeat' first|with_reducible intro _|simp only[Y1,Y2,Y3,Y4]|with_reducible refine X ?_ ?_|refine⟨_,_,_,rfl,?_⟩|refine⟨_,rfl,?_⟩|refine And.intro (by first|omega|trivial|(show _=_;rfl)|(with_reducible constructor)<;>first|omega|trivial|rfl) ?_|refine (zw _ _ hh.ty (by omega)) _ _ ?_|refine (zw _ _ hh.re (by omega)) _ _ ?_|fail
 rename_i N1 ah O N2 a7 hx ai _ _ N3 aj y N4 a8 hy ak _ _
 have al:Tm.Hd nm ot ty re (O.cell 0) (O.cell 1) (y.cell 0) (y.cell 1):=⟨hh.nm,hh.ot,Ty.is_cells hx,Ty.is_cells hy⟩
 have am:OwnL N N4 ([O.cell 0,O.cell 1,y.cell 0,y.cell 1]++[]):=by
  have h:=zm ((vU hx ai).mono ah (oA _)) ((vU hy ak).mono aj (oA _)) (by omega) (by omega)
  exact h
 refine up ac hlen (λi xs=>∀ (done:List D) (q N':Nat),N4<=N'->All2 Tm.Is (l.take i) done->done.length=i->OwnL N N' ([O.cell 0,O.cell 1,y.cell 0,y.cell 1]++done) ->
  wL Q N i (.ag [.j k,.t nm,.t ot,.j n0,t0,t1,r0,r1,.sl a 9 es c]) 0 (bytes []) (bytes []) 0 0 none [] 0 0 none [] 0 none [] 0 k nm ot n0 (O.cell 0) (O.cell 1) (y.cell 0) (y.cell 1) done.length q done q N') ?_ ?_ [] 0 N4 (oA _) rfl rfl am
 ·intro i ao hi done q N' aq hd ae ho
  refine vZ _ _ _ _ _ _ _ _ _ _ _ _ _ _ _ _ _ _ _ _ _ _ _ _ _ _ _ _ _ _ _ _ ⟨_,_,_,rfl,?_⟩
  rw [oi (by omega)] at hd
  rw [ao]
  exact ⟨⟨rfl,rfl⟩,λN5 ab=>hQ _ _ _ _ _ _ _ (by omega) al hd (ho.mono (oA _) ab)⟩
 ·intro i x xs I _ au done q N' aq hd ae ho
  have hb:=I.b
  have aw:=zn I.m
  refine vZ _ _ _ _ _ _ _ _ _ _ _ _ _ _ _ _ _ _ _ _ _ _ _ _ _ _ _ _ _ _ _ _ ⟨_,_,_,rfl,?_⟩
  rw [I.lt]
  refine ⟨_,_,_,rfl,⟨by omega,by omega⟩,λN5 ab=>?_⟩
  rw [oH,I.w]
  refine ih x I.m _ I.r (by omega) _ _ ?_
  cases x with
  | mk k2 ba bb n2 bc bd l2=>
    intro x4 x5 x6 x7 bg c2 N6 bh ax aa ay _ _
    have bi:=aa.len
    have az:=yg l2
    simp only [Tm.cnt] at aw
    refine ⟨⟨rfl,rfl⟩,λa2 N7 bj hf=>⟨⟨rfl,rfl⟩,by unfold zC;rw [oE];simp only [oK,oO];omega,λc3=>?_⟩⟩
    refine au _ _ _ (by omega) (by rw [xo I.g];exact hd.snoc (Tm.is_mk.2 ⟨_,_,_,_,_,_,_,rfl,ax,by omega,aa⟩)) (by simp [ae]) ?_
    refine zK6 (hd:=[O.cell 0,O.cell 1,y.cell 0,y.cell 1]) (xs:=[x4,x5,x6,x7]) (ho.mono (oA _) ab) ay hf (by omega) (by omega) (by omega) ?_ ?_
    ·intro ad h hc
     have J:=hf.ap ad h
     simp only [oJ,forall_eq_or_imp,D.foot,nK,false_imp_iff,implies_true,and_true] at J
     simp only [nB,oR,zB,oF] at hc
     obtain ⟨_,_,_,_,_,g1,g2,g3,g4,g5⟩:=J
     rcases hc with hc | hc | hc | hc | hc
     ·exact g1 hc
     ·exact g2 hc
     ·exact g3 hc
     ·exact g4 hc
     ·exact g5 hc
    ·intro ad h hc
     have J:=hf.ap ad h
     simp only [oJ,forall_eq_or_imp,D.foot,nK,false_imp_iff,implies_true,and_true] at J
     simp only [nB,oR,zB,oF] at hc
     obtain ⟨g5,g1,g2,g3,g4,_⟩:=J
     rcases hc with hc | hc | hc | hc | hc
     ·exact g1 hc
     ·exact g2 hc
     ·exact g3 hc
     ·exact g4 hc
     ·exact g5 hc
theorem zCr {N N':Nat} {es:List D} (h:OwnL N N' es):OwnL N N' (.sl none 2 [] 0::es):=
 ⟨by simpa only [zB,D.foot,oR] using h.nd,⟨⟨by simp,trivial⟩,h.fl⟩,by simpa only [zB,D.foot,oR] using h.lo,by simpa only [zB,D.foot,oR] using h.hi⟩
/-- a node of the reference: the parts are copied -/
theorem zRn (k:Int) {l:List Tm} {es:List D} (ab:All2 Tm.Is l es) (hlen:es.length<=1073741824) (hc:∀ x∈l,x.cnt<=1073741824) (a:Option Addr) (c:Nat) (N:Nat) (Q:QT [.ag 9])
  (hQ:∀ d' N',N<=N'->(Tm.mk k (bytes []) (bytes []) 0 (.mk 0 []) (.mk 0 []) l).Is d'->Own N N' d'->Q d' N') :
  ACalls prog 79 [.ag 9] [.j k,.sv a 9 es c] N Q:=by
 have hl:=ab.len
 refine zJM N _ a es c Q λ_=>?_
 refine up ab (by omega) (λi xs=>∀ (done:List D) (q N':Nat),N<=N'->All2 Tm.Is (l.take i) done->done.length=i->OwnL N N' done ->
  vV Q N a es c i 0 (bytes []) (bytes []) 0 0 none [] 0 0 none [] 0 none [] 0 k (bytes []) (bytes []) 0 0 none [] 0 0 none [] 0 done.length q done q N') ?_ ?_ [] 0 N (oA _) rfl rfl uv
 ·intro i ae hi done q N' ah hd ac ho
  refine qf _ _ _ _ _ _ _ _ _ _ _ _ _ _ _ _ _ _ _ _ _ _ _ _ _ _ _ _ _ _ _ _ _ _ _ _ _ _ ?_
  rw [oi (by omega)] at hd
  rw [ae]
  refine ⟨⟨rfl,rfl⟩,⟨rfl,rfl⟩,⟨rfl,rfl⟩,λa1 N4 ai hf N5 aa=>hQ _ _ (by omega) (Tm.is_mk.2 ⟨_,_,_,_,_,_,_,rfl,⟨by decide,by decide,vP _,vP _⟩,by omega,hd⟩) ?_⟩
  exact s9 (zR (zR (zR (zR (zR (zCr (zR (zCr (zo ((tf ho hf ai).mono (oA _) aa))))))))))
 ·intro i x xs J _ aj done q N' ah hd ac ho
  have hb:=J.b
  have ak:=hc x J.m
  refine qf _ _ _ _ _ _ _ _ _ _ _ _ _ _ _ _ _ _ _ _ _ _ _ _ _ _ _ _ _ _ _ _ _ _ _ _ _ _ ?_
  rw [J.lt]
  refine ⟨⟨by omega,by omega⟩,λN5 aa=>?_⟩
  rw [oH,J.w]
  refine zRm x _ J.r (by omega) _ _ ?_
  cases x with
  | mk k2 au aw n2 ax ay l2=>
    intro x4 x5 x6 x7 al c2 N6 az am O ao _ _
    have a6:=O.len
    have aq:=yg l2
    simp only [Tm.cnt] at ak
    refine ⟨⟨rfl,rfl⟩,λa2 N7 a7 hf=>⟨⟨rfl,rfl⟩,by unfold zC;rw [oE];simp only [oK,oO];omega,λc3=>?_⟩⟩
    refine aj _ _ _ (by omega) (by rw [xo J.g];exact hd.snoc (Tm.is_mk.2 ⟨_,_,_,_,_,_,_,rfl,am,by omega,O⟩)) (by simp [ac]) ?_
    refine zK6 (hd:=[]) (xs:=[x4,x5,x6,x7]) (ho.mono (oA _) aa) ao hf (by omega) (by omega) (by omega) ?_ ?_
    ·intro ad h hc
     have I:=hf.ap ad h (.ag done) (by simp)
     exact I (by simpa only [D.foot,oR] using hc)
    ·intro ad h hc
     have I:=hf.ap ad h
     simp only [nB,oR,zB,oF] at hc
     rcases hc with hc | hc | hc | hc | hc
     ·exact I x4 (by simp) hc
     ·exact I x5 (by simp) hc
     ·exact I x6 (by simp) hc
     ·exact I x7 (by simp) hc
     ·exact I (.ag al) (by simp) (by simpa only [D.foot] using hc)
theorem zQj {t:Tm} {d:D} (h:t.Is d):All2 Tm.Is [t] [d]:=⟨d,[],rfl,h,rfl⟩
theorem zNG {t u:Tm} {d e:D} (h:t.Is d) (g:u.Is e):All2 Tm.Is [t,u] [d,e]:=⟨d,[e],rfl,h,zQj g⟩
theorem zQo {N N':Nat} {v0 v1 v2 w:Value} {es:List D} (h:Own N N' (.ag (.lit v0::.lit v1::es))):Own N N' (.ag (.lit v0::.lit w::es)):=
 ⟨by simpa only [zB,D.foot,oR] using h.nd,h.fl,by simpa only [zB,D.foot,oR] using h.lo,by simpa only [zB,D.foot,oR] using h.hi⟩
/-- a let around a name -/
def Tm.letN (s:ByteArray) (t u:Tm):Tm:=.mk 8 s (bytes []) 0 (.mk 0 []) (.mk 0 []) [t,u]
theorem zSO (s:ByteArray) (hs:s.size<=4611686018427387904) (t u:Tm) (d e:D) (hd:t.Is d) (he:u.Is e) (hc:t.cnt<=1073741824) (I:u.cnt<=1073741824):Cop 38 9 [.str s,.dg 9 d,.dg 9 e] (Tm.letN s t u).Is:=λN Q hQ=>by
 refine zKS N s _ _ Q λ_ _=>⟨⟨rfl,rfl⟩,λa _ N1 J hb=>?_⟩
 refine zRn 8 (zNG hd he) (by simp) (by simpa using ⟨hc,I⟩) a 2 N1 _ λd' N2 ac O ho _=>⟨ru hb ho,λ_ N3 aa=>?_⟩
 obtain ⟨t0,t1,r0,r1,a',es,c,rfl,hh,hlen,ab⟩:=Tm.is_mk.1 O
 exact hQ _ _ (by omega) (Tm.is_mk.2 ⟨_,_,_,_,_,_,_,rfl,⟨hs,hh.ot,hh.ty,hh.re⟩,hlen,ab⟩) ((zQo (v2:=.string s) ho).mono J aa)
end Go.Proofs.YtlahkdflngobiaaGreatDoor
