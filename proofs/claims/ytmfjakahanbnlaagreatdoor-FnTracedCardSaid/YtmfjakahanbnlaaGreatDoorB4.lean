/- Steps one behind the other: sizes, and the term after some steps. -/
import Derived.Test.YtmfjakahanbnlaaGreatDoorB3
import Derived.Test.YtmfjakahanbnlaaGreatDoorB2
import Derived.Test.YtmfjakahanbnlaaGreatDoorKi
import Derived.Test.YtmfjakahanbnlaaGreatDoorKh
import Derived.Test.YtmfjakahanbnlaaGreatDoorKm
import Derived.Test.YtmfjakahanbnlaaGreatDoorC1
set_option linter.unusedVariables false
set_option linter.unusedSimpArgs false
namespace Go.Proofs.YtmfjakahanbnlaaGreatDoor
open Go Go.Proofs Go.Proofs.Tryz Go.IntWalk
theorem zBu:∀ (t:Tm) (d:D),t.Is d->t.sz<=9223372036854775807->pc 103 [.dg 9 d] t.sz:=by
 refine Tm.ind λk nm ot n0 ty re l ih d hd hc N Q hQ=>?_
 obtain ⟨t0,t1,r0,r1,a,es,c,rfl,hh,J,O⟩:=Tm.is_mk.1 hd
 simp only [Tm.sz] at hc
 refine zIr N _ Q λ_=>⟨_,_,_,rfl,?_⟩
 refine up O J (λi xs=>∀ (m:Nat) (N':Nat),N<=N'->m+zT xs=1+zT l->wo Q N m a es c es.length i N') ?_ ?_ 1 N (oD _) rfl
 ·intro i U _ m N' Y hm
  refine rX _ _ _ _ _ _ _ _ _ ?_
  simp only [zT] at hm
  repeat' first|with_reducible intro _|simp only[U,Y1,Y2,Y3,Y4]|with_reducible refine X ?_ ?_|refine⟨_,_,_,rfl,?_⟩|refine⟨_,rfl,?_⟩|refine And.intro (by first|omega|trivial|(show _=_;rfl)|(with_reducible constructor)<;>first|omega|trivial|rfl) ?_|fail
  exact Qi (hQ _ (by omega)) (by simp only [Tm.sz];omega)
 ·intro i x xs I _ aa m N' Y hm
  have hb:=I.b
  have ab:=wG I.m
  simp only [zT] at hm
  refine rX _ _ _ _ _ _ _ _ _ ?_
  rw [I.lt,I.w,oG]
  refine ⟨⟨by omega,by omega⟩,λN1 ac=>ih x I.m _ I.r (by omega) N1 _ λN2 ae _=>?_⟩
  rw [i64_in _ (by omega)]
  have:=aa (m+x.sz) N2 (by omega) (by omega)
  simpa using this
theorem tq:∀ (t:Tm) (d:D),t.Is d->t.sz<=9223372036854775807->pc 84 [.dg 9 d] t.sz:=by
 refine Tm.ind λk nm ot n0 ty re l ih d hd hc N Q hQ=>?_
 obtain ⟨t0,t1,r0,r1,a,es,c,rfl,hh,J,O⟩:=Tm.is_mk.1 hd
 simp only [Tm.sz] at hc
 refine zIl N _ Q λ_=>?_
 refine up O J (λi xs=>∀ (m:Nat) (N':Nat),N<=N'->m+zT xs=1+zT l->wr Q N m i (.ag [.lit (.int .i64 k),.lit (.string nm),.lit (.string ot),.lit (.int .i64 n0),t0,t1,r0,r1,.sl a 9 es c]) N') ?_ ?_ 1 N (oD _) rfl
 ·intro i U _ m N' Y hm
  refine rO _ _ _ _ _ _ ⟨_,_,_,rfl,?_⟩
  simp only [zT] at hm
  rw [U]
  exact λN2 aa=>Qi (hQ _ (by omega)) (by simp only [Tm.sz];omega)
 ·intro i x xs I _ ab m N' Y hm
  have hb:=I.b
  have ac:=wG I.m
  simp only [zT] at hm
  refine rO _ _ _ _ _ _ ⟨_,_,_,rfl,?_⟩
  rw [I.lt,I.w,oG]
  refine ⟨_,_,_,rfl,⟨by omega,by omega⟩,λN1 ae=>ih x I.m _ I.r (by omega) N1 _ λN2 aa _=>?_⟩
  rw [i64_in _ (by omega)]
  have:=ab (m+x.sz) N2 (by omega) (by omega)
  simpa using this
/-- a term's types are small -/
theorem zSz:∀ t:Tm,t.ok=true->t.cnt<=61*t.sz:=by
 refine Tm.ind λk nm ot n ty re l ih h=>?_
 obtain ⟨h1,I,h3⟩:=Tm.ok_mk.1 h
 have Y:∀ t:Ty,t.zero=true->t.cnt<=30:=λt J=>by
  cases t with
  | mk k l=>
  simp only [Ty.zero,Ty.k,Ty.as,oK,mB] at J
  have:l=[]:=oa (by omega)
  subst this
  simp [Ty.cnt,zi]
 have v1:∀ t:Ty,t.valid=true->t.cnt<=30:=λt J=>by
  simp only [Ty.valid,oK,nS] at J
  exact J.1.1
 simp only [zH,oK,mB,mT] at I
 have aa:ty.cnt<=30:=by
  rcases I.2.1 with h | h
  ·exact v1 _ (by rw [<-I.1,h])
  ·exact Y _ h
 have ab:re.cnt<=30:=by
  rcases I.2.2.2.1 with h | h
  ·exact v1 _ (by rw [<-I.2.2.1];simpa using h)
  ·exact Y _ h
 have key:∀ xs:List Tm,(∀ x∈xs,x∈l)->zJ xs<=61*zT xs:=by
  intro xs
  induction xs with
  | nil=>intro _;exact oD _
  | cons x xs O=>
    intro U
    have a1:=ih x (U x (by simp)) (h1 x (U x (by simp)))
    have a2:=O λy hy=>U y (by simp [hy])
    simp only [zJ,zT];omega
 have:=key l λx hx=>hx
 simp only [Tm.cnt,Tm.sz];omega
/-- a term that is reached by steps -/
structure Rch (x:Tm):Prop where
 g:x.G
 s:x.sz<=64482000
 o:x.sz<=400->x.ok=true
theorem Rch.F {x:Tm} (h:Rch x) (hs:x.sz<=400):x.F x.dp:=Tm.F.of (h.o hs) (oD _) (by have:=zSz x (h.o hs);omega)
theorem Rch.step {x:Tm} (h:Rch x) (hs:x.sz<=400):Rch (x.stp x.dp).1:=⟨zTB _ _ h.g,by have:=zRE x.dp x hs;omega,λI=>zN9 _ x (oD _) (h.o hs) I⟩
theorem Rch.of {e:Tm} (I:e.ok=true) (J:e.cnt<=4000000):Rch e:=⟨Tm.G_cnt e (by omega),by have:=Tm.sz_cnt e;omega,λ_=>I⟩
theorem zDB {e:Tm} {d:D} (he:e.Is d) (hc:e.cnt<=4000000) (n:Int) (N:Nat) (Q:QT [.ag 9]) (J:∀ d N',N<=N'->(tl e n).Is d->Q d N'):ACalls prog 43 [.ag 9] [.dg 9 d,.int .i64 n] N Q:=by
 have hG:=Tm.G_cnt e (by omega)
 unfold tl at J
 refine zCa N _ n Q λ_ N1 ae=>tR e d he hG N1 _ ?_
 have ah:=he
 cases e with
 | mk k nm ot n0 ty re l=>
 intro x4 x5 x6 x7 ai c' N2 aj Y O ax _ _ N3 ak
 have ay:=O.len
 have az:=hG.2.2.1
 refine qF _ d ah (by omega) 0 N3 _ λN4 al _=>Br.not (λhv=>?_) λhv=>?_
 ·rw [if_neg (by rw [hv];decide)] at J
  exact ⟨⟨rfl,rfl⟩,⟨rfl,rfl⟩,⟨rfl,rfl⟩,⟨rfl,rfl⟩,λa2 N5 aa _ N6 ab=>J _ _ (by omega) (Tm.is_mk.2 ⟨_,_,_,_,_,_,_,rfl,Y,by omega,O⟩)⟩
 rw [if_pos hv] at J
 have am:(Tm.mk k nm ot n0 ty re l).ok=true:=by unfold qn at hv;simp at hv;exact hv.1
 have hR:=Rch.of am hc
 generalize hM:(min n 200).toNat=M at J
 have rest:∀ (m i:Nat) (x:Tm) (dx:D) (N':Nat),N<=N'->i+m=M->Rch x->x.Is dx->(∀ d N',N<=N'->(sO m x).Is d->Q d N')->yY Q N n i 0 (bytes []) (bytes []) 0 0 none [] 0 0 none [] 0 none [] 0 dx N':=by
  intro m
  induction m with
  | zero=>
    intro i x dx N' ao hi hx I U
    refine vP _ _ _ _ _ _ _ _ _ _ _ _ _ _ _ _ _ _ _ _ _ ?_
    refine Br.dec (λh1=>?_) λh1 N8 ac=>U _ _ (by omega) I
    rw [mH (show ¬(i:Int)<200 by omega)]
    exact λN7 aq=>U _ _ (by omega) I
  | succ m ih=>
    intro i x dx N' ao hi hx I U
    simp only [sO] at U
    refine vP _ _ _ _ _ _ _ _ _ _ _ _ _ _ _ _ _ _ _ _ _ ?_
    refine Br.dec (λh1=>?_) λh1=>absurd (show (i:Int)<n by omega) h1
    rw [mD (show (i:Int)<200 by omega)]
    intro N1 ae
    have au:=hx.s
    refine tq x dx I (by omega) N1 _ λN2 aj _=>Br.dec (λh4 N3 ak=>?_) λh4 N6 ab=>?_
    ·rw [if_neg (by omega)] at U
     refine uJ _ _ _ I (hx.F (by omega)) N3 _ λdy N4 al hy _ _=>Br.beq (λh0 N5 aa=>?_) λh0=>?_
     ·rw [if_pos h0] at U
      exact U _ _ (by omega) I
     ·rw [if_neg h0] at U
      rw [i64_in _ (by omega)]
      have:=ih (i+1) _ dy N4 (by omega) (by omega) (hx.step (by omega)) hy U
      simpa using this
    ·rw [if_pos (by omega)] at U
     exact U _ _ (by omega) I
 have au:=hR.s
 refine zAe _ _ _ _ _ _ _ _ _ _ _ _ _ _ _ _ _ _ _ _ _ _ _ _ _ _ _ _ _ _ _ _ (Br.dec (λh1=>Br.dec (λh2=>⟨⟨rfl,rfl⟩,⟨rfl,rfl⟩,λa1 N5 aa _ N6 ab=>?_⟩) λh2=>?_) λh1=>?_)
 ·have I:(Tm.mk k nm ot n0 ty re l).Is (.ag [.lit (.int .i64 k),.lit (.string nm),.lit (.string ot),.lit (.int .i64 n0),x4,x5,x6,x7,.sl a1 9 ai c']):=Tm.is_mk.2 ⟨_,_,_,_,_,_,_,rfl,Y,by omega,O⟩
  obtain ⟨m,rfl⟩:∃ m,M=m+1:=⟨M - 1,by omega⟩
  simp only [sO] at J
  refine tq _ _ I (by omega) N6 _ λN7 aq _=>Br.dec (λh4 N8 ac=>?_) λh4 N8 ac=>?_
  ·rw [if_neg (by omega)] at J
   refine uJ _ _ _ I (hR.F (by omega)) N8 _ λdy N9 a6 hy _ _=>Br.beq (λh0 a7 aw=>?_) λh0=>?_
   ·rw [if_pos h0] at J
    exact J _ _ (by omega) I
   ·rw [if_neg h0] at J
    rw [i64_in _ (by omega)]
    exact rest m 1 _ dy N9 (by omega) (by omega) (hR.step (by omega)) hy J
  ·rw [if_pos (by omega)] at J
   exact J _ _ (by omega) I
 ·omega
 ·have:M=0:=by omega
  subst this
  exact ⟨⟨rfl,rfl⟩,⟨rfl,rfl⟩,⟨rfl,rfl⟩,λa2 N5 aa _ N6 ab=>J _ _ (by omega) (Tm.is_mk.2 ⟨_,_,_,_,_,_,_,rfl,Y,by omega,O⟩)⟩
theorem sg {e:Tm} {d:D} (he:e.Is d) (hc:e.cnt<=4000000) (n:Int) (N:Nat) (Q:QT [.ag 9]) (Y:∀ d N',N<=N'->(tl e n).Is d->Own N N' d->Q d N'):ACalls prog 42 [.ag 9] [.dg 9 d,.int .i64 n] N Q:=by
 have hG:=Tm.G_cnt e (by omega)
 unfold tl at Y
 refine zCX N _ n Q λ_ N1 ai=>tz e d he hG N1 _ ?_
 have au:=he
 cases e with
 | mk k nm ot n0 ty re l=>
 intro x4 x5 x6 x7 I U N2 bn aj O ak _ _
 have bp:=O.len
 have al:=hG.2.2.1
 have fin:∀ (M:Nat),(∀ d N',N<=N'->(Tm.mk k nm ot n0 ty re l).Is d->Own N N' d->Q d N')->N2<=M->(I.length=I.length/\U=U)/\(I.length=I.length/\U=U)/\(I.length=I.length/\U=U)/\(I.length=I.length/\U=U)/\∀ a N3,M<=N3->Fresh N N3 a [D.ag I,x4,x5,x6,x7]->∀ N4,N3<=N4 ->
   Q (D.ag [D.lit (.int .i64 k),D.lit (.string nm),D.lit (.string ot),D.lit (.int .i64 n0),x4,x5,x6,x7,D.sl a 9 I U]) N4:=λM J hM=>
  ⟨⟨rfl,rfl⟩,⟨rfl,rfl⟩,⟨rfl,rfl⟩,⟨rfl,rfl⟩,λa2 N5 aa hf N6 ab=>J _ _ (by omega) (Tm.is_mk.2 ⟨_,_,_,_,_,_,_,rfl,aj,by omega,O⟩) ((vE (ak.mono ai (by omega)) hf (oD _)).mono (oD _) ab)⟩
 refine Br.dec (λbi=>fin N2 (λd N' h1 h2 h3=>?_) (oD _)) λbj N3 bq=>?_
 ·have h0:(min n 200).toNat=0:=by omega
  rw [h0] at Y
  simp only [sO,ite_self] at Y
  exact Y _ _ h1 h2 h3
 refine uS _ d au (by omega) 0 N3 _ λN4 bt _=>Br.not (λhv=>fin N4 (λd N' h1 h2 h3=>?_) (by omega)) λhv=>?_
 ·rw [if_neg (by rw [hv];decide)] at Y
  exact Y _ _ h1 h2 h3
 rw [if_pos hv] at Y
 have aw:(Tm.mk k nm ot n0 ty re l).ok=true:=by unfold qn at hv;simp at hv;exact hv.1
 have hR:=Rch.of aw hc
 have ax:(if 200<n then 200 else n)=((min n 200).toNat:Int):=by split<;>omega
 rw [ax]
 have ay:(min n 200).toNat<=200:=by omega
 generalize (min n 200).toNat=M at Y ay ⊢
 have rest:∀ (m i:Nat) (k n0:Int) (nm ot:ByteArray) (ty re:Ty) (l:List Tm) (y4 y5 y6 y7:D) (r:List D) (q N':Nat),N<=N'->i+m=M->Rch (.mk k nm ot n0 ty re l)->Tm.Hd nm ot ty re y4 y5 y6 y7->All2 Tm.Is l r->OwnL N N' ([y4,y5,y6,y7]++r)->(∀ d N',N<=N'->(sO m (.mk k nm ot n0 ty re l)).Is d->Own N N' d->Q d N') ->
   xI Q N (M:Nat) i 0 (bytes []) (bytes []) 0 0 none [] 0 0 none [] 0 none [] 0 k nm ot n0 y4 y5 y6 y7 r.length q r q N':=by
  intro m
  induction m with
  | zero=>
    intro i k n0 nm ot ty re l y4 y5 y6 y7 r q N' az hi hx hH hA hO J
    have a1:=hA.len
    have al:=hx.g.2.2.1
    refine tJ _ _ _ _ _ _ _ _ _ _ _ _ _ _ _ _ _ _ _ _ _ _ _ _ _ _ _ _ _ _ _ _ (Br.dec (λh=>by omega) λ_=>⟨⟨rfl,rfl⟩,⟨rfl,rfl⟩,⟨rfl,rfl⟩,λa2 N5 aa hf N6 ab=>J _ _ (by omega) (Tm.is_mk.2 ⟨_,_,_,_,_,_,_,rfl,hH,by omega,hA⟩) ((vE hO hf aa).mono (oD _) ab)⟩)
  | succ m ih=>
    intro i k n0 nm ot ty re l y4 y5 y6 y7 r q N' az hi hx hH hA hO J
    have a1:=hA.len
    have al:=hx.g.2.2.1
    have bv:=hx.s
    simp only [sO] at J
    refine tJ _ _ _ _ _ _ _ _ _ _ _ _ _ _ _ _ _ _ _ _ _ _ _ _ _ _ _ _ _ _ _ _ (Br.dec (λ_=>⟨⟨rfl,rfl⟩,⟨rfl,rfl⟩,λa2 N5 aa hf N6 ab=>?_⟩) λh=>by omega)
    have ac:(Tm.mk k nm ot n0 ty re l).Is (.ag [.lit (.int .i64 k),.lit (.string nm),.lit (.string ot),.lit (.int .i64 n0),y4,y5,y6,y7,.sl a2 9 r q]):=Tm.is_mk.2 ⟨_,_,_,_,_,_,_,rfl,hH,by omega,hA⟩
    have ae:=vE (v0:=.int .i64 k) (v1:=.string nm) (v2:=.string ot) (v3:=.int .i64 n0) (c:=q) hO hf aa
    refine zBu _ _ ac (by omega) N6 _ λN7 bw _=>Br.dec (λh4 N8 a6=>?_) λh4 N8 a6=>?_
    ·rw [if_pos (by omega)] at J
     exact J _ _ (by omega) ac (ae.mono (oD _) (by omega))
    ·rw [if_neg (by omega)] at J
     refine zBn _ _ _ ac (hx.F (by omega)) N8 _ λdy N9 bz hy _ _=>Br.beq (λh0 am ao=>?_) λh0 am ao=>?_
     ·rw [if_pos h0] at J
      exact J _ _ (by omega) ac (ae.mono (oD _) (by omega))
     ·rw [if_neg h0] at J
      have ah:=hx.step (by omega)
      refine tz _ _ hy ah.g am _ ?_
      generalize ((Tm.mk k nm ot n0 ty re l).stp (Tm.mk k nm ot n0 ty re l).dp).1=z at hy ah J
      cases z with
      | mk k2 a7 a8 n2 ba bb l2=>
      intro z4 z5 z6 z7 bc c2 bd bm bg aq bh _ _
      rw [i64_in _ (by omega)]
      have:=ih (i+1) k2 n2 a7 a8 ba bb l2 z4 z5 z6 z7 bc c2 bd (by omega) (by omega) ah bg aq (bh.mono (by omega) (oD _)) J
      simpa using this
 exact rest M 0 k n0 nm ot ty re l x4 x5 x6 x7 I U N4 (by omega) (by omega) hR aj O (ak.mono ai (by omega)) Y
/-- how a run ends, as data -/
def zTS (r:Int × Tm × Nat) (d:D):Prop:=∃ cs,d=.ag (.lit (.int .i64 r.1)::(cs++[.lit (.int .i64 (r.2.2:Nat))]))/\r.2.1.Is (.ag cs)
theorem zBs (m n:Nat) (x:Tm):tM m n x=if x.sz>400 then ((3,tm0,n),[]) else if x.res then ((1,x,n),[]) else match m with
  | 0=>((2,x,n),[])
  | m+1=>if (x.stp x.dp).2=0 then ((4,x,n),[]) else ((tM m (n+1) (x.stp x.dp).1).1,(x.stp x.dp).2::(tM m (n+1) (x.stp x.dp).1).2):=by
 cases m<;>rfl
theorem zLU {s:Int} {k n0:Int} {nm ot:ByteArray} {ty re:Ty} {l:List Tm} {n:Nat} {I J O U Y y5 y6 y7 y8:D} (h:(Tm.mk k nm ot n0 ty re l).Is (.ag [I,J,O,U,Y,y5,y6,y7,y8])) :
 zTS (s,Tm.mk k nm ot n0 ty re l,n) (.ag [.lit (.int .i64 s),I,J,O,U,Y,y5,y6,y7,y8,.lit (.int .i64 (n:Nat))]):=⟨_,rfl,h⟩
theorem zSr {s:Int} {n:Nat}:zTS (s,tm0,n) (.ag [.lit (.int .i64 s),.lit (.int .i64 0),.lit (.string (bytes [])),.lit (.string (bytes [])),.lit (.int .i64 0),.lit (.int .i64 0),.sl none 2 [] 0,.lit (.int .i64 0),.sl none 2 [] 0,.sl none 9 [] 0,.lit (.int .i64 (n:Nat))]):=⟨_,rfl,zJl⟩
theorem Fresh.mono {N0 N1 N M:Nat} {a:Option Addr} {ds:List D} (h:Fresh N0 N a ds) (J:N1<=N0) (O:N<=M):Fresh N1 M a ds:=
 ⟨λad I=>oT J (h.lo ad I),λad I=>ow (h.hi ad I) O,h.off,h.ap⟩
theorem Rs.cells {r:Int × Tm × Nat} {d:D} (h:zTS r d):∃ J O U Y y4 y5 y6 y7 y8,d=.ag [.lit (.int .i64 r.1),J,O,U,Y,y4,y5,y6,y7,y8,.lit (.int .i64 (r.2.2:Nat))]/\r.2.1.Is (.ag [J,O,U,Y,y4,y5,y6,y7,y8]):=by
 obtain ⟨cs,rfl,h⟩:=h
 obtain ⟨s,t,n⟩:=r
 cases t with
 | mk k nm ot n0 ty re l=>
 obtain ⟨t0,t1,r0,r1,a,es,c,I,hh,aa,ab⟩:=Tm.is_mk.1 h
 injection I with I
 subst I
 exact ⟨_,_,_,_,_,_,_,_,_,rfl,h⟩
theorem pO {e:Tm} {d:D} (he:e.Is d) (hc:e.cnt<=4000000) (fu:Int) (N:Nat) (Q:QT [.ag 11]) (O:∀ d N',N<=N'->zTS (ub e fu) d->Q d N'):ACalls prog 31 [.ag 11] [.dg 9 d,.int .i64 fu] N Q:=by
 have hG:=Tm.G_cnt e (by omega)
 unfold ub at O
 refine zFt N _ fu Q λ_ N1 ai=>qF e d he (by omega) 0 N1 _ λN2 aj _=>Br.not (λhv N3 ac=>?_) λhv N4 ak=>xR _ _ _ N4 _ λN5 al _=>Br.not (λhb N6 ae=>?_) λhb N7 am=>?_
 ·rw [if_neg (by rw [hv];simp)] at O
  exact O _ _ (by omega) zSr
 ·rw [if_neg (by rw [hv,hb];decide)] at O
  exact O _ _ (by omega) zSr
 rw [if_pos (by rw [hv,hb];rfl)] at O
 have bm:=yN.1 hb
 have aw:e.ok=true:=by unfold qn at hv;simp at hv;exact hv.1
 have hR:=Rch.of aw hc
 refine tR e d he hG N7 _ ?_
 obtain ⟨F,rfl⟩:∃ F:Nat,fu=(F:Int):=⟨fu.toNat,by omega⟩
 rw [oG] at O
 have rest:∀ (m n:Nat) (x:Tm) (dx:D) (N':Nat),N<=N'->n+m=F->Rch x->x.Is dx->(∀ d N',N<=N'->zTS (tM m n x).1 d->Q d N')->yy Q N (F:Nat) n 0 0 (bytes []) (bytes []) 0 0 none [] 0 0 none [] 0 none [] 0 0 dx N':=by
  intro m
  induction m with
  | zero=>
    intro n x dx N' ax hn hx I J
    rw [zBs] at J
    have ao:=hx.s
    refine uP _ _ _ _ _ _ _ _ _ _ _ _ _ _ _ _ _ _ _ _ _ _ _ λN1 ai=>tq x dx I (by omega) N1 _ λN2 aj _=>Br.dec (λh4 N3 ac=>?_) λh4 N4 ak=>?_
    ·rw [if_pos (by omega)] at J;exact J _ _ (by omega) zSr
    ·rw [if_neg (by omega)] at J
     have hF:=hx.F (by omega)
     refine ze I hF.ok hF.dp N4 _ λN5 al _=>Br.of (λU N6 ae=>?_) λU=>Br.beq (λ_ N7 am=>?_) λaa=>absurd (by omega) aa
     ·rw [if_pos U] at J
      cases x with
      | mk k nm ot n0 ty re l=>
      obtain ⟨t0,t1,r0,r1,a,es,c,rfl,hh,Y,ah⟩:=Tm.is_mk.1 I
      exact J _ _ (by omega) (zLU I)
     ·rw [if_neg (by rw [U];decide)] at J
      cases x with
      | mk k nm ot n0 ty re l=>
      obtain ⟨t0,t1,r0,r1,a,es,c,rfl,hh,Y,ah⟩:=Tm.is_mk.1 I
      exact J _ _ (by omega) (zLU I)
  | succ m ih=>
    intro n x dx N' ax hn hx I J
    rw [zBs] at J
    have ao:=hx.s
    refine uP _ _ _ _ _ _ _ _ _ _ _ _ _ _ _ _ _ _ _ _ _ _ _ λN1 ai=>tq x dx I (by omega) N1 _ λN2 aj _=>Br.dec (λh4 N3 ac=>?_) λh4 N4 ak=>?_
    ·rw [if_pos (by omega)] at J;exact J _ _ (by omega) zSr
    ·rw [if_neg (by omega)] at J
     have hF:=hx.F (by omega)
     refine ze I hF.ok hF.dp N4 _ λN5 al _=>Br.of (λU N6 ae=>?_) λU=>Br.beq (λaa=>absurd aa (by omega)) λ_ N8 ay=>?_
     ·rw [if_pos U] at J
      cases x with
      | mk k nm ot n0 ty re l=>
      obtain ⟨t0,t1,r0,r1,a,es,c,rfl,hh,Y,ah⟩:=Tm.is_mk.1 I
      exact J _ _ (by omega) (zLU I)
     ·rw [if_neg (by rw [U];decide)] at J
      refine uJ _ _ _ I hF N8 _ λdy N9 az hy _ _=>Br.beq (λh0 aq au=>?_) λh0=>?_
      ·simp only at J
       rw [if_pos h0] at J
       cases x with
       | mk k nm ot n0 ty re l=>
       obtain ⟨t0,t1,r0,r1,a,es,c,rfl,hh,Y,ah⟩:=Tm.is_mk.1 I
       exact J _ _ (by omega) (zLU I)
      ·simp only at J
       rw [if_neg h0] at J
       rw [i64_in _ (by omega)]
       have:=ih (n+1) _ dy N9 (by omega) (by omega) (hx.step (by omega)) hy J
       simpa using this
 cases e with
 | mk k nm ot n0 ty re l=>
 intro x4 x5 x6 x7 a6 c' N8 ay a7 ab bn _ _
 have bp:=ab.len
 have bq:=hG.2.2.1
 have ao:=hR.s
 refine zCj _ _ _ _ _ _ _ _ _ _ _ _ _ _ _ _ _ _ _ _ _ _ _ _ _ _ _ _ _ _ _ _ _ _ ⟨⟨rfl,rfl⟩,⟨rfl,rfl⟩,λa1 N9 az _ aq au=>?_⟩
 have I:(Tm.mk k nm ot n0 ty re l).Is (.ag [.lit (.int .i64 k),.lit (.string nm),.lit (.string ot),.lit (.int .i64 n0),x4,x5,x6,x7,.sl a1 9 a6 c']):=Tm.is_mk.2 ⟨_,_,_,_,_,_,_,rfl,a7,by omega,ab⟩
 rw [zBs] at O
 refine tq _ _ I (by omega) aq _ λbt bc _=>Br.dec (λh4 N3 ac=>?_) λh4 a8 bd=>?_
 ·rw [if_pos (by omega)] at O;exact O _ _ (by omega) zSr
 rw [if_neg (by omega)] at O
 have hF:=hR.F (by omega)
 refine ze I hF.ok hF.dp a8 _ λbv bg _=>Br.of (λU N6 ae=>?_) λU=>Br.beq (λh0 N7 am=>?_) λaa ba bh=>?_
 ·rw [if_pos U] at O;exact O _ _ (by omega) (zLU I)
 ·rw [if_neg (by rw [U];decide)] at O
  have:F=0:=by omega
  subst this
  exact O _ _ (by omega) (zLU I)
 ·rw [if_neg (by rw [U];decide)] at O
  obtain ⟨m,rfl⟩:∃ m,F=m+1:=⟨F - 1,by omega⟩
  simp only at O
  refine uJ _ _ _ I hF ba _ λdy bb bi hy _ _=>Br.beq (λh0 bw bj=>?_) λh0=>?_
  ·rw [if_pos h0] at O;exact O _ _ (by omega) (zLU I)
  ·rw [if_neg h0] at O
   rw [i64_in _ (by omega)]
   exact rest m 1 _ dy bb (by omega) (by omega) (hR.step (by omega)) hy O
theorem zHU:∀ (m n:Nat) (x:Tm),(tM m n x).1.2.2=n+(tM m n x).2.length
 | 0,n,x=>by simp only [tM];(repeat' split)<;>simp
 | m+1,n,x=>by
   have:=zHU m (n+1) (x.stp x.dp).1
   simp only [tM];(repeat' split)<;>simp<;>omega
theorem zOr (e:Tm) (I:Int):((uC e I).length:Int)=((ub e I).2.2:Int):=by
 unfold uC ub
 split
 ·have:=zHU I.toNat 0 e;omega
 ·rfl
def zPb (r:Int):Prop:=0<=r/\r<=8
theorem zPx (e:Tm):zPb e.apl.2:=by
 cases e
 unfold Tm.apl Tm.opr zPb
 (repeat' split)<;>simp
theorem zLs {S:Tm->Tm × Int} (I:∀ x,zPb (S x).2) (e:Tm):∀ (l:List Tm) (i:Nat) (r:Tm × Int),goS S e l i=some r->zPb r.2
 | [],_,_,h=>by cases h
 | x::xs,i,r,h=>by
   unfold goS at h
   split at h
   ·exact zLs I e xs _ r h
   ·cases h;exact I x
theorem zQ0 {S:Tm->Tm × Int} (O:∀ x,zPb (S x).2):∀ (t:Tm) (m:Int),zPb (t.cod S m).2.1:=by
 refine Tm.ind λk nm ot n ty re l U m=>?_
 have key:∀ (l:List Tm),(∀ t∈l,∀ m,zPb (t.cod S m).2.1)->∀ (m:Int) (r:List Tm × Int),zo S l m=some r->zPb r.2:=by
  intro l
  induction l with
  | nil=>intro _ m r h;cases h
  | cons t ts I=>
    intro J m r h
    simp only [zo] at h
    split at h
    ·cases h;exact J t (by simp) m
    ·split at h
     ·cases h
     ·rename_i l' Y h1
      cases h
      exact I (λt ht=>J t (by simp [ht])) m (l',Y) h1
 simp only [Tm.cod]
 split
 ·unfold zRF
  (repeat' split)
  ·exact ⟨by simp,by simp⟩
  ·exact ⟨by simp,by simp⟩
  ·exact O _
 ·split
  ·exact ⟨by simp,by simp⟩
  ·rename_i l' r h
   exact key l U _ _ h
theorem zH5:∀ (f:Nat) (e:Tm),zPb (Tm.stp f e).2
 | 0,e=>⟨by simp [Tm.stp],by simp [Tm.stp]⟩
 | f + 1,e=>by
   unfold Tm.stp
   split
   ·exact ⟨by simp,by simp⟩
   ·split
    ·exact zQ0 (zH5 f) _ _
    ·cases e with
     | mk k nm ot n ty re l=>
     simp only
     split
     ·rename_i r h
      exact zLs (zH5 f) _ _ _ _ h
     ·exact zPx _
theorem zGc:∀ (m n:Nat) (x:Tm),∀ r∈(tM m n x).2,1<=r/\r<=8
 | 0,n,x=>by simp only [tM];(repeat' split)<;>simp
 | m + 1,n,x=>by
   intro r hr
   simp only [tM] at hr
   split at hr
   ·simp at hr
   split at hr
   ·simp at hr
   split at hr
   ·simp at hr
   ·rename_i h
    rcases oI.1 hr with rfl | hr
    ·have:=zH5 x.dp x
     unfold zPb at this
     omega
    ·exact zGc m _ _ r hr
theorem zKl (e:Tm) (I:Int):∀ r∈uC e I,1<=r/\r<=8:=by
 unfold uC
 split
 ·exact zGc _ _ _
 ·simp
theorem zHC:∀ (m n:Nat) (x:Tm),(tM m n x).1.1=1->sO ((tM m n x).1.2.2 - n) x=(tM m n x).1.2.1
 | 0,n,x,h=>by
   simp only [tM] at h ⊢
   split at h
   ·simp at h
   split at h
   ·rename_i Y J;rw [if_neg Y,if_pos J];simp [sO]
   ·simp at h
 | m+1,n,x,h=>by
   have J:=pZ m (n+1) (x.stp x.dp).1
   simp only [tM] at h ⊢
   split at h
   ·simp at h
   rename_i O
   rw [if_neg O]
   split at h
   ·rename_i I;rw [if_pos I];simp [sO]
   rename_i I
   rw [if_neg I]
   split at h
   ·simp at h
   rename_i U
   rw [if_neg U]
   simp only at h ⊢
   have:=zHC m (n+1) _ h
   rw [show (tM m (n+1) (x.stp x.dp).1).1.2.2 - n=((tM m (n+1) (x.stp x.dp).1).1.2.2 - (n+1))+1 by omega]
   rw [sO,if_neg O,if_neg U]
   exact this
theorem zOA {e:Tm} {I:Int} (h:(ub e I).1=1):tl e ((ub e I).2.2:Int)=(ub e I).2.1:=by
 unfold ub at h ⊢
 unfold tl
 split at h
 ·rename_i hc
  rw [if_pos hc]
  simp only [oK] at hc
  rw [if_pos hc.1]
  have J:=pZ I.toNat 0 e
  have O:=(yN.1 hc.2).2
  rw [show (min ((tM I.toNat 0 e).1.2.2:Int) 200).toNat=(tM I.toNat 0 e).1.2.2 - 0 by omega]
  exact zHC _ _ _ h
 ·simp at h
/-- how often a rule is in a list -/
def uD (r:Int):List Int->Nat
 | []=>0
 | x::l=>(if x=r then 1 else 0)+uD r l
theorem zBA (r:Int):∀ l,uD r l<=l.length
 | []=>oD _
 | x::l=>by have:=zBA r l;simp only [uD,oN];split<;>omega
theorem zKV:∀ (l:List Int),(∀ r∈l,1<=r/\r<=8)->uD 1 l+uD 2 l+uD 3 l+uD 4 l+uD 5 l+uD 6 l+uD 7 l+uD 8 l=l.length
 | [],_=>rfl
 | x::l,h=>by
   have J:=zKV l λr I=>h r (by simp [I])
   have O:=h x (by simp)
   have:x=1\/x=2\/x=3\/x=4\/x=5\/x=6\/x=7\/x=8:=by omega
   rcases this with rfl | rfl | rfl | rfl | rfl | rfl | rfl | rfl<;>simp [uD]<;>omega
theorem qg:∀ l:List Int,zG (zL l)=[]
 | []=>rfl
 | s::l=>by simp only [zL,oc,zG,D.foot,oX];exact qg l
theorem zGk:∀ l:List Int,xa (zL l)
 | []=>trivial
 | s::l=>⟨trivial,zGk l⟩
theorem zMX {N N':Nat} (l:List Int):OwnL N N' (zL l):=⟨by rw [qg];simp,zGk l,by rw [qg];simp,by rw [qg];simp⟩
theorem qV:∀ l:List Int,All2 (λb d=>d=.lit (.int .i64 b)) l (zL l)
 | []=>rfl
 | s::l=>⟨_,_,rfl,rfl,qV l⟩
theorem zBa (l:List Int) (n:Int):zL l++[.lit (.int .i64 n)]=zL (l++[n]):=by simp [zL]
theorem zLZ {l:List Int} {n:Int} (h:l.length<=200):zB (zL l) [.lit (.int .i64 n)] 8:=by
 unfold zB;rw [oH,xl];simp only [oN,oV];omega
/-- returns these numbers in memory of its own -/
def zS5 (f:FuncId) (args:List PV) (l:List Int):Prop:=∀ (N:Nat) (Q:QT [.sl 0]),(∀ a c N',N<=N'->Own N N' (.sl a 0 (zL l) c)->Q a (zL l) c N')->ACalls prog f [.sl 0] args N Q
theorem zFv {e:Tm} {d:D} (he:e.Is d) (hc:e.cnt<=4000000) (fu:Int):zS5 36 [.dg 9 d,.int .i64 fu] (uC e fu):=λN Q O=>by
 have hG:=Tm.G_cnt e (by omega)
 refine zGM N d fu Q λ_ N1 au=>pO he hc fu N1 _ λw N2 aw hw _ _=>?_
 obtain ⟨y0,y1,y2,y3,y4,y5,y6,y7,y8,rfl,_⟩:=Rs.cells hw
 clear hw
 refine ⟨_,rfl,λN3 ax=>tR e d he hG N3 _ ?_⟩
 unfold uC at O
 unfold ub
 cases e with
 | mk k nm ot n0 ty re l=>
 intro x4 x5 x6 x7 ac c' N4 ay ai ab az _ _
 have a6:=ab.len
 have a7:=hG.2.2.1
 have fin:∀ (L:List Int) (q M:Nat),N<=M->(∀ a c N',N<=N'->Own N N' (.sl a 0 (zL L) c)->Q a (zL L) c N') ->
   ((zL L).length=(zL L).length/\q=q)/\((zL L).length=(zL L).length/\q=q)/\((zL L).length=(zL L).length/\q=q)/\∀ a N4,M<=N4->Fresh N N4 a [D.ag (zL L)]->∀ N5,N4<=N5->Q a (zL L) q N5:=λL q M hM h=>
  ⟨⟨rfl,rfl⟩,⟨rfl,rfl⟩,⟨rfl,rfl⟩,λa N8 a8 hf N9 aj=>h _ _ _ (by omega) ((zCR (N1:=N8) (zMX _) hf (oD _)).mono (oD _) aj)⟩
 by_cases hv:(qn (.mk k nm ot n0 ty re l) 0&&inB fu 0 200)=true
 case neg=>
  rw [if_neg hv] at O ⊢
  exact xv _ _ _ _ _ _ _ _ _ _ _ _ _ _ _ _ _ _ _ _ _ (Br.dec (λh=>absurd h (by simp)) λ_=>fin [] 0 N4 (by omega) O)
 case pos=>
 rw [if_pos hv] at O ⊢
 have ah:inB fu 0 200=true:=by simp at hv;exact hv.2
 have ah:=yN.1 ah
 have ak:(Tm.mk k nm ot n0 ty re l).ok=true:=by unfold qn at hv;simp at hv;exact hv.1.1
 have hR:=Rch.of ak hc
 obtain ⟨F,rfl⟩:∃ F:Nat,fu=(F:Int):=⟨fu.toNat,by omega⟩
 rw [oG] at O ⊢
 have hS:(tM F 0 (.mk k nm ot n0 ty re l)).1.2.2<=200:=by have:=pZ F 0 (.mk k nm ot n0 ty re l);omega
 have rest:∀ (S m n:Nat) (x:Tm) (dx:D) (I:List Int) (q N':Nat),S<=200->N<=N'->Rch x->x.Is dx->(tM m n x).1.2.2=S->I.length=n->(∀ a c N',N<=N'->Own N N' (.sl a 0 (zL (I++(tM m n x).2)) c)->Q a (zL (I++(tM m n x).2)) c N') ->
   yM Q N (zL I).length q (S:Nat) (n:Nat) (zL I) q dx N':=by
  intro S m
  induction m with
  | zero=>
    intro n x dx I q N' hS ae hx aa hs ha Y
    have h1:(tM 0 n x).1.2.2=n/\(tM 0 n x).2=[]:=by simp only [tM];(repeat' split)<;>simp
    rw [h1.2,om] at Y
    refine xy _ _ _ _ _ _ _ _ _ _ (Br.dec (λh=>by omega) λ_=>fin I q N' ae Y)
  | succ m ih=>
    intro n x dx I q N' hS ae hx aa hs ha Y
    rw [zBs] at hs Y
    have stop:∀ r:Int × Tm × Nat,r.2.2=n->(r,([]:List Int)).1.2.2=S->(∀ a c N',N<=N'->Own N N' (.sl a 0 (zL (I++(r,([]:List Int)).2)) c)->Q a (zL (I++(r,([]:List Int)).2)) c N') ->
      yM Q N (zL I).length q (S:Nat) (n:Nat) (zL I) q dx N':=λr h1 h2 h3=>by
     simp only [om] at h2 h3
     exact xy _ _ _ _ _ _ _ _ _ _ (Br.dec (λh=>by omega) λ_=>fin I q N' ae h3)
    by_cases U:x.sz>400
    ·rw [if_pos U] at hs Y;exact stop _ rfl hs Y
    rw [if_neg U] at hs Y
    by_cases hr:x.res=true
    ·rw [if_pos hr] at hs Y;exact stop _ rfl hs Y
    rw [if_neg hr] at hs Y
    simp only at hs Y
    by_cases h0:(x.stp x.dp).2=0
    ·rw [if_pos h0] at hs Y;exact stop _ rfl hs Y
    rw [if_neg h0] at hs Y
    have al:=pZ m (n+1) (x.stp x.dp).1
    simp only at hs Y
    refine xy _ _ _ _ _ _ _ _ _ _ (Br.dec (λh N5 am=>?_) λh=>absurd (by omega) h)
    refine uJ _ _ _ aa (hx.F (by omega)) N5 _ λdy N6 ao hy _ _=>⟨⟨rfl,rfl⟩,zLZ (by omega),λc=>?_⟩
    rw [i64_in _ (by omega),zBa]
    have:=ih (n+1) _ dy (I++[(x.stp x.dp).2]) c N6 hS (by omega) (hx.step (by omega)) hy hs (by simp;omega) (by simpa using Y)
    simpa using this
 generalize J:(tM F 0 (.mk k nm ot n0 ty re l)).1.2.2=S at hS ⊢
 cases F with
 | zero=>
   have h1:(tM 0 0 (.mk k nm ot n0 ty re l)).1.2.2=0/\(tM 0 0 (.mk k nm ot n0 ty re l)).2=[]:=by simp only [tM];(repeat' split)<;>simp
   rw [h1.2] at O
   exact xv _ _ _ _ _ _ _ _ _ _ _ _ _ _ _ _ _ _ _ _ _ (Br.dec (λh=>by omega) λ_=>fin [] 0 N4 (by omega) O)
 | succ m=>
   rw [zBs] at J O
   have stop:∀ r:Int × Tm × Nat,r.2.2=0->(r,([]:List Int)).1.2.2=S->(∀ a c N',N<=N'->Own N N' (.sl a 0 (zL (r,([]:List Int)).2) c)->Q a (zL (r,([]:List Int)).2) c N') ->
     vU Q N 0 0 (S:Nat) 0 [] 0 k nm ot n0 x4 x5 x6 x7 ac.length c' ac c' N4:=λr h1 h2 h3=>by
    exact xv _ _ _ _ _ _ _ _ _ _ _ _ _ _ _ _ _ _ _ _ _ (Br.dec (λh=>by simp only at h2;omega) λ_=>fin [] 0 N4 (by omega) h3)
   generalize aq:Tm.mk k nm ot n0 ty re l=x at J O hR
   by_cases U:x.sz>400
   ·rw [if_pos U] at J O;exact stop _ rfl J O
   rw [if_neg U] at J O
   by_cases hr:x.res=true
   ·rw [if_pos hr] at J O;exact stop _ rfl J O
   rw [if_neg hr] at J O
   simp only at J O
   by_cases h0:(x.stp x.dp).2=0
   ·rw [if_pos h0] at J O;exact stop _ rfl J O
   rw [if_neg h0] at J O
   have al:=pZ m (0+1) (x.stp x.dp).1
   simp only at J O
   refine xv _ _ _ _ _ _ _ _ _ _ _ _ _ _ _ _ _ _ _ _ _ (Br.dec (λh=>⟨⟨rfl,rfl⟩,⟨rfl,rfl⟩,λa1 N5 am _ N6 ao=>?_⟩) λh=>absurd (by omega) h)
   have aa:x.Is (.ag [.lit (.int .i64 k),.lit (.string nm),.lit (.string ot),.lit (.int .i64 n0),x4,x5,x6,x7,.sl a1 9 ac c']):=aq ▸ Tm.is_mk.2 ⟨_,_,_,_,_,_,_,rfl,ai,by omega,ab⟩
   refine uJ _ _ _ aa (hR.F (by omega)) N6 _ λdy N7 ba hy _ _=>⟨⟨rfl,rfl⟩,zLZ (l:=[]) (by simp),λc=>?_⟩
   rw [i64_in _ (by omega)]
   exact rest S m 1 _ dy [(x.stp x.dp).2] c N7 hS (by omega) (hR.step (by omega)) hy J rfl O
/-- the closure writes the rule behind the others -/
theorem zFu {e:Tm} {d:D} (he:e.Is d) (hc:e.cnt<=4000000) (fu:Int):zS5 30 [.dg 9 d,.int .i64 fu] (uC e fu):=λN Q Y=>by
 have hG:=Tm.G_cnt e (by omega)
 unfold uC at Y
 refine zFg N d fu Q λ_ M1 bz=>zBR M1 d fu 0 0 [] 0 _ λE _ _ N1 b1=>?_
 have fin:∀ (X:D) (L:List Int) (q M:Nat),M1<=M->(∀ a c N',N<=N'->Own N N' (.sl a 0 (zL L) c)->Q a (zL L) c N') ->
   zN E [.var [.sb 1 0 0 0 0],.arr 3 0 [] 0]/\((zL L).length=(zL L).length/\q=q)/\∀ N2,M<=N2->(M1<=N2->Bel N2 X->Bel N2 (D.sl none 0 (zL L) q)->((zL L).length=(zL L).length/\q=q)/\((zL L).length=(zL L).length/\q=q)/\((zL L).length=(zL L).length/\q=q)/\∀ a N3,N2<=N3->Fresh N N3 a [D.ag (zL L)]->∀ N4,N3<=N4->Q a (zL L) q N4):=λX L q M hM h=>
  ⟨zU,⟨rfl,rfl⟩,λN2 am _ _ _=>⟨⟨rfl,rfl⟩,⟨rfl,rfl⟩,⟨rfl,rfl⟩,λa N8 aa hf N9 ab=>h _ _ _ (by omega) ((zCR (N1:=N8) (zMX _) hf (oD _)).mono (oD _) ab)⟩⟩
 refine uS e d he (by omega) 0 N1 _ λN2 am _=>Br.not (λhv=>?_) λhv N4 b2=>yX _ _ _ N4 _ λN5 ah _=>Br.not (λhb=>?_) λhb N7 ai=>?_
 ·rw [if_neg (by rw [hv];simp)] at Y
  exact fin _ [] 0 N2 (by omega) Y
 ·rw [if_neg (by rw [hv,hb];decide)] at Y
  exact fin _ [] 0 N5 (by omega) Y
 rw [if_pos (by rw [hv,hb];rfl)] at Y
 have b3:=yN.1 hb
 have ao:e.ok=true:=by unfold qn at hv;simp at hv;exact hv.1
 have hR:=Rch.of ao hc
 refine tz e d he hG N7 _ ?_
 obtain ⟨F,rfl⟩:∃ F:Nat,fu=(F:Int):=⟨fu.toNat,by omega⟩
 rw [oG] at Y
 have rest:∀ (m n:Nat) (k n0:Int) (nm ot:ByteArray) (ty re:Ty) (l:List Tm) (y4 y5 y6 y7:D) (r:List D) (q:Nat) (I:List Int) (U N':Nat),M1<=N'->n+m=F->I.length=n->Rch (.mk k nm ot n0 ty re l)->Tm.Hd nm ot ty re y4 y5 y6 y7->All2 Tm.Is l r->(∀ a c N',N<=N'->Own N N' (.sl a 0 (zL (I++(tM m n (.mk k nm ot n0 ty re l)).2)) c)->Q a (zL (I++(tM m n (.mk k nm ot n0 ty re l)).2)) c N') ->
   xN E (λx a es c N2=>M1<=N2->Bel N2 x->Bel N2 (D.sl a 0 es c)->(es.length=es.length/\c=c)/\(es.length=es.length/\c=c)/\(es.length=es.length/\c=c)/\∀ aj N3,N2<=N3->Fresh N N3 aj [D.ag es]->∀ N4,N3<=N4->Q aj es c N4) M1 (F:Nat) n (zL I).length U (zL I) U 0 0 (bytes []) (bytes []) 0 0 none [] 0 0 none [] 0 none [] 0 0 k nm ot n0 y4 y5 y6 y7 r.length q r q N':=by
  intro m
  induction m with
  | zero=>
    intro n k n0 nm ot ty re l y4 y5 y6 y7 r q I U N' aq hn ha hx hH hA J
    have au:=hA.len
    have aw:=hx.g.2.2.1
    have ax:=hx.s
    have h1:(tM 0 n (.mk k nm ot n0 ty re l)).2=[]:=by simp only [tM];(repeat' split)<;>simp
    rw [h1,om] at J
    refine tB _ _ _ _ _ _ _ _ _ _ _ _ _ _ _ _ _ _ _ _ _ _ _ _ _ _ _ _ _ _ _ _ _ _ _ _ _ _ _ ⟨⟨rfl,rfl⟩,⟨rfl,rfl⟩,λa2 N5 ah hf N6 ay=>?_⟩
    have O:(Tm.mk k nm ot n0 ty re l).Is (.ag [.lit (.int .i64 k),.lit (.string nm),.lit (.string ot),.lit (.int .i64 n0),y4,y5,y6,y7,.sl a2 9 r q]):=Tm.is_mk.2 ⟨_,_,_,_,_,_,_,rfl,hH,by omega,hA⟩
    refine zBu _ _ O (by omega) N6 _ λN7 ai _=>Br.dec (λh4=>fin _ I U N7 (by omega) J) λh4 N8 aa=>?_
    have hF:=hx.F (by omega)
    have az:=hF.c
    exact vv O hF.ok (by omega) N8 _ λN9 ab _=>Br.of (λhr=>fin _ I U N9 (by omega) J) λhr=>Br.beq (λ_=>fin _ I U N9 (by omega) J) λac=>absurd (by omega) ac
  | succ m ih=>
    intro n k n0 nm ot ty re l y4 y5 y6 y7 r q I U N' aq hn ha hx hH hA J
    have au:=hA.len
    have aw:=hx.g.2.2.1
    have ax:=hx.s
    rw [zBs] at J
    refine tB _ _ _ _ _ _ _ _ _ _ _ _ _ _ _ _ _ _ _ _ _ _ _ _ _ _ _ _ _ _ _ _ _ _ _ _ _ _ _ ⟨⟨rfl,rfl⟩,⟨rfl,rfl⟩,λa2 N5 ah hf N6 ay=>?_⟩
    have O:(Tm.mk k nm ot n0 ty re l).Is (.ag [.lit (.int .i64 k),.lit (.string nm),.lit (.string ot),.lit (.int .i64 n0),y4,y5,y6,y7,.sl a2 9 r q]):=Tm.is_mk.2 ⟨_,_,_,_,_,_,_,rfl,hH,by omega,hA⟩
    refine zBu _ _ O (by omega) N6 _ λN7 ai _=>Br.dec (λh4=>?_) λh4 N8 aa=>?_
    ·rw [if_pos (by omega)] at J
     simp only [om] at J
     exact fin _ I U N7 (by omega) J
    rw [if_neg (by omega)] at J
    have hF:=hx.F (by omega)
    have az:=hF.c
    refine vv O hF.ok (by omega) N8 _ λN9 ab _=>Br.of (λhr=>?_) λhr=>Br.beq (λac=>absurd ac (by omega)) λ_ a1 bn=>?_
    ·rw [if_pos hr] at J
     simp only [om] at J
     exact fin _ I U N9 (by omega) J
    rw [if_neg (by rw [hr];decide)] at J
    simp only at J
    refine zBn _ _ _ O hF a1 _ λdy a6 bp hy _ _=>Br.beq (λh0=>?_) λh0 a7 bq=>pX a7 _ _ _ _ _ _ λE2 _=>⟨⟨rfl,rfl⟩,zLZ (by omega),λc=>⟨zU,⟨rfl,rfl⟩,λb4 bt _ _ a8 bv=>?_⟩⟩
    ·rw [if_pos h0] at J
     simp only [om] at J
     exact fin _ I U a6 (by omega) J
    ·rw [if_neg h0] at J
     have ae:=hx.step (by omega)
     refine tz _ _ hy ae.g a8 _ ?_
     generalize b5:((Tm.mk k nm ot n0 ty re l).stp (Tm.mk k nm ot n0 ty re l).dp).1=z at hy ae J
     cases z with
     | mk k2 ba bb n2 bc bd l2=>
     intro z4 z5 z6 z7 bg c2 bh bw bi ak b6 _ _
     rw [i64_in _ (by omega),zBa]
     have:=ih (n+1) k2 n2 ba bb bc bd l2 z4 z5 z6 z7 bg c2 (I++[((Tm.mk k nm ot n0 ty re l).stp (Tm.mk k nm ot n0 ty re l).dp).2]) c bh (by omega) (by omega) (by simp;omega) ae bi ak (by simpa using J)
     simpa using this
 cases e with
 | mk k nm ot n0 ty re l=>
 intro x4 x5 x6 x7 bj c' N8 aa bm al b7 _ _
 exact rest F 0 k n0 nm ot ty re l x4 x5 x6 x7 bj c' [] 0 N8 (by omega) (by omega) rfl hR bm al Y
end Go.Proofs.YtmfjakahanbnlaaGreatDoor
