/- Steps one behind the other: sizes, and the term after some steps. -/
import Derived.Test.YtfajiphkncipoaaGreatDoorB3
import Derived.Test.YtfajiphkncipoaaGreatDoorB2
import Derived.Test.YtfajiphkncipoaaGreatDoorKi
import Derived.Test.YtfajiphkncipoaaGreatDoorKh
set_option linter.unusedVariables false
set_option linter.unusedSimpArgs false
namespace Go.Proofs.YtfajiphkncipoaaGreatDoor
open Go Go.Proofs Go.Proofs.Tryz Go.IntWalk
theorem zB3:∀ (t:Tm) (d:D),t.Is d->t.sz<=9223372036854775807->zBL 81 [.dg 9 d] t.sz:=by
 refine Tm.ind λk nm ot n0 ty re l ih d hd hc N Q hQ=>?_
 obtain ⟨t0,t1,r0,r1,a,es,c,rfl,hh,J,O⟩:=Tm.is_mk.1 hd
 simp only [Tm.sz] at hc
 refine zG8 N _ Q λ_=>⟨_,_,_,rfl,?_⟩
 refine up O J (λi xs=>∀ (m:Nat) (N':Nat),N<=N'->m+zF xs=1+zF l->w8 Q N m a es c es.length i N') ?_ ?_ 1 N (oB _) rfl
 ·intro i U _ m N' Y hm
  refine qD _ _ _ _ _ _ _ _ _ ?_
  simp only [zF] at hm
  repeat' first|with_reducible intro _|simp only[U,Y1,Y2,Y3,Y4]|with_reducible refine X ?_ ?_|refine⟨_,_,_,rfl,?_⟩|refine⟨_,rfl,?_⟩|refine And.intro (by first|omega|trivial|(show _=_;rfl)|(with_reducible constructor)<;>first|omega|trivial|rfl) ?_|fail
  exact Qi (hQ _ (by omega)) (by simp only [Tm.sz];omega)
 ·intro i x xs I _ aa m N' Y hm
  have hb:=I.b
  have ab:=xn I.m
  simp only [zF] at hm
  refine qD _ _ _ _ _ _ _ _ _ ?_
  rw [I.lt,I.w,oF]
  refine ⟨⟨by omega,by omega⟩,λN1 ac=>ih x I.m _ I.r (by omega) N1 _ λN2 ae _=>?_⟩
  rw [i64_in _ (by omega)]
  have:=aa (m+x.sz) N2 (by omega) (by omega)
  simpa using this
theorem qQ:∀ (t:Tm) (d:D),t.Is d->t.sz<=9223372036854775807->zBL 48 [.dg 9 d] t.sz:=by
 refine Tm.ind λk nm ot n0 ty re l ih d hd hc N Q hQ=>?_
 obtain ⟨t0,t1,r0,r1,a,es,c,rfl,hh,J,O⟩:=Tm.is_mk.1 hd
 simp only [Tm.sz] at hc
 refine zHU N _ Q λ_=>?_
 refine up O J (λi xs=>∀ (m:Nat) (N':Nat),N<=N'->m+zF xs=1+zF l->wh Q N m i (.ag [.j k,.t nm,.t ot,.j n0,t0,t1,r0,r1,.sl a 9 es c]) N') ?_ ?_ 1 N (oB _) rfl
 ·intro i U _ m N' Y hm
  refine rF _ _ _ _ _ _ ⟨_,_,_,rfl,?_⟩
  simp only [zF] at hm
  rw [U]
  exact λN2 aa=>Qi (hQ _ (by omega)) (by simp only [Tm.sz];omega)
 ·intro i x xs I _ ab m N' Y hm
  have hb:=I.b
  have ac:=xn I.m
  simp only [zF] at hm
  refine rF _ _ _ _ _ _ ⟨_,_,_,rfl,?_⟩
  rw [I.lt,I.w,oF]
  refine ⟨_,_,_,rfl,⟨by omega,by omega⟩,λN1 ae=>ih x I.m _ I.r (by omega) N1 _ λN2 aa _=>?_⟩
  rw [i64_in _ (by omega)]
  have:=ab (m+x.sz) N2 (by omega) (by omega)
  simpa using this
/-- a term's types are small -/
theorem zQ7:∀ t:Tm,t.ok=true->t.cnt<=61*t.sz:=by
 refine Tm.ind λk nm ot n ty re l ih h=>?_
 obtain ⟨h1,I,h3⟩:=Tm.ok_mk.1 h
 have Y:∀ t:Ty,t.zero=true->t.cnt<=30:=λt J=>by
  cases t with
  | mk k l=>
  simp only [Ty.zero,Ty.k,Ty.as,oJ,mF] at J
  have:l=[]:=oa (by omega)
  subst this
  simp [Ty.cnt,zm]
 have v1:∀ t:Ty,t.valid=true->t.cnt<=30:=λt J=>by
  simp only [Ty.valid,oJ,nV] at J
  exact J.1.1
 simp only [zM,oJ,mF,me] at I
 have aa:ty.cnt<=30:=by
  rcases I.2.1 with h | h
  ·exact v1 _ (by rw [<-I.1,h])
  ·exact Y _ h
 have ab:re.cnt<=30:=by
  rcases I.2.2.2.1 with h | h
  ·exact v1 _ (by rw [<-I.2.2.1];simpa using h)
  ·exact Y _ h
 have key:∀ xs:List Tm,(∀ x∈xs,x∈l)->zN xs<=61*zF xs:=by
  intro xs
  induction xs with
  | nil=>intro _;exact oB _
  | cons x xs O=>
    intro U
    have a1:=ih x (U x (by simp)) (h1 x (U x (by simp)))
    have a2:=O λy hy=>U y (by simp [hy])
    simp only [zN,zF];omega
 have:=key l λx hx=>hx
 simp only [Tm.cnt,Tm.sz];omega
/-- a term that is reached by steps -/
structure Rch (x:Tm):Prop where
 g:x.G
 s:x.sz<=64482000
 o:x.sz<=400->x.ok=true
theorem Rch.F {x:Tm} (h:Rch x) (hs:x.sz<=400):x.F x.dp:=Tm.F.of (h.o hs) (oB _) (by have:=zQ7 x (h.o hs);omega)
theorem Rch.step {x:Tm} (h:Rch x) (hs:x.sz<=400):Rch (x.stp x.dp).1:=⟨zSb _ _ h.g,by have:=zQw x.dp x hs;omega,λI=>zKG _ x (oB _) (h.o hs) I⟩
theorem Rch.of {e:Tm} (I:e.ok=true) (J:e.cnt<=4000000):Rch e:=⟨Tm.G_cnt e (by omega),by have:=Tm.sz_cnt e;omega,λ_=>I⟩
/-- how a run ends, as data -/
def zOF (r:Int × Tm × Nat) (d:D):Prop:=∃ cs,d=.ag (.j r.1::(cs++[.j (r.2.2:Nat)]))/\r.2.1.Is (.ag cs)
theorem zEX (m n:Nat) (x:Tm):zDU m n x=if x.sz>400 then ((3,tm0,n),[]) else if x.res then ((1,x,n),[]) else match m with
  | 0=>((2,x,n),[])
  | m+1=>if (x.stp x.dp).2=0 then ((4,x,n),[]) else ((zDU m (n+1) (x.stp x.dp).1).1,(x.stp x.dp).2::(zDU m (n+1) (x.stp x.dp).1).2):=by
 cases m<;>rfl
theorem zE3 {s:Int} {k n0:Int} {nm ot:ByteArray} {ty re:Ty} {l:List Tm} {n:Nat} {I J O U Y y5 y6 y7 y8:D} (h:(Tm.mk k nm ot n0 ty re l).Is (.ag [I,J,O,U,Y,y5,y6,y7,y8])) :
 zOF (s,Tm.mk k nm ot n0 ty re l,n) (.ag [.j s,I,J,O,U,Y,y5,y6,y7,y8,.j (n:Nat)]):=⟨_,rfl,h⟩
theorem zPl {s:Int} {n:Nat}:zOF (s,tm0,n) (.ag [.j s,.j 0,.t (bytes []),.t (bytes []),.j 0,.j 0,.sl none 2 [] 0,.j 0,.sl none 2 [] 0,.sl none 9 [] 0,.j (n:Nat)]):=⟨_,rfl,rP⟩
theorem Fresh.mono {N0 N1 N M:Nat} {a:Option Addr} {ds:List D} (h:Fresh N0 N a ds) (J:N1<=N0) (O:N<=M):Fresh N1 M a ds:=
 ⟨λad I=>oR J (h.lo ad I),λad I=>o9 (h.hi ad I) O,h.off,h.ap⟩
theorem zLs {N N':Nat} {s t:Value} {cs:List D} (h:Own N N' (.ag cs)):Own N N' (.ag (.lit s::(cs++[.lit t]))):=by
 have e:zH (.lit s::(cs++[.lit t]))=zH cs:=by simp only [zH,D.foot,zI,oX,o7]
 refine ⟨?_,⟨trivial,ya h.fl ⟨trivial,trivial⟩⟩,λb I=>?_,λb I=>?_⟩
 ·have:=h.nd;simp only [D.foot] at this ⊢;rw [e];exact this
 ·simp only [D.foot] at I;rw [e] at I;exact h.lo b (by simpa only [D.foot] using I)
 ·simp only [D.foot] at I;rw [e] at I;exact h.hi b (by simpa only [D.foot] using I)
theorem zH6 {N N':Nat} {s:Value} {t:Value}:Own N N' (.ag [.lit s,.j 0,.t (bytes []),.t (bytes []),.j 0,.j 0,.sl none 2 [] 0,.j 0,.sl none 2 [] 0,.sl none 9 [] 0,.lit t]):=
 ⟨by simp [D.foot,zH],by simp [D.Flat0,xc],by simp [D.foot,zH],by simp [D.foot,zH]⟩
theorem Rs.cells {r:Int × Tm × Nat} {d:D} (h:zOF r d):∃ J O U Y y4 y5 y6 y7 y8,d=.ag [.j r.1,J,O,U,Y,y4,y5,y6,y7,y8,.j (r.2.2:Nat)]/\r.2.1.Is (.ag [J,O,U,Y,y4,y5,y6,y7,y8]):=by
 obtain ⟨cs,rfl,h⟩:=h
 obtain ⟨s,t,n⟩:=r
 cases t with
 | mk k nm ot n0 ty re l=>
 obtain ⟨t0,t1,r0,r1,a,es,c,I,hh,aa,ab⟩:=Tm.is_mk.1 h
 injection I with I
 subst I
 exact ⟨_,_,_,_,_,_,_,_,_,rfl,h⟩
theorem zFN {e:Tm} {d:D} (he:e.Is d) (hc:e.cnt<=4000000) (fu:Int) (N:Nat) (Q:QT [.ag 11]) (O:∀ d N',N<=N'->zOF (xg e fu) d->Q d N'):ACalls prog 21 [.ag 11] [.dg 9 d,.j fu] N Q:=by
 have hG:=Tm.G_cnt e (by omega)
 unfold xg at O
 refine zFO N _ fu Q λ_ N1 ai=>rz e d he (by omega) 0 N1 _ λN2 aj _=>Br.not (λhv N3 ac=>?_) λhv N4 ak=>xE _ _ _ N4 _ λN5 al _=>Br.not (λhb N6 ae=>?_) λhb N7 am=>?_
 ·rw [if_neg (by rw [hv];simp)] at O
  exact O _ _ (by omega) zPl
 ·rw [if_neg (by rw [hv,hb];decide)] at O
  exact O _ _ (by omega) zPl
 rw [if_pos (by rw [hv,hb];rfl)] at O
 have bm:=yQ.1 hb
 have aw:e.ok=true:=by unfold pW at hv;simp at hv;exact hv.1
 have hR:=Rch.of aw hc
 refine vQ e d he hG N7 _ ?_
 obtain ⟨F,rfl⟩:∃ F:Nat,fu=(F:Int):=⟨fu.toNat,by omega⟩
 rw [oF] at O
 have rest:∀ (m n:Nat) (x:Tm) (dx:D) (N':Nat),N<=N'->n+m=F->Rch x->x.Is dx->(∀ d N',N<=N'->zOF (zDU m n x).1 d->Q d N')->xH Q N (F:Nat) n 0 0 (bytes []) (bytes []) 0 0 none [] 0 0 none [] 0 none [] 0 0 dx N':=by
  intro m
  induction m with
  | zero=>
    intro n x dx N' ax hn hx I J
    rw [zEX] at J
    have ao:=hx.s
    refine uj _ _ _ _ _ _ _ _ _ _ _ _ _ _ _ _ _ _ _ _ _ _ _ λN1 ai=>qQ x dx I (by omega) N1 _ λN2 aj _=>Br.dec (λh4 N3 ac=>?_) λh4 N4 ak=>?_
    ·rw [if_pos (by omega)] at J;exact J _ _ (by omega) zPl
    ·rw [if_neg (by omega)] at J
     have hF:=hx.F (by omega)
     refine zR I hF.ok hF.dp N4 _ λN5 al _=>Br.of (λU N6 ae=>?_) λU=>Br.beq (λ_ N7 am=>?_) λaa=>absurd (by omega) aa
     ·rw [if_pos U] at J
      cases x with
      | mk k nm ot n0 ty re l=>
      obtain ⟨t0,t1,r0,r1,a,es,c,rfl,hh,Y,ah⟩:=Tm.is_mk.1 I
      exact J _ _ (by omega) (zE3 I)
     ·rw [if_neg (by rw [U];decide)] at J
      cases x with
      | mk k nm ot n0 ty re l=>
      obtain ⟨t0,t1,r0,r1,a,es,c,rfl,hh,Y,ah⟩:=Tm.is_mk.1 I
      exact J _ _ (by omega) (zE3 I)
  | succ m ih=>
    intro n x dx N' ax hn hx I J
    rw [zEX] at J
    have ao:=hx.s
    refine uj _ _ _ _ _ _ _ _ _ _ _ _ _ _ _ _ _ _ _ _ _ _ _ λN1 ai=>qQ x dx I (by omega) N1 _ λN2 aj _=>Br.dec (λh4 N3 ac=>?_) λh4 N4 ak=>?_
    ·rw [if_pos (by omega)] at J;exact J _ _ (by omega) zPl
    ·rw [if_neg (by omega)] at J
     have hF:=hx.F (by omega)
     refine zR I hF.ok hF.dp N4 _ λN5 al _=>Br.of (λU N6 ae=>?_) λU=>Br.beq (λaa=>absurd aa (by omega)) λ_ N8 ay=>?_
     ·rw [if_pos U] at J
      cases x with
      | mk k nm ot n0 ty re l=>
      obtain ⟨t0,t1,r0,r1,a,es,c,rfl,hh,Y,ah⟩:=Tm.is_mk.1 I
      exact J _ _ (by omega) (zE3 I)
     ·rw [if_neg (by rw [U];decide)] at J
      refine zAI _ _ _ I hF N8 _ λdy N9 az hy _ _=>Br.beq (λh0 aq au=>?_) λh0=>?_
      ·simp only at J
       rw [if_pos h0] at J
       cases x with
       | mk k nm ot n0 ty re l=>
       obtain ⟨t0,t1,r0,r1,a,es,c,rfl,hh,Y,ah⟩:=Tm.is_mk.1 I
       exact J _ _ (by omega) (zE3 I)
      ·simp only at J
       rw [if_neg h0] at J
       rw [i64_in _ (by omega)]
       have:=ih (n+1) _ dy N9 (by omega) (by omega) (hx.step (by omega)) hy J
       simpa using this
 cases e with
 | mk k nm ot n0 ty re l=>
 intro x4 x5 x6 x7 a6 c' N8 ay a7 ab bn _ _
 have bp:=ab.len
 have bq:=hG.2.2.1
 have ao:=hR.s
 refine zDE _ _ _ _ _ _ _ _ _ _ _ _ _ _ _ _ _ _ _ _ _ _ _ _ _ _ _ _ _ _ _ _ _ _ ⟨⟨rfl,rfl⟩,⟨rfl,rfl⟩,λa1 N9 az _ aq au=>?_⟩
 have I:(Tm.mk k nm ot n0 ty re l).Is (.ag [.j k,.t nm,.t ot,.j n0,x4,x5,x6,x7,.sl a1 9 a6 c']):=Tm.is_mk.2 ⟨_,_,_,_,_,_,_,rfl,a7,by omega,ab⟩
 rw [zEX] at O
 refine qQ _ _ I (by omega) aq _ λbt bc _=>Br.dec (λh4 N3 ac=>?_) λh4 a8 bd=>?_
 ·rw [if_pos (by omega)] at O;exact O _ _ (by omega) zPl
 rw [if_neg (by omega)] at O
 have hF:=hR.F (by omega)
 refine zR I hF.ok hF.dp a8 _ λbv bg _=>Br.of (λU N6 ae=>?_) λU=>Br.beq (λh0 N7 am=>?_) λaa ba bh=>?_
 ·rw [if_pos U] at O;exact O _ _ (by omega) (zE3 I)
 ·rw [if_neg (by rw [U];decide)] at O
  have:F=0:=by omega
  subst this
  exact O _ _ (by omega) (zE3 I)
 ·rw [if_neg (by rw [U];decide)] at O
  obtain ⟨m,rfl⟩:∃ m,F=m+1:=⟨F - 1,by omega⟩
  simp only at O
  refine zAI _ _ _ I hF ba _ λdy bb bi hy _ _=>Br.beq (λh0 bw bj=>?_) λh0=>?_
  ·rw [if_pos h0] at O;exact O _ _ (by omega) (zE3 I)
  ·rw [if_neg h0] at O
   rw [i64_in _ (by omega)]
   exact rest m 1 _ dy bb (by omega) (by omega) (hR.step (by omega)) hy O
theorem zFt {e:Tm} {d:D} (he:e.Is d) (hc:e.cnt<=4000000) (fu:Int) (N:Nat) (Q:QT [.ag 11]) (hQ:∀ d N',N<=N'->zOF (xg e fu) d->Own N N' d->Q d N'):ACalls prog 19 [.ag 11] [.dg 9 d,.j fu] N Q:=by
 have hG:=Tm.G_cnt e (by omega)
 unfold xg at hQ
 refine zFb N _ fu Q λ_ M1 ah=>zB6 M1 _ fu _ λ_ N1 b2=>ui e d he (by omega) 0 N1 _ λN2 b3 _=>Br.not (λhv N3 b4=>?_) λhv N4 b5=>yL _ _ _ N4 _ λN5 Y _=>Br.not (λhb N6 ai=>?_) λhb N7 aj=>?_
 ·rw [if_neg (by rw [hv];simp)] at hQ
  exact λ_ _ M3 U=>hQ _ _ (by omega) zPl zH6
 ·rw [if_neg (by rw [hv,hb];decide)] at hQ
  exact λ_ _ M3 U=>hQ _ _ (by omega) zPl zH6
 rw [if_pos (by rw [hv,hb];rfl)] at hQ
 have b6:=yQ.1 hb
 have ax:e.ok=true:=by unfold pW at hv;simp at hv;exact hv.1
 have hR:=Rch.of ax hc
 refine uh e d he hG N7 _ ?_
 obtain ⟨F,rfl⟩:∃ F:Nat,fu=(F:Int):=⟨fu.toNat,by omega⟩
 rw [oF] at hQ
 have rest:∀ (m n:Nat) (k n0:Int) (nm ot:ByteArray) (ty re:Ty) (l:List Tm) (y4 y5 y6 y7:D) (r:List D) (q N':Nat),M1<=N'->n+m=F->Rch (.mk k nm ot n0 ty re l)->Tm.Hd nm ot ty re y4 y5 y6 y7->All2 Tm.Is l r->OwnL N N' ([y4,y5,y6,y7]++r)->(∀ d N',N<=N'->zOF (zDU m n (.mk k nm ot n0 ty re l)).1 d->Own N N' d->Q d N') ->
   wF (λx N2=>M1<=N2->Bel N2 x->∀ N3,N2<=N3->Q x N3) M1 (F:Nat) n 0 0 (bytes []) (bytes []) 0 0 none [] 0 0 none [] 0 none [] 0 0 k nm ot n0 y4 y5 y6 y7 r.length q r q N':=by
  intro m
  induction m with
  | zero=>
    intro n k n0 nm ot ty re l y4 y5 y6 y7 r q N' ay hn hx hH hA hO I
    have az:=hA.len
    have a1:=hx.g.2.2.1
    have a6:=hx.s
    rw [zEX] at I
    refine sc _ _ _ _ _ _ _ _ _ _ _ _ _ _ _ _ _ _ _ _ _ _ _ _ _ _ _ _ _ _ _ _ _ _ ⟨⟨rfl,rfl⟩,⟨rfl,rfl⟩,λa2 N5 Y ab N6 ai=>?_⟩
    have hf:=ab.mono ah (oB _)
    have J:(Tm.mk k nm ot n0 ty re l).Is (.ag [.j k,.t nm,.t ot,.j n0,y4,y5,y6,y7,.sl a2 9 r q]):=Tm.is_mk.2 ⟨_,_,_,_,_,_,_,rfl,hH,by omega,hA⟩
    have O:=vW (v0:=.int .i64 k) (v1:=.string nm) (v2:=.string ot) (v3:=.int .i64 n0) (c:=q) hO hf Y
    refine zB3 _ _ J (by omega) N6 _ λN7 aj _=>Br.dec (λh4 N8 aa=>?_) λh4 N8 aa=>?_
    ·rw [if_pos (by omega)] at I;exact λ_ _ M3 U=>I _ _ (by omega) zPl zH6
    rw [if_neg (by omega)] at I
    have hF:=hx.F (by omega)
    have a7:=hF.c
    refine xm J hF.ok (by omega) N8 _ λN9 a8 _=>Br.of (λhr ba ak=>?_) λhr=>Br.beq (λ_ al am=>?_) λac=>absurd (by omega) ac
    ·rw [if_pos hr] at I
     exact λ_ _ M3 U=>I _ _ (by omega) (zE3 J) (zLs (cs:=[_,_,_,_,_,_,_,_,_]) (O.mono (oB _) (by omega)))
    ·rw [if_neg (by rw [hr];decide)] at I
     exact λ_ _ M3 U=>I _ _ (by omega) (zE3 J) (zLs (cs:=[_,_,_,_,_,_,_,_,_]) (O.mono (oB _) (by omega)))
  | succ m ih=>
    intro n k n0 nm ot ty re l y4 y5 y6 y7 r q N' ay hn hx hH hA hO I
    have az:=hA.len
    have a1:=hx.g.2.2.1
    have a6:=hx.s
    rw [zEX] at I
    refine sc _ _ _ _ _ _ _ _ _ _ _ _ _ _ _ _ _ _ _ _ _ _ _ _ _ _ _ _ _ _ _ _ _ _ ⟨⟨rfl,rfl⟩,⟨rfl,rfl⟩,λa2 N5 Y ab N6 ai=>?_⟩
    have hf:=ab.mono ah (oB _)
    have J:(Tm.mk k nm ot n0 ty re l).Is (.ag [.j k,.t nm,.t ot,.j n0,y4,y5,y6,y7,.sl a2 9 r q]):=Tm.is_mk.2 ⟨_,_,_,_,_,_,_,rfl,hH,by omega,hA⟩
    have O:=vW (v0:=.int .i64 k) (v1:=.string nm) (v2:=.string ot) (v3:=.int .i64 n0) (c:=q) hO hf Y
    refine zB3 _ _ J (by omega) N6 _ λN7 aj _=>Br.dec (λh4 N8 aa=>?_) λh4 N8 aa=>?_
    ·rw [if_pos (by omega)] at I;exact λ_ _ M3 U=>I _ _ (by omega) zPl zH6
    rw [if_neg (by omega)] at I
    have hF:=hx.F (by omega)
    have a7:=hF.c
    refine xm J hF.ok (by omega) N8 _ λN9 a8 _=>Br.of (λhr ba ak=>?_) λhr=>Br.beq (λac=>absurd ac (by omega)) λ_ al am=>?_
    ·rw [if_pos hr] at I
     exact λ_ _ M3 U=>I _ _ (by omega) (zE3 J) (zLs (cs:=[_,_,_,_,_,_,_,_,_]) (O.mono (oB _) (by omega)))
    ·rw [if_neg (by rw [hr];decide)] at I
     simp only at I
     refine zBz _ _ _ J hF al _ λdy b7 bv hy _ _=>Br.beq (λh0 ao aq=>?_) λh0 ao aq=>zCx ao _ _ λb8 bw _ bb bz=>?_
     ·rw [if_pos h0] at I
      exact λ_ _ M3 U=>I _ _ (by omega) (zE3 J) (zLs (cs:=[_,_,_,_,_,_,_,_,_]) (O.mono (oB _) (by omega)))
     ·rw [if_neg h0] at I
      have ae:=hx.step (by omega)
      refine uh _ _ hy ae.g bb _ ?_
      generalize ((Tm.mk k nm ot n0 ty re l).stp (Tm.mk k nm ot n0 ty re l).dp).1=z at hy ae I
      cases z with
      | mk k2 bc bd n2 bg bh l2=>
      intro z4 z5 z6 z7 bi c2 bj b1 bm au bn _ _
      rw [i64_in _ (by omega)]
      have:=ih (n+1) k2 n2 bc bd bg bh l2 z4 z5 z6 z7 bi c2 bj (by omega) (by omega) ae bm au (bn.mono (by omega) (oB _)) I
      simpa using this
 cases e with
 | mk k nm ot n0 ty re l=>
 intro x4 x5 x6 x7 bp c' N8 aa bq aw bt _ _
 exact rest F 0 k n0 nm ot ty re l x4 x5 x6 x7 bp c' N8 (by omega) (by omega) hR bq aw (bt.mono (by omega) (oB _)) hQ
/-- parts evaluated one behind the other -/
def t8 (S:Tm->Nat->Option (Tm × Nat)):List Tm->Nat->Option (List Tm × Nat)
 | [],s=>some ([],s)
 | t :: J,s=>match S t s with
   | none=>none
   | some (t',s1)=>match t8 S J s1 with
     | none=>none
     | some (I,s2)=>some (t'::I,s2)
/-- a rule's term is counted -/
def pO (x:Tm) (s:Nat):Option (Tm × Nat):=if s=0\/400<x.sz then none else some (x,s - 1)
mutual
/-- the splices of level 1 evaluated -/
def Tm.codE (S:Tm->Nat->Option (Tm × Nat)):Tm->Int->Nat->Option (Tm × Nat)
 | .mk k nm ot n ty re l,m,s=>if k=11/\m=1 then
    match S (l.getD 0 tm0) s with
    | none=>none
    | some (x,s1)=>if x.kd=10 then pO (x.pt 0) s1 else none
   else match zQ S l (zL k m) s with
    | none=>none
    | some (l',s1)=>some (.mk k nm ot n ty re l',s1)
def zQ (S:Tm->Nat->Option (Tm × Nat)):List Tm->Int->Nat->Option (List Tm × Nat)
 | [],_,s=>some ([],s)
 | t :: J,m,s=>match t.codE S m s with
   | none=>none
   | some (t',s1)=>match zQ S J m s1 with
     | none=>none
     | some (I,s2)=>some (t'::I,s2)
end
/-- how many parts the reference evaluates -/
def yO (k:Int) (n:Nat):Nat:=if k=4\/k=7 then n else 1
def evT:Nat->Tm->Nat->Option (Tm × Nat)
 | 0,_,_=>none
 | f+1,.mk k nm ot n ty re l,s=>if (Tm.mk k nm ot n ty re l).res then some (.mk k nm ot n ty re l,s) else
   if k=10 then match (l.getD 0 tm0).codE (evT f) 1 s with
    | none=>none
    | some (b,s1)=>if (Tm.nod 10 [b]).res then some (Tm.nod 10 [b],s1) else none
   else match t8 (evT f) (l.take (yO k l.length)) s with
    | none=>none
    | some (l1,s1)=>if (Tm.mk k nm ot n ty re (l1++l.drop (yO k l.length))).apl.2=0 then none else
      match pO (Tm.mk k nm ot n ty re (l1++l.drop (yO k l.length))).apl.1 s1 with
      | none=>none
      | some (x,s2)=>evT f x s2
/-- what comes back: a term, a result, of a size -/
structure EvOk (e:Tm) (s:Nat) (v:Tm) (s1:Nat):Prop where
 o:v.ok=true
 r:v.res=true
 l:s1<=s
 z:v.sz+400*s1<=e.sz+400*s
theorem xy {x y:Tm} {s s1:Nat} (h:pO x s=some (y,s1)):y=x/\s1+1=s/\x.sz<=400:=by
 unfold pO at h
 split at h
 ·cases h
 ·injection h with h
  injection h with I J
  exact ⟨I.symm,by omega,by omega⟩
theorem zDK {e:Tm} (h:e.res=true) (I:e.kd=10):(e.pt 0).made 1=true:=by
 unfold Tm.res at h
 rw [I] at h
 simp [zKg] at h
 exact h.2
theorem zOd {e:Tm} (h:e.ok=true) (I:e.kd=10\/e.kd=11\/e.kd=12\/e.kd=13):(e.pt 0).ok=true/\e.as.length=1:=by
 cases e with
 | mk k nm ot n ty re l=>
 have I:k=10\/k=11\/k=12\/k=13:=I
 have:=(yi h).1 (by omega)
 exact ⟨zPO h (by simp only [Tm.as];omega),this⟩
theorem pZ {b:Tm} (h:b.ok=true):(Tm.nod 10 [b]).ok=true:=Tm.ok_mk.2 ⟨by simpa using h,by decide +kernel,rfl⟩
theorem zEA {S:Tm->Nat->Option (Tm × Nat)} {f:Nat} (hS:∀ (e:Tm) (s:Nat) (v:Tm) (s1:Nat),e.dp<=f->S e s=some (v,s1)->e.ok=true->EvOk e s v s1) :
  ∀ (t:Tm),t.dp<=f+1->t.ok=true->∀ (m:Int) (s:Nat) (v:Tm) (s1:Nat),t.codE S m s=some (v,s1)->v.ok=true/\v.made m=true/\s1<=s/\v.sz+400*s1<=t.sz+400*s:=by
 refine Tm.ind λk nm ot n ty re l ih hd ho m s v s1 h=>?_
 obtain ⟨h1,h2,h3⟩:=Tm.ok_mk.1 ho
 simp only [Tm.codE] at h
 split at h
 ·rename_i hk
  have hl:=(yi ho).1 (by omega)
  have J:=zC (l:=l) (i:=0) (by omega)
  have aa:=Tm.dp_mem (k:=k) (nm:=nm) (ot:=ot) (n:=n) (ty:=ty) (re:=re) J
  have ac:=Tm.sz_mem (k:=k) (nm:=nm) (ot:=ot) (n:=n) (ty:=ty) (re:=re) J
  cases I:S (l.getD 0 tm0) s with
  | none=>rw [I] at h;cases h
  | some p=>
    obtain ⟨x,s2⟩:=p
    rw [I] at h
    simp only at h
    split at h
    ·rename_i O
     obtain ⟨rfl,e2,e3⟩:=xy h
     have ev:=hS _ _ _ _ (by omega) I (h1 _ J)
     have:=ev.l
     have:=ev.z
     refine ⟨(zOd ev.o (.inl O)).1,hk.2 ▸ zDK ev.r O,by omega,by omega⟩
    ·cases h
 ·rename_i hk
  have key:∀ (xs:List Tm),(∀ x∈xs,x∈l)->∀ (s:Nat) (l':List Tm) (s1:Nat),zQ S xs (zL k m) s=some (l',s1)->l'.length=xs.length/\(∀ x∈l',x.ok=true)/\yk l' (zL k m)=true/\s1<=s/\zF l'+400*s1<=zF xs+400*s:=by
   intro xs
   induction xs with
   | nil=>
     intro _ s l' s1 h
     simp only [zQ,oV,nq] at h
     obtain ⟨rfl,rfl⟩:=h
     simp [yk]
   | cons x xs ab=>
     intro J s l' s1 h
     simp only [zQ] at h
     have O:=J x (by simp)
     have aa:=Tm.dp_mem (k:=k) (nm:=nm) (ot:=ot) (n:=n) (ty:=ty) (re:=re) O
     cases I:x.codE S (zL k m) s with
     | none=>rw [I] at h;cases h
     | some p=>
       obtain ⟨x',s2⟩:=p
       rw [I] at h
       simp only at h
       cases U:zQ S xs (zL k m) s2 with
       | none=>rw [U] at h;cases h
       | some p=>
         obtain ⟨ae,s3⟩:=p
         rw [U] at h
         injection h with h
         injection h with e1 e2
         subst e1 e2
         obtain ⟨a1,a2,a3,a4⟩:=ih x O (by omega) (h1 x O) _ _ _ _ I
         obtain ⟨b1,b2,b3,b4,b5⟩:=ab (λy hy=>J y (by simp [hy])) _ _ _ U
         refine ⟨by simp [b1],?_,by simp only [yk,a2,b3,Bool.and_self],by omega,by simp only [zF];omega⟩
         intro y hy
         rcases oI.1 hy with rfl | hy
         ·exact a1
         ·exact b2 y hy
  cases I:zQ S l (zL k m) s with
  | none=>rw [I] at h;cases h
  | some p=>
    obtain ⟨l',s2⟩:=p
    rw [I] at h
    injection h with h
    injection h with e1 e2
    subst e1 e2
    obtain ⟨b1,b2,b3,b4,b5⟩:=key l (λx O=>O) _ _ _ I
    refine ⟨Tm.ok_mk.2 ⟨b2,h2,by rw [b1];exact h3⟩,?_,b4,by simp only [Tm.sz];omega⟩
    simp only [Tm.made,b3,Bool.and_true]
    by_cases Y:k=11
    ·have:¬m=1:=λJ=>hk ⟨Y,J⟩
     simp [Y,this]
    ·simp [Y]
theorem zOt {S:Tm->Nat->Option (Tm × Nat)} {f:Nat} (Y:∀ (e:Tm) (s:Nat) (v:Tm) (s1:Nat),e.dp<=f->S e s=some (v,s1)->e.ok=true->EvOk e s v s1) :
  ∀ (l:List Tm),(∀ x∈l,x.dp<=f/\x.ok=true)->∀ (s:Nat) (l':List Tm) (s1:Nat),t8 S l s=some (l',s1)->l'.length=l.length/\(∀ x∈l',x.ok=true/\x.res=true)/\s1<=s/\zF l'+400*s1<=zF l+400*s
 | [],_,s,l',s1,h=>by
   simp only [t8,oV,nq] at h
   obtain ⟨rfl,rfl⟩:=h
   simp
 | x :: xs,hm,s,l',s1,h=>by
   simp only [t8] at h
   obtain ⟨J,O⟩:=hm x (by simp)
   cases U:S x s with
   | none=>rw [U] at h;cases h
   | some p=>
     obtain ⟨x',s2⟩:=p
     rw [U] at h
     simp only at h
     cases I:t8 S xs s2 with
     | none=>rw [I] at h;cases h
     | some p=>
       obtain ⟨aa,s3⟩:=p
       rw [I] at h
       injection h with h
       injection h with e1 e2
       subst e1 e2
       have ev:=Y _ _ _ _ J U O
       have:=ev.l
       have:=ev.z
       obtain ⟨b1,b2,b3,b4⟩:=zOt Y xs (λy hy=>hm y (by simp [hy])) _ _ _ I
       refine ⟨by simp [b1],?_,by omega,by simp only [zF];omega⟩
       intro y hy
       rcases oI.1 hy with rfl | hy
       ·exact ⟨ev.o,ev.r⟩
       ·exact b2 y hy
theorem xe:∀ (a b:List Tm),zF (a++b)=zF a+zF b
 | [],b=>by simp [zF]
 | x::a,b=>by simp only [oq,zF,xe a b];omega
theorem Tm.dp_sz:∀ t:Tm,t.dp<=t.sz:=by
 refine Tm.ind λk nm ot n ty re l J=>?_
 simp only [Tm.dp,Tm.sz]
 have:vD l<=zF l:=ww.2 λx I=>oR (J x I) (xn I)
 omega
theorem zOa {k:Int} {nm ot:ByteArray} {n:Int} {ty re:Ty} {l l1:List Tm} {j:Nat} (h:(Tm.mk k nm ot n ty re l).ok=true) (I:l1.length=(l.take j).length) (J:∀ x∈l1,x.ok=true) :
  (Tm.mk k nm ot n ty re (l1++l.drop j)).ok=true:=by
 obtain ⟨O,U,Y⟩:=Tm.ok_mk.1 h
 refine Tm.ok_mk.2 ⟨λx hx=>?_,U,?_⟩
 ·rcases oK.1 hx with hx | hx
  ·exact J x hx
  ·exact O x (oh hx)
 ·rw [<-Y]
  have:=nh List.length (om j l)
  simp only [oH] at this ⊢
  rw [I];exact_mod_cast this
theorem sZ:∀ (f:Nat) (e:Tm) (s:Nat) (v:Tm) (s1:Nat),evT f e s=some (v,s1)->e.ok=true->EvOk e s v s1
 | 0,e,s,v,s1,h,_=>by cases h
 | f + 1, .mk k nm ot n ty re l,s,v,s1,h,O=>by
   have ih:=sZ f
   obtain ⟨h1,h2,h3⟩:=Tm.ok_mk.1 O
   simp only [evT] at h
   split at h
   ·rename_i hr
    injection h with h
    injection h with e1 U
    subst e1 U
    exact ⟨O,hr,oB _,oB _⟩
   ·split at h
    ·rename_i hk
     have hl:=(yi O).1 (by omega)
     have hm:=zC (l:=l) (i:=0) (by omega)
     have aa:=Tm.sz_mem (k:=k) (nm:=nm) (ot:=ot) (n:=n) (ty:=ty) (re:=re) hm
     cases I:(l.getD 0 tm0).codE (evT f) 1 s with
     | none=>rw [I] at h;cases h
     | some p=>
       obtain ⟨b,s2⟩:=p
       rw [I] at h
       simp only at h
       split at h
       ·rename_i hr
        injection h with h
        injection h with e1 U
        subst e1 U
        obtain ⟨a1,a2,a3,a4⟩:=zEA (f:=(l.getD 0 tm0).dp) (λe s v s1 _=>ih e s v s1) _ (by omega) (h1 _ hm) _ _ _ _ I
        exact ⟨pZ a1,hr,a3,by simp only [Tm.nod,Tm.sz,zF] at aa ⊢;omega⟩
       ·cases h
    ·cases I:t8 (evT f) (l.take (yO k l.length)) s with
     | none=>rw [I] at h;cases h
     | some p=>
       obtain ⟨l1,s2⟩:=p
       rw [I] at h
       simp only at h
       split at h
       ·cases h
       ·obtain ⟨b1,b2,b3,b4⟩:=zOt (f:=vD l) (λe s v s1 _=>ih e s v s1) _ (λx Y=>⟨ww.1 (oB _) x (oU Y),h1 x (oU Y)⟩) _ _ _ I
        have J:=zOa O b1 λx Y=>(b2 x Y).1
        generalize Tm.mk k nm ot n ty re (l1++l.drop (yO k l.length))=out at h J
        cases hc:pO out.apl.1 s2 with
        | none=>rw [hc] at h;cases h
        | some p=>
          obtain ⟨x,s3⟩:=p
          rw [hc] at h
          obtain ⟨rfl,U,e3⟩:=xy hc
          have ev:=ih _ _ _ _ h (zK9 J e3)
          have:=ev.l
          have:=ev.z
          have h5:1+zF l=(Tm.mk k nm ot n ty re l).sz:=rfl
          have h6:=xe (l.take (yO k l.length)) (l.drop (yO k l.length))
          rw [om] at h6
          exact ⟨ev.o,ev.r,by omega,by omega⟩
end Go.Proofs.YtfajiphkncipoaaGreatDoor
