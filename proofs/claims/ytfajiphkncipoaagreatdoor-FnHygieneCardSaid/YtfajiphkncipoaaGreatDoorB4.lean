/- Steps one behind the other: sizes, and the term after some steps. -/
import Derived.Test.YtfajiphkncipoaaGreatDoorB3
import Derived.Test.YtfajiphkncipoaaGreatDoorB2
import Derived.Test.YtfajiphkncipoaaGreatDoorKi
import Derived.Test.YtfajiphkncipoaaGreatDoorKh
set_option linter.unusedVariables false
set_option linter.unusedSimpArgs false
namespace Go.Proofs.YtfajiphkncipoaaGreatDoor
open Go Go.Proofs Go.Proofs.Tryz Go.IntWalk
theorem zGg:∀ (t:Tm) (d:D),t.Is d->t.sz<=9223372036854775807->zBE 81 [.dg 9 d] t.sz:=by
 refine Tm.ind λk nm ot n0 ty re l ih d hd hc N Q hQ=>?_
 obtain ⟨t0,t1,r0,r1,a,es,c,rfl,hh,J,O⟩:=Tm.is_mk.1 hd
 simp only [Tm.sz] at hc
 refine zHH N _ Q λ_=>⟨_,_,_,rfl,?_⟩
 refine up O J (λi xs=>∀ (m:Nat) (N':Nat),N<=N'->m+zW xs=1+zW l->wx Q N m a es c es.length i N') ?_ ?_ 1 N (oD _) rfl
 ·intro i U _ m N' Y hm
  refine qD _ _ _ _ _ _ _ _ _ ?_
  simp only [zW] at hm
  repeat' first|with_reducible intro _|simp only[U,Y1,Y2,Y3,Y4]|with_reducible refine X ?_ ?_|refine⟨_,_,_,rfl,?_⟩|refine⟨_,rfl,?_⟩|refine And.intro (by first|omega|trivial|(show _=_;rfl)|(with_reducible constructor)<;>first|omega|trivial|rfl) ?_|fail
  exact Qi (hQ _ (by omega)) (by simp only [Tm.sz];omega)
 ·intro i x xs I _ aa m N' Y hm
  have hb:=I.b
  have ab:=wM I.m
  simp only [zW] at hm
  refine qD _ _ _ _ _ _ _ _ _ ?_
  rw [I.lt,I.w,oH]
  refine ⟨⟨by omega,by omega⟩,λN1 ac=>ih x I.m _ I.r (by omega) N1 _ λN2 ae _=>?_⟩
  rw [i64_in _ (by omega)]
  have:=aa (m+x.sz) N2 (by omega) (by omega)
  simpa using this
theorem zBT:∀ (t:Tm) (d:D),t.Is d->t.sz<=9223372036854775807->zBE 48 [.dg 9 d] t.sz:=by
 refine Tm.ind λk nm ot n0 ty re l ih d hd hc N Q hQ=>?_
 obtain ⟨t0,t1,r0,r1,a,es,c,rfl,hh,J,O⟩:=Tm.is_mk.1 hd
 simp only [Tm.sz] at hc
 refine zHh N _ Q λ_=>?_
 refine up O J (λi xs=>∀ (m:Nat) (N':Nat),N<=N'->m+zW xs=1+zW l->wc Q N m i (.ag [.lit (.int .i64 k),.lit (.string nm),.lit (.string ot),.lit (.int .i64 n0),t0,t1,r0,r1,.sl a 9 es c]) N') ?_ ?_ 1 N (oD _) rfl
 ·intro i U _ m N' Y hm
  refine rD _ _ _ _ _ _ ⟨_,_,_,rfl,?_⟩
  simp only [zW] at hm
  rw [U]
  exact λN2 aa=>Qi (hQ _ (by omega)) (by simp only [Tm.sz];omega)
 ·intro i x xs I _ ab m N' Y hm
  have hb:=I.b
  have ac:=wM I.m
  simp only [zW] at hm
  refine rD _ _ _ _ _ _ ⟨_,_,_,rfl,?_⟩
  rw [I.lt,I.w,oH]
  refine ⟨_,_,_,rfl,⟨by omega,by omega⟩,λN1 ae=>ih x I.m _ I.r (by omega) N1 _ λN2 aa _=>?_⟩
  rw [i64_in _ (by omega)]
  have:=ab (m+x.sz) N2 (by omega) (by omega)
  simpa using this
/-- a term's types are small -/
theorem zRb:∀ t:Tm,t.ok=true->t.cnt<=61*t.sz:=by
 refine Tm.ind λk nm ot n ty re l ih h=>?_
 obtain ⟨h1,I,h3⟩:=Tm.ok_mk.1 h
 have Y:∀ t:Ty,t.zero=true->t.cnt<=30:=λt J=>by
  cases t with
  | mk k l=>
  simp only [Ty.zero,Ty.k,Ty.as,oJ,nk] at J
  have:l=[]:=oY (by omega)
  subst this
  simp [Ty.cnt,zM]
 have v1:∀ t:Ty,t.valid=true->t.cnt<=30:=λt J=>by
  simp only [Ty.valid,oJ,nE] at J
  exact J.1.1
 simp only [zI,oJ,nk,mY] at I
 have aa:ty.cnt<=30:=by
  rcases I.2.1 with h | h
  ·exact v1 _ (by rw [<-I.1,h])
  ·exact Y _ h
 have ab:re.cnt<=30:=by
  rcases I.2.2.2.1 with h | h
  ·exact v1 _ (by rw [<-I.2.2.1];simpa using h)
  ·exact Y _ h
 have key:∀ xs:List Tm,(∀ x∈xs,x∈l)->zL xs<=61*zW xs:=by
  intro xs
  induction xs with
  | nil=>intro _;exact oD _
  | cons x xs O=>
    intro U
    have a1:=ih x (U x (by simp)) (h1 x (U x (by simp)))
    have a2:=O λy hy=>U y (by simp [hy])
    simp only [zL,zW];omega
 have:=key l λx hx=>hx
 simp only [Tm.cnt,Tm.sz];omega
/-- a term that is reached by steps -/
structure Rch (x:Tm):Prop where
 g:x.G
 s:x.sz<=64482000
 o:x.sz<=400->x.ok=true
theorem Rch.F {x:Tm} (h:Rch x) (hs:x.sz<=400):x.F x.dp:=Tm.F.of (h.o hs) (oD _) (by have:=zRb x (h.o hs);omega)
theorem Rch.step {x:Tm} (h:Rch x) (hs:x.sz<=400):Rch (x.stp x.dp).1:=⟨zTC _ _ h.g,by have:=zRP x.dp x hs;omega,λI=>zKu _ x (oD _) (h.o hs) I⟩
theorem Rch.of {e:Tm} (I:e.ok=true) (J:e.cnt<=4000000):Rch e:=⟨Tm.G_cnt e (by omega),by have:=Tm.sz_cnt e;omega,λ_=>I⟩
/-- how a run ends, as data -/
def zQc (r:Int × Tm × Nat) (d:D):Prop:=∃ cs,d=.ag (.lit (.int .i64 r.1)::(cs++[.lit (.int .i64 (r.2.2:Nat))]))/\r.2.1.Is (.ag cs)
theorem rq (m n:Nat) (x:Tm):zEy m n x=if x.sz>400 then ((3,tm0,n),[]) else if x.res then ((1,x,n),[]) else match m with
  | 0=>((2,x,n),[])
  | m+1=>if (x.stp x.dp).2=0 then ((4,x,n),[]) else ((zEy m (n+1) (x.stp x.dp).1).1,(x.stp x.dp).2::(zEy m (n+1) (x.stp x.dp).1).2):=by
 cases m<;>rfl
theorem zE6 {s:Int} {k n0:Int} {nm ot:ByteArray} {ty re:Ty} {l:List Tm} {n:Nat} {I J O U Y y5 y6 y7 y8:D} (h:(Tm.mk k nm ot n0 ty re l).Is (.ag [I,J,O,U,Y,y5,y6,y7,y8])) :
 zQc (s,Tm.mk k nm ot n0 ty re l,n) (.ag [.lit (.int .i64 s),I,J,O,U,Y,y5,y6,y7,y8,.lit (.int .i64 (n:Nat))]):=⟨_,rfl,h⟩
theorem zQB {s:Int} {n:Nat}:zQc (s,tm0,n) (.ag [.lit (.int .i64 s),.lit (.int .i64 0),.lit (.string (bytes [])),.lit (.string (bytes [])),.lit (.int .i64 0),.lit (.int .i64 0),.sl none 2 [] 0,.lit (.int .i64 0),.sl none 2 [] 0,.sl none 9 [] 0,.lit (.int .i64 (n:Nat))]):=⟨_,rfl,zJI⟩
theorem Fresh.mono {N0 N1 N M:Nat} {a:Option Addr} {ds:List D} (h:Fresh N0 N a ds) (J:N1<=N0) (O:N<=M):Fresh N1 M a ds:=
 ⟨λad I=>oS J (h.lo ad I),λad I=>ou (h.hi ad I) O,h.off,h.ap⟩
theorem zMX {N N':Nat} {s t:Value} {cs:List D} (h:Own N N' (.ag cs)):Own N N' (.ag (.lit s::(cs++[.lit t]))):=by
 have e:zF (.lit s::(cs++[.lit t]))=zF cs:=by simp only [zF,D.foot,zG,oX,nD]
 refine ⟨?_,⟨trivial,yW h.fl ⟨trivial,trivial⟩⟩,λb I=>?_,λb I=>?_⟩
 ·have:=h.nd;simp only [D.foot] at this ⊢;rw [e];exact this
 ·simp only [D.foot] at I;rw [e] at I;exact h.lo b (by simpa only [D.foot] using I)
 ·simp only [D.foot] at I;rw [e] at I;exact h.hi b (by simpa only [D.foot] using I)
theorem zIR {N N':Nat} {s:Value} {t:Value}:Own N N' (.ag [.lit s,.lit (.int .i64 0),.lit (.string (bytes [])),.lit (.string (bytes [])),.lit (.int .i64 0),.lit (.int .i64 0),.sl none 2 [] 0,.lit (.int .i64 0),.sl none 2 [] 0,.sl none 9 [] 0,.lit t]):=
 ⟨by simp [D.foot,zF],by simp [D.Flat0,xf],by simp [D.foot,zF],by simp [D.foot,zF]⟩
theorem Rs.cells {r:Int × Tm × Nat} {d:D} (h:zQc r d):∃ J O U Y y4 y5 y6 y7 y8,d=.ag [.lit (.int .i64 r.1),J,O,U,Y,y4,y5,y6,y7,y8,.lit (.int .i64 (r.2.2:Nat))]/\r.2.1.Is (.ag [J,O,U,Y,y4,y5,y6,y7,y8]):=by
 obtain ⟨cs,rfl,h⟩:=h
 obtain ⟨s,t,n⟩:=r
 cases t with
 | mk k nm ot n0 ty re l=>
 obtain ⟨t0,t1,r0,r1,a,es,c,I,hh,aa,ab⟩:=Tm.is_mk.1 h
 injection I with I
 subst I
 exact ⟨_,_,_,_,_,_,_,_,_,rfl,h⟩
theorem qq {e:Tm} {d:D} (he:e.Is d) (hc:e.cnt<=4000000) (fu:Int) (N:Nat) (Q:QT [.ag 11]) (O:∀ d N',N<=N'->zQc (va e fu) d->Q d N'):ACalls prog 21 [.ag 11] [.dg 9 d,.int .i64 fu] N Q:=by
 have hG:=Tm.G_cnt e (by omega)
 unfold va at O
 refine zFP N _ fu Q λ_ N1 ai=>uX e d he (by omega) 0 N1 _ λN2 aj _=>Br.not (λhv N3 ac=>?_) λhv N4 ak=>xT _ _ _ N4 _ λN5 al _=>Br.not (λhb N6 ae=>?_) λhb N7 am=>?_
 ·rw [if_neg (by rw [hv];simp)] at O
  exact O _ _ (by omega) zQB
 ·rw [if_neg (by rw [hv,hb];decide)] at O
  exact O _ _ (by omega) zQB
 rw [if_pos (by rw [hv,hb];rfl)] at O
 have bm:=xF.1 hb
 have aw:e.ok=true:=by unfold pT at hv;simp at hv;exact hv.1
 have hR:=Rch.of aw hc
 refine qA e d he hG N7 _ ?_
 obtain ⟨F,rfl⟩:∃ F:Nat,fu=(F:Int):=⟨fu.toNat,by omega⟩
 rw [oH] at O
 have rest:∀ (m n:Nat) (x:Tm) (dx:D) (N':Nat),N<=N'->n+m=F->Rch x->x.Is dx->(∀ d N',N<=N'->zQc (zEy m n x).1 d->Q d N')->yy Q N (F:Nat) n 0 0 (bytes []) (bytes []) 0 0 none [] 0 0 none [] 0 none [] 0 0 dx N':=by
  intro m
  induction m with
  | zero=>
    intro n x dx N' ax hn hx I J
    rw [rq] at J
    have ao:=hx.s
    refine ua _ _ _ _ _ _ _ _ _ _ _ _ _ _ _ _ _ _ _ _ _ _ _ λN1 ai=>zBT x dx I (by omega) N1 _ λN2 aj _=>Br.dec (λh4 N3 ac=>?_) λh4 N4 ak=>?_
    ·rw [if_pos (by omega)] at J;exact J _ _ (by omega) zQB
    ·rw [if_neg (by omega)] at J
     have hF:=hx.F (by omega)
     refine zj I hF.ok hF.dp N4 _ λN5 al _=>Br.of (λU N6 ae=>?_) λU=>Br.beq (λ_ N7 am=>?_) λaa=>absurd (by omega) aa
     ·rw [if_pos U] at J
      cases x with
      | mk k nm ot n0 ty re l=>
      obtain ⟨t0,t1,r0,r1,a,es,c,rfl,hh,Y,ah⟩:=Tm.is_mk.1 I
      exact J _ _ (by omega) (zE6 I)
     ·rw [if_neg (by rw [U];decide)] at J
      cases x with
      | mk k nm ot n0 ty re l=>
      obtain ⟨t0,t1,r0,r1,a,es,c,rfl,hh,Y,ah⟩:=Tm.is_mk.1 I
      exact J _ _ (by omega) (zE6 I)
  | succ m ih=>
    intro n x dx N' ax hn hx I J
    rw [rq] at J
    have ao:=hx.s
    refine ua _ _ _ _ _ _ _ _ _ _ _ _ _ _ _ _ _ _ _ _ _ _ _ λN1 ai=>zBT x dx I (by omega) N1 _ λN2 aj _=>Br.dec (λh4 N3 ac=>?_) λh4 N4 ak=>?_
    ·rw [if_pos (by omega)] at J;exact J _ _ (by omega) zQB
    ·rw [if_neg (by omega)] at J
     have hF:=hx.F (by omega)
     refine zj I hF.ok hF.dp N4 _ λN5 al _=>Br.of (λU N6 ae=>?_) λU=>Br.beq (λaa=>absurd aa (by omega)) λ_ N8 ay=>?_
     ·rw [if_pos U] at J
      cases x with
      | mk k nm ot n0 ty re l=>
      obtain ⟨t0,t1,r0,r1,a,es,c,rfl,hh,Y,ah⟩:=Tm.is_mk.1 I
      exact J _ _ (by omega) (zE6 I)
     ·rw [if_neg (by rw [U];decide)] at J
      refine zDr _ _ _ I hF N8 _ λdy N9 az hy _ _=>Br.beq (λh0 aq au=>?_) λh0=>?_
      ·simp only at J
       rw [if_pos h0] at J
       cases x with
       | mk k nm ot n0 ty re l=>
       obtain ⟨t0,t1,r0,r1,a,es,c,rfl,hh,Y,ah⟩:=Tm.is_mk.1 I
       exact J _ _ (by omega) (zE6 I)
      ·simp only at J
       rw [if_neg h0] at J
       rw [i64_in _ (by omega)]
       have:=ih (n+1) _ dy N9 (by omega) (by omega) (hx.step (by omega)) hy J
       simpa using this
 cases e with
 | mk k nm ot n0 ty re l=>
 intro x4 x5 x6 x7 a6 c' N8 ay a7 ab bn _ _
 have bp:=ab.len
 have bq:=hG.2.2.1
 have ao:=hR.s
 refine zC8 _ _ _ _ _ _ _ _ _ _ _ _ _ _ _ _ _ _ _ _ _ _ _ _ _ _ _ _ _ _ _ _ _ _ ⟨⟨rfl,rfl⟩,⟨rfl,rfl⟩,λa1 N9 az _ aq au=>?_⟩
 have I:(Tm.mk k nm ot n0 ty re l).Is (.ag [.lit (.int .i64 k),.lit (.string nm),.lit (.string ot),.lit (.int .i64 n0),x4,x5,x6,x7,.sl a1 9 a6 c']):=Tm.is_mk.2 ⟨_,_,_,_,_,_,_,rfl,a7,by omega,ab⟩
 rw [rq] at O
 refine zBT _ _ I (by omega) aq _ λbt bc _=>Br.dec (λh4 N3 ac=>?_) λh4 a8 bd=>?_
 ·rw [if_pos (by omega)] at O;exact O _ _ (by omega) zQB
 rw [if_neg (by omega)] at O
 have hF:=hR.F (by omega)
 refine zj I hF.ok hF.dp a8 _ λbv bg _=>Br.of (λU N6 ae=>?_) λU=>Br.beq (λh0 N7 am=>?_) λaa ba bh=>?_
 ·rw [if_pos U] at O;exact O _ _ (by omega) (zE6 I)
 ·rw [if_neg (by rw [U];decide)] at O
  have:F=0:=by omega
  subst this
  exact O _ _ (by omega) (zE6 I)
 ·rw [if_neg (by rw [U];decide)] at O
  obtain ⟨m,rfl⟩:∃ m,F=m+1:=⟨F - 1,by omega⟩
  simp only at O
  refine zDr _ _ _ I hF ba _ λdy bb bi hy _ _=>Br.beq (λh0 bw bj=>?_) λh0=>?_
  ·rw [if_pos h0] at O;exact O _ _ (by omega) (zE6 I)
  ·rw [if_neg h0] at O
   rw [i64_in _ (by omega)]
   exact rest m 1 _ dy bb (by omega) (by omega) (hR.step (by omega)) hy O
theorem zFw {e:Tm} {d:D} (he:e.Is d) (hc:e.cnt<=4000000) (fu:Int) (N:Nat) (Q:QT [.ag 11]) (hQ:∀ d N',N<=N'->zQc (va e fu) d->Own N N' d->Q d N'):ACalls prog 19 [.ag 11] [.dg 9 d,.int .i64 fu] N Q:=by
 have hG:=Tm.G_cnt e (by omega)
 unfold va at hQ
 refine zFd N _ fu Q λ_ M1 ah=>zBu M1 _ fu _ λ_ N1 b2=>r6 e d he (by omega) 0 N1 _ λN2 b3 _=>Br.not (λhv N3 b4=>?_) λhv N4 b5=>yx _ _ _ N4 _ λN5 Y _=>Br.not (λhb N6 ai=>?_) λhb N7 aj=>?_
 ·rw [if_neg (by rw [hv];simp)] at hQ
  exact λ_ _ M3 U=>hQ _ _ (by omega) zQB zIR
 ·rw [if_neg (by rw [hv,hb];decide)] at hQ
  exact λ_ _ M3 U=>hQ _ _ (by omega) zQB zIR
 rw [if_pos (by rw [hv,hb];rfl)] at hQ
 have b6:=xF.1 hb
 have ax:e.ok=true:=by unfold pT at hv;simp at hv;exact hv.1
 have hR:=Rch.of ax hc
 refine rt e d he hG N7 _ ?_
 obtain ⟨F,rfl⟩:∃ F:Nat,fu=(F:Int):=⟨fu.toNat,by omega⟩
 rw [oH] at hQ
 have rest:∀ (m n:Nat) (k n0:Int) (nm ot:ByteArray) (ty re:Ty) (l:List Tm) (y4 y5 y6 y7:D) (r:List D) (q N':Nat),M1<=N'->n+m=F->Rch (.mk k nm ot n0 ty re l)->Tm.Hd nm ot ty re y4 y5 y6 y7->All2 Tm.Is l r->OwnL N N' ([y4,y5,y6,y7]++r)->(∀ d N',N<=N'->zQc (zEy m n (.mk k nm ot n0 ty re l)).1 d->Own N N' d->Q d N') ->
   xw (λx N2=>M1<=N2->Bel N2 x->∀ N3,N2<=N3->Q x N3) M1 (F:Nat) n 0 0 (bytes []) (bytes []) 0 0 none [] 0 0 none [] 0 none [] 0 0 k nm ot n0 y4 y5 y6 y7 r.length q r q N':=by
  intro m
  induction m with
  | zero=>
    intro n k n0 nm ot ty re l y4 y5 y6 y7 r q N' ay hn hx hH hA hO I
    have az:=hA.len
    have a6:=hx.g.2.2.1
    have a7:=hx.s
    rw [rq] at I
    refine sf _ _ _ _ _ _ _ _ _ _ _ _ _ _ _ _ _ _ _ _ _ _ _ _ _ _ _ _ _ _ _ _ _ _ ⟨⟨rfl,rfl⟩,⟨rfl,rfl⟩,λa2 N5 Y ab N6 ai=>?_⟩
    have hf:=ab.mono ah (oD _)
    have J:(Tm.mk k nm ot n0 ty re l).Is (.ag [.lit (.int .i64 k),.lit (.string nm),.lit (.string ot),.lit (.int .i64 n0),y4,y5,y6,y7,.sl a2 9 r q]):=Tm.is_mk.2 ⟨_,_,_,_,_,_,_,rfl,hH,by omega,hA⟩
    have O:=vn (v0:=.int .i64 k) (v1:=.string nm) (v2:=.string ot) (v3:=.int .i64 n0) (c:=q) hO hf Y
    refine zGg _ _ J (by omega) N6 _ λN7 aj _=>Br.dec (λh4 N8 aa=>?_) λh4 N8 aa=>?_
    ·rw [if_pos (by omega)] at I;exact λ_ _ M3 U=>I _ _ (by omega) zQB zIR
    rw [if_neg (by omega)] at I
    have hF:=hx.F (by omega)
    have a8:=hF.c
    refine v8 J hF.ok (by omega) N8 _ λN9 ba _=>Br.of (λhr bb ak=>?_) λhr=>Br.beq (λ_ al am=>?_) λac=>absurd (by omega) ac
    ·rw [if_pos hr] at I
     exact λ_ _ M3 U=>I _ _ (by omega) (zE6 J) (zMX (cs:=[_,_,_,_,_,_,_,_,_]) (O.mono (oD _) (by omega)))
    ·rw [if_neg (by rw [hr];decide)] at I
     exact λ_ _ M3 U=>I _ _ (by omega) (zE6 J) (zMX (cs:=[_,_,_,_,_,_,_,_,_]) (O.mono (oD _) (by omega)))
  | succ m ih=>
    intro n k n0 nm ot ty re l y4 y5 y6 y7 r q N' ay hn hx hH hA hO I
    have az:=hA.len
    have a6:=hx.g.2.2.1
    have a7:=hx.s
    rw [rq] at I
    refine sf _ _ _ _ _ _ _ _ _ _ _ _ _ _ _ _ _ _ _ _ _ _ _ _ _ _ _ _ _ _ _ _ _ _ ⟨⟨rfl,rfl⟩,⟨rfl,rfl⟩,λa2 N5 Y ab N6 ai=>?_⟩
    have hf:=ab.mono ah (oD _)
    have J:(Tm.mk k nm ot n0 ty re l).Is (.ag [.lit (.int .i64 k),.lit (.string nm),.lit (.string ot),.lit (.int .i64 n0),y4,y5,y6,y7,.sl a2 9 r q]):=Tm.is_mk.2 ⟨_,_,_,_,_,_,_,rfl,hH,by omega,hA⟩
    have O:=vn (v0:=.int .i64 k) (v1:=.string nm) (v2:=.string ot) (v3:=.int .i64 n0) (c:=q) hO hf Y
    refine zGg _ _ J (by omega) N6 _ λN7 aj _=>Br.dec (λh4 N8 aa=>?_) λh4 N8 aa=>?_
    ·rw [if_pos (by omega)] at I;exact λ_ _ M3 U=>I _ _ (by omega) zQB zIR
    rw [if_neg (by omega)] at I
    have hF:=hx.F (by omega)
    have a8:=hF.c
    refine v8 J hF.ok (by omega) N8 _ λN9 ba _=>Br.of (λhr bb ak=>?_) λhr=>Br.beq (λac=>absurd ac (by omega)) λ_ al am=>?_
    ·rw [if_pos hr] at I
     exact λ_ _ M3 U=>I _ _ (by omega) (zE6 J) (zMX (cs:=[_,_,_,_,_,_,_,_,_]) (O.mono (oD _) (by omega)))
    ·rw [if_neg (by rw [hr];decide)] at I
     simp only at I
     refine zGd _ _ _ J hF al _ λdy b7 bw hy _ _=>Br.beq (λh0 ao aq=>?_) λh0 ao aq=>zCr ao _ _ λb8 bz _ bc b0=>?_
     ·rw [if_pos h0] at I
      exact λ_ _ M3 U=>I _ _ (by omega) (zE6 J) (zMX (cs:=[_,_,_,_,_,_,_,_,_]) (O.mono (oD _) (by omega)))
     ·rw [if_neg h0] at I
      have ae:=hx.step (by omega)
      refine rt _ _ hy ae.g bc _ ?_
      generalize ((Tm.mk k nm ot n0 ty re l).stp (Tm.mk k nm ot n0 ty re l).dp).1=z at hy ae I
      cases z with
      | mk k2 bd bg n2 bh bi l2=>
      intro z4 z5 z6 z7 bj c2 bm b1 bn au bp _ _
      rw [i64_in _ (by omega)]
      have:=ih (n+1) k2 n2 bd bg bh bi l2 z4 z5 z6 z7 bj c2 bm (by omega) (by omega) ae bn au (bp.mono (by omega) (oD _)) I
      simpa using this
 cases e with
 | mk k nm ot n0 ty re l=>
 intro x4 x5 x6 x7 bq c' N8 aa bt aw bv _ _
 exact rest F 0 k n0 nm ot ty re l x4 x5 x6 x7 bq c' N8 (by omega) (by omega) hR bt aw (bv.mono (by omega) (oD _)) hQ
end Go.Proofs.YtfajiphkncipoaaGreatDoor
