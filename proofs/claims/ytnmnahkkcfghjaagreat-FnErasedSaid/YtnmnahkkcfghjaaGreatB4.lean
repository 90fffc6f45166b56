/- Steps one behind the other: sizes, and the term after some steps. -/
import Derived.Test.YtnmnahkkcfghjaaGreatB3
import Derived.Test.YtnmnahkkcfghjaaGreatB2
import Derived.Test.YtnmnahkkcfghjaaGreatKi
import Derived.Test.YtnmnahkkcfghjaaGreatKh
set_option linter.unusedVariables false
set_option linter.unusedSimpArgs false
namespace Go.Proofs.YtnmnahkkcfghjaaGreat
open Go Go.Proofs Go.Proofs.Tryz Go.IntWalk
theorem zAR:∀ (t:Tm) (d:D),t.Is d->t.sz<=9223372036854775807->zGX 43 [.dg 9 d] t.sz:=by
 refine Tm.ind λk nm ot n0 ty re l ih d hd hc N Q hQ=>?_
 obtain ⟨t0,t1,r0,r1,a,es,c,rfl,hh,J,O⟩:=Tm.is_mk.1 hd
 simp only [Tm.sz] at hc
 refine zFZ N _ Q λ_=>?_
 refine up O J (λi xs=>∀ (m:Nat) (N':Nat),N<=N'->m+zg xs=1+zg l->wG Q N m i (.ag [.j k,.t nm,.t ot,.j n0,t0,t1,r0,r1,.sl a 9 es c]) N') ?_ ?_ 1 N (oD _) rfl
 ·intro i U _ m N' Y hm
  refine sH _ _ _ _ _ _ ⟨_,_,_,rfl,?_⟩
  simp only [zg] at hm
  rw [U]
  exact λN2 aa=>Qi (hQ _ (by omega)) (by simp only [Tm.sz];omega)
 ·intro i x xs I _ ab m N' Y hm
  have hb:=I.b
  have ac:=wl I.m
  simp only [zg] at hm
  refine sH _ _ _ _ _ _ ⟨_,_,_,rfl,?_⟩
  rw [I.lt,I.w,oK]
  refine ⟨_,_,_,rfl,⟨by omega,by omega⟩,λN1 ae=>ih x I.m _ I.r (by omega) N1 _ λN2 aa _=>?_⟩
  rw [i64_in _ (by omega)]
  have:=ab (m+x.sz) N2 (by omega) (by omega)
  simpa using this
/-- a term's types are small -/
theorem zR3:∀ t:Tm,t.ok=true->t.cnt<=61*t.sz:=by
 refine Tm.ind λk nm ot n ty re l ih h=>?_
 obtain ⟨h1,I,h3⟩:=Tm.ok_mk.1 h
 have Y:∀ t:Ty,t.zero=true->t.cnt<=30:=λt J=>by
  cases t with
  | mk k l=>
  simp only [Ty.zero,Ty.k,Ty.as,oG,nK] at J
  have:l=[]:=oP (by omega)
  subst this
  simp [Ty.cnt,zG]
 have v1:∀ t:Ty,t.valid=true->t.cnt<=30:=λt J=>by
  simp only [Ty.valid,oG,o3] at J
  exact J.1.1
 simp only [zJ,oG,nK,mJ] at I
 have aa:ty.cnt<=30:=by
  rcases I.2.1 with h | h
  ·exact v1 _ (by rw [<-I.1,h])
  ·exact Y _ h
 have ab:re.cnt<=30:=by
  rcases I.2.2.2.1 with h | h
  ·exact v1 _ (by rw [<-I.2.2.1];simpa using h)
  ·exact Y _ h
 have key:∀ xs:List Tm,(∀ x∈xs,x∈l)->zI xs<=61*zg xs:=by
  intro xs
  induction xs with
  | nil=>intro _;exact oD _
  | cons x xs O=>
    intro U
    have a1:=ih x (U x (by simp)) (h1 x (U x (by simp)))
    have a2:=O λy hy=>U y (by simp [hy])
    simp only [zI,zg];omega
 have:=key l λx hx=>hx
 simp only [Tm.cnt,Tm.sz];omega
/-- a term that is reached by steps -/
structure Rch (x:Tm):Prop where
 g:x.G
 s:x.sz<=64482000
 o:x.sz<=400->x.ok=true
theorem Rch.F {x:Tm} (h:Rch x) (hs:x.sz<=400):x.F x.dp:=Tm.F.of (h.o hs) (oD _) (by have:=zR3 x (h.o hs);omega)
theorem Rch.step {x:Tm} (h:Rch x) (hs:x.sz<=400):Rch (x.stp x.dp).1:=⟨zQs _ _ h.g,by have:=zOx x.dp x hs;omega,λI=>zFX _ x (oD _) (h.o hs) I⟩
theorem Rch.of {e:Tm} (I:e.ok=true) (J:e.cnt<=4000000):Rch e:=⟨Tm.G_cnt e (by omega),by have:=Tm.sz_cnt e;omega,λ_=>I⟩
/-- how a run ends, as data -/
def zRg (r:Int × Tm × Nat) (d:D):Prop:=∃ cs,d=.ag (.j r.1::(cs++[.j (r.2.2:Nat)]))/\r.2.1.Is (.ag cs)
theorem zAi (m n:Nat) (x:Tm):zBC m n x=if x.sz>400 then ((3,tm0,n),[]) else if x.res then ((1,x,n),[]) else match m with
  | 0=>((2,x,n),[])
  | m+1=>if (x.stp x.dp).2=0 then ((4,x,n),[]) else ((zBC m (n+1) (x.stp x.dp).1).1,(x.stp x.dp).2::(zBC m (n+1) (x.stp x.dp).1).2):=by
 cases m<;>rfl
theorem zIj {s:Int} {k n0:Int} {nm ot:ByteArray} {ty re:Ty} {l:List Tm} {n:Nat} {I J O U Y y5 y6 y7 y8:D} (h:(Tm.mk k nm ot n0 ty re l).Is (.ag [I,J,O,U,Y,y5,y6,y7,y8])) :
 zRg (s,Tm.mk k nm ot n0 ty re l,n) (.ag [.j s,I,J,O,U,Y,y5,y6,y7,y8,.j (n:Nat)]):=⟨_,rfl,h⟩
theorem zRH {s:Int} {n:Nat}:zRg (s,tm0,n) (.ag [.j s,.j 0,.t (bytes []),.t (bytes []),.j 0,.j 0,.sl none 2 [] 0,.j 0,.sl none 2 [] 0,.sl none 9 [] 0,.j (n:Nat)]):=⟨_,rfl,zQ9⟩
theorem Fresh.mono {N0 N1 N M:Nat} {a:Option Addr} {ds:List D} (h:Fresh N0 N a ds) (J:N1<=N0) (O:N<=M):Fresh N1 M a ds:=
 ⟨λad I=>oN J (h.lo ad I),λad I=>o7 (h.hi ad I) O,h.off,h.ap⟩
theorem Rs.cells {r:Int × Tm × Nat} {d:D} (h:zRg r d):∃ J O U Y y4 y5 y6 y7 y8,d=.ag [.j r.1,J,O,U,Y,y4,y5,y6,y7,y8,.j (r.2.2:Nat)]/\r.2.1.Is (.ag [J,O,U,Y,y4,y5,y6,y7,y8]):=by
 obtain ⟨cs,rfl,h⟩:=h
 obtain ⟨s,t,n⟩:=r
 cases t with
 | mk k nm ot n0 ty re l=>
 obtain ⟨t0,t1,r0,r1,a,es,c,I,hh,aa,ab⟩:=Tm.is_mk.1 h
 injection I with I
 subst I
 exact ⟨_,_,_,_,_,_,_,_,_,rfl,h⟩
theorem ru {e:Tm} {d:D} (he:e.Is d) (hc:e.cnt<=4000000) (fu:Int) (N:Nat) (Q:QT [.ag 11]) (O:∀ d N',N<=N'->zRg (vM e fu) d->Q d N'):ACalls prog 21 [.ag 11] [.dg 9 d,.j fu] N Q:=by
 have hG:=Tm.G_cnt e (by omega)
 unfold vM at O
 refine zDd N _ fu Q λ_ N1 ai=>zC6 e d he (by omega) 0 N1 _ λN2 aj _=>Br.not (λhv N3 ac=>?_) λhv N4 ak=>yR _ _ _ N4 _ λN5 al _=>Br.not (λhb N6 ae=>?_) λhb N7 am=>?_
 ·rw [if_neg (by rw [hv];simp)] at O
  exact O _ _ (by omega) zRH
 ·rw [if_neg (by rw [hv,hb];decide)] at O
  exact O _ _ (by omega) zRH
 rw [if_pos (by rw [hv,hb];rfl)] at O
 have bg:=vm.1 hb
 have aw:e.ok=true:=by unfold zAw at hv;simp at hv;exact hv.1
 have hR:=Rch.of aw hc
 refine s5 e d he hG N7 _ ?_
 obtain ⟨F,rfl⟩:∃ F:Nat,fu=(F:Int):=⟨fu.toNat,by omega⟩
 rw [oK] at O
 have rest:∀ (m n:Nat) (x:Tm) (dx:D) (N':Nat),N<=N'->n+m=F->Rch x->x.Is dx->(∀ d N',N<=N'->zRg (zBC m n x).1 d->Q d N')->yg Q N (F:Nat) n 0 0 (bytes []) (bytes []) 0 0 none [] 0 0 none [] 0 none [] 0 0 dx N':=by
  intro m
  induction m with
  | zero=>
    intro n x dx N' ax hn hx I J
    rw [zAi] at J
    have ao:=hx.s
    refine uE _ _ _ _ _ _ _ _ _ _ _ _ _ _ _ _ _ _ _ _ _ _ _ λN1 ai=>zAR x dx I (by omega) N1 _ λN2 aj _=>Br.dec (λh4 N3 ac=>?_) λh4 N4 ak=>?_
    ·rw [if_pos (by omega)] at J;exact J _ _ (by omega) zRH
    ·rw [if_neg (by omega)] at J
     have hF:=hx.F (by omega)
     refine zi I hF.ok hF.dp N4 _ λN5 al _=>Br.of (λU N6 ae=>?_) λU=>Br.beq (λ_ N7 am=>?_) λaa=>absurd (by omega) aa
     ·rw [if_pos U] at J
      cases x with
      | mk k nm ot n0 ty re l=>
      obtain ⟨t0,t1,r0,r1,a,es,c,rfl,hh,Y,ah⟩:=Tm.is_mk.1 I
      exact J _ _ (by omega) (zIj I)
     ·rw [if_neg (by rw [U];decide)] at J
      cases x with
      | mk k nm ot n0 ty re l=>
      obtain ⟨t0,t1,r0,r1,a,es,c,rfl,hh,Y,ah⟩:=Tm.is_mk.1 I
      exact J _ _ (by omega) (zIj I)
  | succ m ih=>
    intro n x dx N' ax hn hx I J
    rw [zAi] at J
    have ao:=hx.s
    refine uE _ _ _ _ _ _ _ _ _ _ _ _ _ _ _ _ _ _ _ _ _ _ _ λN1 ai=>zAR x dx I (by omega) N1 _ λN2 aj _=>Br.dec (λh4 N3 ac=>?_) λh4 N4 ak=>?_
    ·rw [if_pos (by omega)] at J;exact J _ _ (by omega) zRH
    ·rw [if_neg (by omega)] at J
     have hF:=hx.F (by omega)
     refine zi I hF.ok hF.dp N4 _ λN5 al _=>Br.of (λU N6 ae=>?_) λU=>Br.beq (λaa=>absurd aa (by omega)) λ_ N8 ay=>?_
     ·rw [if_pos U] at J
      cases x with
      | mk k nm ot n0 ty re l=>
      obtain ⟨t0,t1,r0,r1,a,es,c,rfl,hh,Y,ah⟩:=Tm.is_mk.1 I
      exact J _ _ (by omega) (zIj I)
     ·rw [if_neg (by rw [U];decide)] at J
      refine zCI _ _ _ I hF N8 _ λdy N9 az hy _ _=>Br.beq (λh0 aq au=>?_) λh0=>?_
      ·simp only at J
       rw [if_pos h0] at J
       cases x with
       | mk k nm ot n0 ty re l=>
       obtain ⟨t0,t1,r0,r1,a,es,c,rfl,hh,Y,ah⟩:=Tm.is_mk.1 I
       exact J _ _ (by omega) (zIj I)
      ·simp only at J
       rw [if_neg h0] at J
       rw [i64_in _ (by omega)]
       have:=ih (n+1) _ dy N9 (by omega) (by omega) (hx.step (by omega)) hy J
       simpa using this
 cases e with
 | mk k nm ot n0 ty re l=>
 intro x4 x5 x6 x7 a2 c' N8 ay a3 ab bh _ _
 have bi:=ab.len
 have bj:=hG.2.2.1
 have ao:=hR.s
 refine zBn _ _ _ _ _ _ _ _ _ _ _ _ _ _ _ _ _ _ _ _ _ _ _ _ _ _ _ _ _ _ _ _ _ _ ⟨⟨rfl,rfl⟩,⟨rfl,rfl⟩,λa1 N9 az _ aq au=>?_⟩
 have I:(Tm.mk k nm ot n0 ty re l).Is (.ag [.j k,.t nm,.t ot,.j n0,x4,x5,x6,x7,.sl a1 9 a2 c']):=Tm.is_mk.2 ⟨_,_,_,_,_,_,_,rfl,a3,by omega,ab⟩
 rw [zAi] at O
 refine zAR _ _ I (by omega) aq _ λbm a7 _=>Br.dec (λh4 N3 ac=>?_) λh4 a4 a8=>?_
 ·rw [if_pos (by omega)] at O;exact O _ _ (by omega) zRH
 rw [if_neg (by omega)] at O
 have hF:=hR.F (by omega)
 refine zi I hF.ok hF.dp a4 _ λbp a9 _=>Br.of (λU N6 ae=>?_) λU=>Br.beq (λh0 N7 am=>?_) λaa a5 ba=>?_
 ·rw [if_pos U] at O;exact O _ _ (by omega) (zIj I)
 ·rw [if_neg (by rw [U];decide)] at O
  have:F=0:=by omega
  subst this
  exact O _ _ (by omega) (zIj I)
 ·rw [if_neg (by rw [U];decide)] at O
  obtain ⟨m,rfl⟩:∃ m,F=m+1:=⟨F - 1,by omega⟩
  simp only at O
  refine zCI _ _ _ I hF a5 _ λdy a6 bb hy _ _=>Br.beq (λh0 bq bc=>?_) λh0=>?_
  ·rw [if_pos h0] at O;exact O _ _ (by omega) (zIj I)
  ·rw [if_neg h0] at O
   rw [i64_in _ (by omega)]
   exact rest m 1 _ dy a6 (by omega) (by omega) (hR.step (by omega)) hy O
end Go.Proofs.YtnmnahkkcfghjaaGreat
