/- Steps: the reference's, of all forms; Step. -/
import Derived.Test.YtnmnahkkcfghjaaGreatB1
set_option linter.unusedVariables false
set_option linter.unusedSimpArgs false
namespace Go.Proofs.YtnmnahkkcfghjaaGreat
open Go Go.Proofs Go.Proofs.Tryz Go.IntWalk
/-- what a substitution makes is not too great for another -/
theorem zTI {e b:Tm} {x:ByteArray} {f g:Nat} (I:e.F f) (J:b.F g):(e.sb x b).Z:=by
 have O:=zO7 e.dp e x b (oD _) (zSp _ I.ok)
 have U:=I.w
 have Y:=J.w
 have h4:=b.fv_wd
 exact ⟨zPO _ _ _ _ I.g J.g,by unfold Tm.sb;omega,zPG _ _ _ _ I.z.v J.z.v⟩
theorem zBr {e b:Tm} {d I:D} (J:e.Is d) (O:b.Is I) (x:ByteArray) (U:e.Z) (Y:b.Z):zRB 101 [.dg 9 d,.str x,.dg 9 I] (e.sb x b):=zD7 e.dp e d x b I J O (oD _) U Y
/-- the step of a form whose parts are searched -/
def zO6 (f:Nat):Tm->Nat->Tm × Int
 | .mk k nm ot n ty re l,m=>match goS (Tm.stp f) (.mk k nm ot n ty re l) (l.take m) 0 with
   | some r=>r
   | none=>(Tm.mk k nm ot n ty re l).apl
theorem zN7 {f:Nat} (hS:zQf 45 f) {n0:Int} {nm ot:ByteArray} {ty re:Ty} {l:List Tm} {d:D} (hd:(Tm.mk 7 nm ot n0 ty re l).Is d) (hF:(Tm.mk 7 nm ot n0 ty re l).F (f+1)) :
  zLy 76 [.dg 9 d] (zO6 f (Tm.mk 7 nm ot n0 ty re l) l.length):=λN Q hQ=>by
 have ai:=hd
 obtain ⟨t0,t1,r0,r1,a,es,c,rfl,hh,aj,Y⟩:=Tm.is_mk.1 hd
 have hl:=Y.len
 have a5:=(vp hF.ok).2.1 (.inl rfl)
 simp only [zO6,List.take_length] at hQ
 have e2:(es.length:Int)=2:=by omega
 refine zFa N _ Q λ_=>⟨_,_,_,rfl,⟨by omega,by omega⟩,?_⟩
 refine up Y aj (λi xs=>∀ N',N<=N'->(∀ r:Tm × Int,(match goS (Tm.stp f) (Tm.mk 7 nm ot n0 ty re l) xs i with | some r=>r | none=>(Tm.mk 7 nm ot n0 ty re l).apl)=r->∀ d N'',N<=N''->r.1.Is d->Q d r.2 N'') ->
  wC Q N i (.ag [.j 7,.t nm,.t ot,.j n0,t0,t1,r0,r1,.sl a 9 es c]) 0 (bytes []) (bytes []) 0 0 none [] 0 0 none [] 0 none [] 0 (List.getD es 0 default) N') ?_ ?_ N (oD _) (λr I d N'' h1 h2=>by rw [<-I];rw [<-I] at h2;exact hQ d N'' h1 h2)
 ·intro i aa hi N' am I
  have I:=I _ rfl
  simp only [goS,Tm.apl] at I
  rw [if_neg (by decide),if_neg (by decide),if_pos trivial] at I
  refine s6 _ _ _ _ _ _ _ _ _ _ _ _ _ _ _ _ _ _ _ _ _ ?_
  rw [<-e2,aa]
  have ab:=v6 Y (j:=0) (by omega)
  have ac:=v6 Y (j:=1) (by omega)
  have O:=hF.mem _ (zU (l:=l) (i:=0) (by omega))
  have ae:=hF.mem _ (zU (l:=l) (i:=1) (by omega))
  generalize l.getD 0 tm0=p at ab O I
  generalize l.getD 1 tm0=q at ac ae I
  have ak:=ab
  cases p with
  | mk pk pn po pm pt pr pl=>
  obtain ⟨u0,u1,v0,v1,a2,a6,c2,heq,a7,ao,U⟩:=Tm.is_mk.1 ab
  have a8:=U.len
  rw [heq] at ak ⊢
  have one:(pk=6\/pk=9)->pl.length=1:=λh=>(vp O.ok).1 (by omega)
  have ah:pl.length=1->(pl.getD 0 tm0).F f:=λh=>((O.up (g:=f+1) (by omega)).mem _ (zU (l:=pl) (i:=0) (by omega)))
  refine ⟨_,rfl,Br.beq (λh6=>?_) λh6=>Br.beq (λh9=>?_) λh9 a9 ax=>?_⟩
  ·have h1:=one (.inl h6)
   rw [if_pos (show (Tm.mk pk pn po pm pt pr pl).kd=6 from h6)] at I
   refine ⟨_,_,_,rfl,⟨by omega,by omega⟩,_,rfl,_,_,_,rfl,⟨by omega,by omega⟩,λN6 ba=>?_⟩
   exact zBr (v6 U (j:=0) (by omega)) ac pn (ah h1).z ae.z N6 _ λdx N7 bb hx _ _ _ N8 bc=>I _ _ (by omega) hx
  ·have h1:=one (.inr h9)
   rw [if_neg (show ¬(Tm.mk pk pn po pm pt pr pl).kd=6 from h6),if_pos (show (Tm.mk pk pn po pm pt pr pl).kd=9 from h9)] at I
   refine ⟨_,_,_,rfl,⟨by omega,by omega⟩,_,rfl,_,rfl,_,_,_,rfl,⟨by omega,by omega⟩,λN9 bg=>?_⟩
   refine zBr (v6 U (j:=0) (by omega)) ak pn (ah h1).z O.z N9 _ λdx bh ay hx _ _ _ aq az=>?_
   exact zBr hx ac po (zTI (ah h1) O) ae.z aq _ λdy bi a3 hy _ _ _ bj a4=>I _ _ (by omega) hy
  ·rw [if_neg (show ¬(Tm.mk pk pn po pm pt pr pl).kd=6 from h6),if_neg (show ¬(Tm.mk pk pn po pm pt pr pl).kd=9 from h9)] at I
   exact I _ _ (by omega) ai
 ·intro i x xs J bm au N' am I
  have hb:=J.b
  have aw:i<l.length:=(oC.1 J.g).1
  obtain rfl:l.getD i tm0=x:=by rw [oA,J.g];rfl
  have al:=hF.mem _ J.m
  have aa:=J.lt
  rw [e2] at aa
  refine s6 _ _ _ _ _ _ _ _ _ _ _ _ _ _ _ _ _ _ _ _ _ ?_
  rw [aa,oK,J.w]
  refine ⟨_,_,_,rfl,⟨by omega,by omega⟩,λN1 bp=>zi J.r al.ok al.dp N1 _ λN2 bq _=>Br.not (λhv N3 bt=>?_) λhv=>?_⟩
  ·have I:=I _ rfl
   simp only [goS] at I
   rw [if_neg (by rw [hv];decide)] at I
   exact zEu hS ai hF aw N3 _ λdx N4 bv hx _ _ N5 bw=>I _ _ (by omega) hx
  ·rw [zEw hv] at I
   exact au _ (by omega) I
theorem zOI {l:List Tm} (h:0<l.length):l.take 1=[l.getD 0 tm0]:=by
 cases l with
 | nil=>simp at h
 | cons x xs=>rfl
/-- the number of a literal's cells -/
theorem zLP {k n:Int} {nm ot:ByteArray} {ty re:Ty} {l:List Tm} (h:(Tm.mk k nm ot n ty re l).ok=true) (U:k=2\/k=3):(Tm.mk k nm ot n ty re l).cnt<=1073741824:=by
 have nd:=wT h
 have Y:=(vp h).2.2.2.1 (.inr U)
 have:l=[]:=oP Y
 subst this
 have O:∀ t:Ty,t.zero=true->t.cnt<=30:=λt J=>by
  cases t with
  | mk k l=>
  simp only [Ty.zero,Ty.k,Ty.as,oG,nK] at J
  have:l=[]:=oP (by omega)
  subst this
  simp [Ty.cnt,zG]
 have v1:∀ t:Ty,t.valid=true->t.cnt<=30:=λt J=>Ty.valid_cnt J
 have I:=nd.f
 simp only [zJ,oG,nK,mJ] at I
 have aa:ty.cnt<=30:=by
  rcases I.2.1 with h | h
  ·exact v1 _ (by rw [<-I.1,h])
  ·exact O _ h
 have ab:re.cnt<=30:=by
  rcases I.2.2.2.1 with h | h
  ·exact v1 _ (by rw [<-I.2.2.1];simpa using h)
  ·exact O _ h
 simp only [Tm.cnt,zI]
 omega
theorem zKr (k:Int) {p:Tm} {d:D} (h:p.Is d) (hc:p.cnt<=1073741824) (a:Option Addr) (N:Nat) (Q:QT [.ag 9]) (I:∀ d' N',N<=N'->(Tm.nod k [p]).Is d'->Own N N' d'->Q d' N') :
 ACalls prog 67 [.ag 9] [.j k,.sv a 9 [d] 1] N Q:=zBx k (l:=[p]) (es:=[d]) ⟨d,[],rfl,h,rfl⟩ (by simp) (by simpa using hc) a 1 N Q I
/-- a form whose first part is searched -/
theorem zBu {f:Nat} (hS:zQf 45 f) {k n0:Int} {nm ot:ByteArray} {ty re:Ty} {l:List Tm} {d:D} (hk:k=5\/k=8\/k=12\/k=13) (hd:(Tm.mk k nm ot n0 ty re l).Is d) (hF:(Tm.mk k nm ot n0 ty re l).F (f+1)) :
  zLy 79 [.dg 9 d] (zO6 f (Tm.mk k nm ot n0 ty re l) 1):=λN Q I=>by
 have aa:=hd
 obtain ⟨t0,t1,r0,r1,a,es,c,rfl,hh,a8,ab⟩:=Tm.is_mk.1 hd
 have hl:=ab.len
 have ac:0<l.length:=by
  obtain ⟨a1,a2,a3,_⟩:=vp hF.ok
  rcases hk with h | h | h | h
  ·have:=a3 h;omega
  ·have:=a2 (.inr h);omega
  ·have:=a1 (by omega);omega
  ·have:=a1 (by omega);omega
 have ae:=v6 ab ac
 have J:=hF.mem _ (zU ac)
 simp only [zO6] at I
 rw [zOI ac] at I
 simp only [goS] at I
 refine zFl N _ Q λ_=>⟨_,_,_,rfl,⟨by omega,by omega⟩,λN1 ba=>zi ae J.ok J.dp N1 _ λN2 bb _=>Br.not (λhv N3 bc=>?_) λhv=>?_⟩
 ·rw [if_neg (by rw [hv];decide)] at I
  exact zEu hS aa hF ac N3 _ λdx N4 aw hx _ _ N5 ax=>I _ _ (by omega) hx
 rw [if_pos hv] at I
 simp only [Tm.apl] at I
 generalize bg:l.getD 0 tm0=p at ae J hv I
 have ai:=ae
 have am:=λh=>zIS J.ok h
 cases p with
 | mk pk O U pm pt pr Y=>
 obtain ⟨u0,u1,v0,v1,a2,ay,c2,heq,bh,az,ah⟩:=Tm.is_mk.1 ae
 have bi:=ah.len
 simp only [Tm.kd,Tm.no] at am
 rw [heq] at ai ⊢
 have lift:∀ (N:Nat) (a:Option Addr) (N':Nat) (hN:N2<=N) (_:ux N [a]) (_:(Tm.mk pk O U pm pt pr Y).cnt<=1073741824),(∀ d N',N2<=N'->(Tm.nod 10 [Tm.mk pk O U pm pt pr Y]).Is d->Q d 8 N') ->
   ACalls prog 67 [.ag 9] [.j 10,.sv a 9 [.ag [.j pk,.t O,.t U,.j pm,u0,u1,v0,v1,.sl a2 9 ay c2]] 1] N (λx N7=>N<=N7->Off [a] x/\(Bel N7 x->∀ N8,N7<=N8->Q x 8 N8)):=λN3 a N' hN hb a4 hq=>
  zKr 10 ai a4 a N3 _ λdx N4 aw hx ho _=>⟨uD hb ho,λ_ N5 ax=>hq _ _ (by omega) hx⟩
 rcases hk with rfl | rfl | rfl | rfl
 ·have bj:=(vp hF.ok).2.2.1 rfl
  rw [if_neg (by decide),if_pos rfl] at I
  refine ⟨_,rfl,Br.beq (λ_=>⟨_,rfl,Br.beq (λh3=>?_) λh3=>?_⟩) (λh=>absurd rfl h)⟩
  ·have hn:=am h3
   rw [if_pos (show (Tm.mk pk O U pm pt pr Y).kd=3 from h3)] at I
   have hw:IntKind.i64.wrap (2 - pm)=2 - pm:=i64_in _ (by omega)
   refine ⟨_,_,_,rfl,_,rfl,?_⟩
   rw [hw]
   refine ⟨⟨by omega,by omega⟩,λN6 ao=>?_⟩
   refine zLI s5 (v6 ab (j:=(2 - pm).toNat) (by omega)) (yK hF.z.g.2.2.2 (zU (by omega))) (N0:=N) (by omega) (λd N=>Q d 2 N) λd' N7 aq aj _=>I _ _ (by omega) aj
  ·rw [if_neg (show ¬(Tm.mk pk O U pm pt pr Y).kd=3 from h3)] at I
   repeat' first | refine ⟨_,rfl,?_⟩ | refine Br.beq (λh=>absurd h (by decide)) λ_=>?_
   all_goals exact λN hN=>I _ _ (by omega) aa
 ·have bm:=(vp hF.ok).2.1 (.inr rfl)
  rw [if_neg (by decide),if_neg (by decide),if_neg (by decide),if_pos rfl] at I
  have a5:=hF.mem _ (zU (l:=l) (i:=1) (by omega))
  have a7:=v6 ab (j:=1) (by omega)
  repeat' first | refine ⟨_,rfl,?_⟩ | refine Br.beq (λh=>absurd h (by decide)) λ_=>?_ | refine Br.beq (λ_=>?_) (λh=>absurd rfl h)
  all_goals
   refine ⟨_,_,_,rfl,⟨by omega,by omega⟩,_,rfl,λN6 ao=>?_⟩
   exact zBr a7 ai nm a5.z J.z N6 _ λdx N7 aq hx _ _ _ N8 bp=>I _ _ (by omega) hx
 ·rw [if_neg (by decide),if_neg (by decide),if_neg (by decide),if_neg (by decide),if_pos rfl] at I
  repeat' first | refine ⟨_,rfl,?_⟩ | refine Br.beq (λh=>absurd h (by decide)) λ_=>?_ | refine Br.beq (λ_=>?_) (λh=>absurd rfl h)
  all_goals
   refine Br.beq (λak=>?_) λak=>?_
   ·rw [if_pos (show (Tm.mk pk O U pm pt pr Y).kd=10 from ak)] at I
    have h1:=(vp J.ok).1 (by omega)
    refine ⟨_,_,_,rfl,⟨by omega,by omega⟩,λN6 ao=>?_⟩
    refine zLI s5 (v6 ah (j:=0) (by omega)) (yK J.z.g.2.2.2 (zU (by omega))) (N0:=N) (by omega) (λd N=>Q d 7 N) λd' N7 aq aj _=>I _ _ (by omega) aj
   ·rw [if_neg (show ¬(Tm.mk pk O U pm pt pr Y).kd=10 from ak)] at I
    repeat' first | refine ⟨_,rfl,?_⟩ | refine Br.beq (λh=>absurd h (by decide)) λ_=>?_
    all_goals exact λN hN=>I _ _ (by omega) aa
 ·rw [if_neg (by decide),if_neg (by decide),if_neg (by decide),if_neg (by decide),if_neg (by decide),if_pos rfl] at I
  repeat' first | refine ⟨_,rfl,?_⟩ | refine Br.beq (λh=>absurd h (by decide)) λ_=>?_ | refine Br.beq (λ_=>?_) (λh=>absurd rfl h)
  all_goals
   refine Br.beq (λh2=>⟨⟨rfl,rfl⟩,λa6 _ al au hb=>?_⟩) λh2=>⟨_,rfl,Br.beq (λh3=>⟨⟨rfl,rfl⟩,λa6 _ al au hb=>?_⟩) λh3 bq a9=>?_⟩
   ·rw [if_pos (show (Tm.mk pk O U pm pt pr Y).kd=2\/(Tm.mk pk O U pm pt pr Y).kd=3 from .inl h2)] at I
    exact lift al a6 0 (by omega) hb (zLP J.ok (.inl h2)) λd N' h1 h2=>I _ _ (by omega) h2
   ·rw [if_pos (show (Tm.mk pk O U pm pt pr Y).kd=2\/(Tm.mk pk O U pm pt pr Y).kd=3 from .inr h3)] at I
    exact lift al a6 0 (by omega) hb (zLP J.ok (.inr h3)) λd N' h1 h2=>I _ _ (by omega) h2
   ·rw [if_neg (show ¬((Tm.mk pk O U pm pt pr Y).kd=2\/(Tm.mk pk O U pm pt pr Y).kd=3) from λh=>h.elim h2 h3)] at I
    exact I _ _ (by omega) aa
theorem zCI:∀ f,zQf 45 f
 | 0=>λe d _ U=>absurd (Tm.dp_pos e) (by have:=U.d;omega)
 | f+1=>λe d hd U N Q hQ=>by
   have ih:=zCI f
   cases e with
   | mk k nm ot n0 ty re l=>
   have I:=hd
   obtain ⟨t0,t1,r0,r1,a,es,c,rfl,hh,am,ah⟩:=Tm.is_mk.1 hd
   have hl:=ah.len
   simp only [Tm.stp] at hQ
   refine zDy N _ Q λ_ N1 ay=>zi I U.ok U.dp N1 _ λN2 az _=>Br.of (λhv N3 a2=>?_) λhv=>⟨_,rfl,?_⟩
   ·rw [if_pos hv] at hQ
    exact hQ _ _ (by omega) I
   rw [if_neg (by rw [hv];decide)] at hQ
   have other:k≠10->∀ m,qQ k l.length=m->∀ d N',N<=N'->(zO6 f (Tm.mk k nm ot n0 ty re l) m).1.Is d->Q d (zO6 f (Tm.mk k nm ot n0 ty re l) m).2 N':=λhk m hm=>by
    rw [if_neg (show ¬(Tm.mk k nm ot n0 ty re l).kd=10 from hk),hm] at hQ
    exact hQ
   refine Br.beq (λh4 N4 Y=>?_) λh4=>Br.beq (λh7 N4 Y=>?_) λh7=>Br.beq (λO=>?_) λO=>Br.beq (λh5 N4 Y=>?_) λh5=>Br.beq (λh8 N4 Y=>?_) λh8=>Br.beq (λaa N4 Y=>?_) λaa=>Br.beq (λab N4 Y=>?_) λab N4 Y=>?_
   ·subst h4
    have J:=other (by decide) l.length (by simp [qQ])
    simp only [zO6,List.take_length,Tm.apl,mV] at J
    exact zPe ih I U rfl N4 _ λx N5 ac hx _ _ N6 ae=>J _ _ (by omega) hx
   ·subst h7
    have J:=other (by decide) l.length (by simp [qQ])
    exact zN7 ih I U N4 _ λx N5 ac hx _ _ N6 ae=>J _ _ (by omega) hx
   ·rw [if_pos (by exact O)] at hQ
    have a3:=(vp U.ok).1 (by omega)
    have ai:=zU (l:=l) (i:=0) (by omega)
    refine ⟨_,_,_,rfl,⟨by omega,by omega⟩,λaj ao=>?_⟩
    have a4:=dp_mem (k:=k) (nm:=nm) (ot:=ot) (n:=n0) (ty:=ty) (re:=re) ai
    have a5:=U.dp
    refine zMc ih _ _ (v6 ah (j:=0) (by omega)) ((U.mem _ ai).up (by omega)) 1 (by unfold LvIn;omega) aj _ λdx a6 aq hx _ _ ak au=>?_
    exact zCZ I U.z.g hx (i:=0) (by simp only [Tm.as];omega) ak _ λd' a7 aw al _ _ a8 ax=>hQ _ _ (by omega) al
   ·have J:=other O 1 (by simp [qQ,h4,h7,h5])
    exact zBu ih (.inl h5) I U N4 _ λx N5 ac hx _ _ N6 ae=>J _ _ (by omega) hx
   ·have J:=other O 1 (by simp [qQ,h4,h7,h8])
    exact zBu ih (.inr (.inl h8)) I U N4 _ λx N5 ac hx _ _ N6 ae=>J _ _ (by omega) hx
   ·have J:=other O 1 (by simp [qQ,h4,h7,aa])
    exact zBu ih (.inr (.inr (.inl aa))) I U N4 _ λx N5 ac hx _ _ N6 ae=>J _ _ (by omega) hx
   ·have J:=other O 1 (by simp [qQ,h4,h7,ab])
    exact zBu ih (.inr (.inr (.inr ab))) I U N4 _ λx N5 ac hx _ _ N6 ae=>J _ _ (by omega) hx
   ·have J:=other O 0 (by simp [qQ,h4,h7,h5,h8,aa,ab])
    simp only [zO6,mn,goS,Tm.apl] at J
    rw [if_neg h4,if_neg h5,if_neg h7,if_neg h8,if_neg aa,if_neg ab] at J
    exact J _ _ (by omega) I
theorem zQ9:tm0.Is (.ag [.j 0,.t (bytes []),.t (bytes []),.j 0,.j 0,.sl none 2 [] 0,.j 0,.sl none 2 [] 0,.sl none 9 [] 0]):=
 Tm.is_mk.2 ⟨_,_,_,_,_,_,_,rfl,⟨by decide,by decide,yz _,yz _⟩,by simp,rfl⟩
end Go.Proofs.YtnmnahkkcfghjaaGreat
