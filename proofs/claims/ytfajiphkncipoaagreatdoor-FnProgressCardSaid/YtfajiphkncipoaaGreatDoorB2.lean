/- Steps: the reference's, of all forms; Step. -/
import Derived.Test.YtfajiphkncipoaaGreatDoorB1
set_option linter.unusedVariables false
set_option linter.unusedSimpArgs false
namespace Go.Proofs.YtfajiphkncipoaaGreatDoor
open Go Go.Proofs Go.Proofs.Tryz Go.IntWalk
/-- what a substitution makes is not too great for another -/
theorem zS5 {e b:Tm} {x:ByteArray} {f g:Nat} (I:e.F f) (J:b.F g):(e.sb x b).Z:=by
 have O:=zNe e.dp e x b (oD _) (zNP _ I.ok)
 have U:=I.w
 have Y:=J.w
 have h4:=b.fv_wd
 exact ⟨zOC _ _ _ _ I.g J.g,by unfold Tm.sb;omega,zRP _ _ _ _ I.z.v J.z.v⟩
theorem zCa {e b:Tm} {d I:D} (J:e.Is d) (O:b.Is I) (x:ByteArray) (U:e.Z) (Y:b.Z):zQO 122 [.dg 9 d,.str x,.dg 9 I] (e.sb x b):=zFL e.dp e d x b I J O (oD _) U Y
/-- the step of a form whose parts are searched -/
def zPv (f:Nat):Tm->Nat->Tm × Int
 | .mk k nm ot n ty re l,m=>match goS (Tm.stp f) (.mk k nm ot n ty re l) (l.take m) 0 with
   | some r=>r
   | none=>(Tm.mk k nm ot n ty re l).apl
theorem zO0 {f:Nat} (hS:zPx 41 f) {n0:Int} {nm ot:ByteArray} {ty re:Ty} {l:List Tm} {d:D} (hd:(Tm.mk 7 nm ot n0 ty re l).Is d) (hF:(Tm.mk 7 nm ot n0 ty re l).F (f+1)) :
  zJh 76 [.dg 9 d] (zPv f (Tm.mk 7 nm ot n0 ty re l) l.length):=λN Q hQ=>by
 have ai:=hd
 obtain ⟨t0,t1,r0,r1,a,es,c,rfl,hh,aj,Y⟩:=Tm.is_mk.1 hd
 have hl:=Y.len
 have a8:=(xH hF.ok).2.1 (.inl rfl)
 simp only [zPv,List.take_length] at hQ
 have e2:(es.length:Int)=2:=by omega
 refine zGe N _ Q λ_=>⟨_,_,_,rfl,⟨by omega,by omega⟩,?_⟩
 refine up Y aj (λi xs=>∀ N',N<=N'->(∀ r:Tm × Int,(match goS (Tm.stp f) (Tm.mk 7 nm ot n0 ty re l) xs i with | some r=>r | none=>(Tm.mk 7 nm ot n0 ty re l).apl)=r->∀ d N'',N<=N''->r.1.Is d->Q d r.2 N'') ->
  wN Q N i (.ag [.j 7,.t nm,.t ot,.j n0,t0,t1,r0,r1,.sl a 9 es c]) 0 (bytes []) (bytes []) 0 0 none [] 0 0 none [] 0 none [] 0 (List.getD es 0 default) N') ?_ ?_ N (oD _) (λr I d N'' h1 h2=>by rw [<-I];rw [<-I] at h2;exact hQ d N'' h1 h2)
 ·intro i aa hi N' am I
  have I:=I _ rfl
  simp only [goS,Tm.apl] at I
  rw [if_neg (by decide),if_neg (by decide),if_pos trivial] at I
  refine rZ _ _ _ _ _ _ _ _ _ _ _ _ _ _ _ _ _ _ _ _ _ ?_
  rw [<-e2,aa]
  have ab:=yK Y (j:=0) (by omega)
  have ac:=yK Y (j:=1) (by omega)
  have O:=hF.mem _ (zJ (l:=l) (i:=0) (by omega))
  have ae:=hF.mem _ (zJ (l:=l) (i:=1) (by omega))
  generalize l.getD 0 tm0=p at ab O I
  generalize l.getD 1 tm0=q at ac ae I
  have ak:=ab
  cases p with
  | mk pk pn po pm pt pr pl=>
  obtain ⟨u0,u1,v0,v1,a2,ba,c2,heq,bb,ao,U⟩:=Tm.is_mk.1 ab
  have bc:=U.len
  rw [heq] at ak ⊢
  have one:(pk=6\/pk=9)->pl.length=1:=λh=>(xH O.ok).1 (by omega)
  have ah:pl.length=1->(pl.getD 0 tm0).F f:=λh=>((O.up (g:=f+1) (by omega)).mem _ (zJ (l:=pl) (i:=0) (by omega)))
  refine ⟨_,rfl,Br.beq (λh6=>?_) λh6=>Br.beq (λh9=>?_) λh9 bd ax=>?_⟩
  ·have h1:=one (.inl h6)
   rw [if_pos (show (Tm.mk pk pn po pm pt pr pl).kd=6 from h6)] at I
   refine ⟨_,_,_,rfl,⟨by omega,by omega⟩,_,rfl,_,_,_,rfl,⟨by omega,by omega⟩,λN6 bg=>?_⟩
   exact zCa (yK U (j:=0) (by omega)) ac pn (ah h1).z ae.z N6 _ λdx N7 bh hx _ _ _ N8 bi=>I _ _ (by omega) hx
  ·have h1:=one (.inr h9)
   rw [if_neg (show ¬(Tm.mk pk pn po pm pt pr pl).kd=6 from h6),if_pos (show (Tm.mk pk pn po pm pt pr pl).kd=9 from h9)] at I
   refine ⟨_,_,_,rfl,⟨by omega,by omega⟩,_,rfl,_,rfl,_,_,_,rfl,⟨by omega,by omega⟩,λN9 bj=>?_⟩
   refine zCa (yK U (j:=0) (by omega)) ak pn (ah h1).z O.z N9 _ λdx bm ay hx _ _ _ aq az=>?_
   exact zCa hx ac po (zS5 (ah h1) O) ae.z aq _ λdy bn a6 hy _ _ _ bp a7=>I _ _ (by omega) hy
  ·rw [if_neg (show ¬(Tm.mk pk pn po pm pt pr pl).kd=6 from h6),if_neg (show ¬(Tm.mk pk pn po pm pt pr pl).kd=9 from h9)] at I
   exact I _ _ (by omega) ai
 ·intro i x xs J bq au N' am I
  have hb:=J.b
  have aw:i<l.length:=(oC.1 J.g).1
  obtain rfl:l.getD i tm0=x:=by rw [oA,J.g];rfl
  have al:=hF.mem _ J.m
  have aa:=J.lt
  rw [e2] at aa
  refine rZ _ _ _ _ _ _ _ _ _ _ _ _ _ _ _ _ _ _ _ _ _ ?_
  rw [aa,oH,J.w]
  refine ⟨_,_,_,rfl,⟨by omega,by omega⟩,λN1 bt=>yQ J.r al.ok al.dp N1 _ λN2 bv _=>Br.not (λhv N3 bw=>?_) λhv=>?_⟩
  ·have I:=I _ rfl
   simp only [goS] at I
   rw [if_neg (by rw [hv];decide)] at I
   exact zF2 hS ai hF aw N3 _ λdx N4 bz hx _ _ N5 b1=>I _ _ (by omega) hx
  ·rw [zCc hv] at I
   exact au _ (by omega) I
theorem zPA {l:List Tm} (h:0<l.length):l.take 1=[l.getD 0 tm0]:=by
 cases l with
 | nil=>simp at h
 | cons x xs=>rfl
/-- the number of a literal's cells -/
theorem zMe {k n:Int} {nm ot:ByteArray} {ty re:Ty} {l:List Tm} (h:(Tm.mk k nm ot n ty re l).ok=true) (U:k=2\/k=3):(Tm.mk k nm ot n ty re l).cnt<=1073741824:=by
 have nd:=yz h
 have Y:=(xH h).2.2.2.1 (.inr U)
 have:l=[]:=oU Y
 subst this
 have O:∀ t:Ty,t.zero=true->t.cnt<=30:=λt J=>by
  cases t with
  | mk k l=>
  simp only [Ty.zero,Ty.k,Ty.as,oJ,nj] at J
  have:l=[]:=oU (by omega)
  subst this
  simp [Ty.cnt,zK]
 have v1:∀ t:Ty,t.valid=true->t.cnt<=30:=λt J=>Ty.valid_cnt J
 have I:=nd.f
 simp only [zU,oJ,nj,mf] at I
 have aa:ty.cnt<=30:=by
  rcases I.2.1 with h | h
  ·exact v1 _ (by rw [<-I.1,h])
  ·exact O _ h
 have ab:re.cnt<=30:=by
  rcases I.2.2.2.1 with h | h
  ·exact v1 _ (by rw [<-I.2.2.1];simpa using h)
  ·exact O _ h
 simp only [Tm.cnt,zM]
 omega
theorem zMF (k:Int) {p:Tm} {d:D} (h:p.Is d) (hc:p.cnt<=1073741824) (a:Option Addr) (N:Nat) (Q:QT [.ag 9]) (I:∀ d' N',N<=N'->(Tm.nod k [p]).Is d'->Own N N' d'->Q d' N') :
 ACalls prog 87 [.ag 9] [.j k,.sv a 9 [d] 1] N Q:=zCm k (l:=[p]) (es:=[d]) ⟨d,[],rfl,h,rfl⟩ (by simp) (by simpa using hc) a 1 N Q I
/-- a form whose first part is searched -/
theorem zCh {f:Nat} (hS:zPx 41 f) {k n0:Int} {nm ot:ByteArray} {ty re:Ty} {l:List Tm} {d:D} (hk:k=5\/k=8\/k=12\/k=13) (hd:(Tm.mk k nm ot n0 ty re l).Is d) (hF:(Tm.mk k nm ot n0 ty re l).F (f+1)) :
  zJh 79 [.dg 9 d] (zPv f (Tm.mk k nm ot n0 ty re l) 1):=λN Q I=>by
 have aa:=hd
 obtain ⟨t0,t1,r0,r1,a,es,c,rfl,hh,bb,ab⟩:=Tm.is_mk.1 hd
 have hl:=ab.len
 have ac:0<l.length:=by
  obtain ⟨a1,a2,a3,_⟩:=xH hF.ok
  rcases hk with h | h | h | h
  ·have:=a3 h;omega
  ·have:=a2 (.inr h);omega
  ·have:=a1 (by omega);omega
  ·have:=a1 (by omega);omega
 have ae:=yK ab ac
 have J:=hF.mem _ (zJ ac)
 simp only [zPv] at I
 rw [zPA ac] at I
 simp only [goS] at I
 refine zGp N _ Q λ_=>⟨_,_,_,rfl,⟨by omega,by omega⟩,λN1 bd=>yQ ae J.ok J.dp N1 _ λN2 bg _=>Br.not (λhv N3 bh=>?_) λhv=>?_⟩
 ·rw [if_neg (by rw [hv];decide)] at I
  exact zF2 hS aa hF ac N3 _ λdx N4 aw hx _ _ N5 ax=>I _ _ (by omega) hx
 rw [if_pos hv] at I
 simp only [Tm.apl] at I
 generalize bi:l.getD 0 tm0=p at ae J hv I
 have ai:=ae
 have am:=λh=>zJq J.ok h
 cases p with
 | mk pk O U pm pt pr Y=>
 obtain ⟨u0,u1,v0,v1,a2,ay,c2,heq,bj,az,ah⟩:=Tm.is_mk.1 ae
 have bm:=ah.len
 simp only [Tm.kd,Tm.no] at am
 rw [heq] at ai ⊢
 have lift:∀ (N:Nat) (a:Option Addr) (N':Nat) (hN:N2<=N) (_:wJ N [a]) (_:(Tm.mk pk O U pm pt pr Y).cnt<=1073741824),(∀ d N',N2<=N'->(Tm.nod 10 [Tm.mk pk O U pm pt pr Y]).Is d->Q d 8 N') ->
   ACalls prog 87 [.ag 9] [.j 10,.sv a 9 [.ag [.j pk,.t O,.t U,.j pm,u0,u1,v0,v1,.sl a2 9 ay c2]] 1] N (λx N7=>N<=N7->Off [a] x/\(Bel N7 x->∀ N8,N7<=N8->Q x 8 N8)):=λN3 a N' hN hb a7 hq=>
  zMF 10 ai a7 a N3 _ λdx N4 aw hx ho _=>⟨w9 hb ho,λ_ N5 ax=>hq _ _ (by omega) hx⟩
 rcases hk with rfl | rfl | rfl | rfl
 ·have bn:=(xH hF.ok).2.2.1 rfl
  rw [if_neg (by decide),if_pos rfl] at I
  refine ⟨_,rfl,Br.beq (λ_=>⟨_,rfl,Br.beq (λh3=>?_) λh3=>?_⟩) (λh=>absurd rfl h)⟩
  ·have hn:=am h3
   rw [if_pos (show (Tm.mk pk O U pm pt pr Y).kd=3 from h3)] at I
   have hw:IntKind.i64.wrap (2 - pm)=2 - pm:=i64_in _ (by omega)
   refine ⟨_,_,_,rfl,_,rfl,?_⟩
   rw [hw]
   refine ⟨⟨by omega,by omega⟩,λN6 ao=>?_⟩
   refine qV tB (yK ab (j:=(2 - pm).toNat) (by omega)) (zj hF.z.g.2.2.2 (zJ (by omega))) (N0:=N) (by omega) (λd N=>Q d 2 N) λd' N7 aq aj _=>I _ _ (by omega) aj
  ·rw [if_neg (show ¬(Tm.mk pk O U pm pt pr Y).kd=3 from h3)] at I
   repeat' first | refine ⟨_,rfl,?_⟩ | refine Br.beq (λh=>absurd h (by decide)) λ_=>?_
   all_goals exact λN hN=>I _ _ (by omega) aa
 ·have bp:=(xH hF.ok).2.1 (.inr rfl)
  rw [if_neg (by decide),if_neg (by decide),if_neg (by decide),if_pos rfl] at I
  have a8:=hF.mem _ (zJ (l:=l) (i:=1) (by omega))
  have ba:=yK ab (j:=1) (by omega)
  repeat' first | refine ⟨_,rfl,?_⟩ | refine Br.beq (λh=>absurd h (by decide)) λ_=>?_ | refine Br.beq (λ_=>?_) (λh=>absurd rfl h)
  all_goals
   refine ⟨_,_,_,rfl,⟨by omega,by omega⟩,_,rfl,λN6 ao=>?_⟩
   exact zCa ba ai nm a8.z J.z N6 _ λdx N7 aq hx _ _ _ N8 bq=>I _ _ (by omega) hx
 ·rw [if_neg (by decide),if_neg (by decide),if_neg (by decide),if_neg (by decide),if_pos rfl] at I
  repeat' first | refine ⟨_,rfl,?_⟩ | refine Br.beq (λh=>absurd h (by decide)) λ_=>?_ | refine Br.beq (λ_=>?_) (λh=>absurd rfl h)
  all_goals
   refine Br.beq (λak=>?_) λak=>?_
   ·rw [if_pos (show (Tm.mk pk O U pm pt pr Y).kd=10 from ak)] at I
    have h1:=(xH J.ok).1 (by omega)
    refine ⟨_,_,_,rfl,⟨by omega,by omega⟩,λN6 ao=>?_⟩
    refine qV tB (yK ah (j:=0) (by omega)) (zj J.z.g.2.2.2 (zJ (by omega))) (N0:=N) (by omega) (λd N=>Q d 7 N) λd' N7 aq aj _=>I _ _ (by omega) aj
   ·rw [if_neg (show ¬(Tm.mk pk O U pm pt pr Y).kd=10 from ak)] at I
    repeat' first | refine ⟨_,rfl,?_⟩ | refine Br.beq (λh=>absurd h (by decide)) λ_=>?_
    all_goals exact λN hN=>I _ _ (by omega) aa
 ·rw [if_neg (by decide),if_neg (by decide),if_neg (by decide),if_neg (by decide),if_neg (by decide),if_pos rfl] at I
  repeat' first | refine ⟨_,rfl,?_⟩ | refine Br.beq (λh=>absurd h (by decide)) λ_=>?_ | refine Br.beq (λ_=>?_) (λh=>absurd rfl h)
  all_goals
   refine Br.beq (λh2=>⟨⟨rfl,rfl⟩,λa6 _ al au hb=>?_⟩) λh2=>⟨_,rfl,Br.beq (λh3=>⟨⟨rfl,rfl⟩,λa6 _ al au hb=>?_⟩) λh3 bt bc=>?_⟩
   ·rw [if_pos (show (Tm.mk pk O U pm pt pr Y).kd=2\/(Tm.mk pk O U pm pt pr Y).kd=3 from .inl h2)] at I
    exact lift al a6 0 (by omega) hb (zMe J.ok (.inl h2)) λd N' h1 h2=>I _ _ (by omega) h2
   ·rw [if_pos (show (Tm.mk pk O U pm pt pr Y).kd=2\/(Tm.mk pk O U pm pt pr Y).kd=3 from .inr h3)] at I
    exact lift al a6 0 (by omega) hb (zMe J.ok (.inr h3)) λd N' h1 h2=>I _ _ (by omega) h2
   ·rw [if_neg (show ¬((Tm.mk pk O U pm pt pr Y).kd=2\/(Tm.mk pk O U pm pt pr Y).kd=3) from λh=>h.elim h2 h3)] at I
    exact I _ _ (by omega) aa
theorem zHv:∀ f,zPx 41 f
 | 0=>λe d _ U=>absurd (Tm.dp_pos e) (by have:=U.d;omega)
 | f+1=>λe d hd U N Q hQ=>by
   have ih:=zHv f
   cases e with
   | mk k nm ot n0 ty re l=>
   have I:=hd
   obtain ⟨t0,t1,r0,r1,a,es,c,rfl,hh,am,ah⟩:=Tm.is_mk.1 hd
   have hl:=ah.len
   simp only [Tm.stp] at hQ
   refine zE7 N _ Q λ_ N1 ay=>yQ I U.ok U.dp N1 _ λN2 az _=>Br.of (λhv N3 a6=>?_) λhv=>⟨_,rfl,?_⟩
   ·rw [if_pos hv] at hQ
    exact hQ _ _ (by omega) I
   rw [if_neg (by rw [hv];decide)] at hQ
   have other:k≠10->∀ m,uZ k l.length=m->∀ d N',N<=N'->(zPv f (Tm.mk k nm ot n0 ty re l) m).1.Is d->Q d (zPv f (Tm.mk k nm ot n0 ty re l) m).2 N':=λhk m hm=>by
    rw [if_neg (show ¬(Tm.mk k nm ot n0 ty re l).kd=10 from hk),hm] at hQ
    exact hQ
   refine Br.beq (λh4 N4 Y=>?_) λh4=>Br.beq (λh7 N4 Y=>?_) λh7=>Br.beq (λO=>?_) λO=>Br.beq (λh5 N4 Y=>?_) λh5=>Br.beq (λh8 N4 Y=>?_) λh8=>Br.beq (λaa N4 Y=>?_) λaa=>Br.beq (λab N4 Y=>?_) λab N4 Y=>?_
   ·subst h4
    have J:=other (by decide) l.length (by simp [uZ])
    simp only [zPv,List.take_length,Tm.apl,mm] at J
    exact zQN ih I U rfl N4 _ λx N5 ac hx _ _ N6 ae=>J _ _ (by omega) hx
   ·subst h7
    have J:=other (by decide) l.length (by simp [uZ])
    exact zO0 ih I U N4 _ λx N5 ac hx _ _ N6 ae=>J _ _ (by omega) hx
   ·rw [if_pos (by exact O)] at hQ
    have a7:=(xH U.ok).1 (by omega)
    have ai:=zJ (l:=l) (i:=0) (by omega)
    refine ⟨_,_,_,rfl,⟨by omega,by omega⟩,λaj ao=>?_⟩
    have a8:=uD (k:=k) (nm:=nm) (ot:=ot) (n:=n0) (ty:=ty) (re:=re) ai
    have ba:=U.dp
    refine zNg ih _ _ (yK ah (j:=0) (by omega)) ((U.mem _ ai).up (by omega)) 1 (by unfold LvIn;omega) aj _ λdx bb aq hx _ _ ak au=>?_
    exact zDW I U.z.g hx (i:=0) (by simp only [Tm.as];omega) ak _ λd' bc aw al _ _ bd ax=>hQ _ _ (by omega) al
   ·have J:=other O 1 (by simp [uZ,h4,h7,h5])
    exact zCh ih (.inl h5) I U N4 _ λx N5 ac hx _ _ N6 ae=>J _ _ (by omega) hx
   ·have J:=other O 1 (by simp [uZ,h4,h7,h8])
    exact zCh ih (.inr (.inl h8)) I U N4 _ λx N5 ac hx _ _ N6 ae=>J _ _ (by omega) hx
   ·have J:=other O 1 (by simp [uZ,h4,h7,aa])
    exact zCh ih (.inr (.inr (.inl aa))) I U N4 _ λx N5 ac hx _ _ N6 ae=>J _ _ (by omega) hx
   ·have J:=other O 1 (by simp [uZ,h4,h7,ab])
    exact zCh ih (.inr (.inr (.inr ab))) I U N4 _ λx N5 ac hx _ _ N6 ae=>J _ _ (by omega) hx
   ·have J:=other O 0 (by simp [uZ,h4,h7,h5,h8,aa,ab])
    simp only [zPv,ml,goS,Tm.apl] at J
    rw [if_neg h4,if_neg h5,if_neg h7,if_neg h8,if_neg aa,if_neg ab] at J
    exact J _ _ (by omega) I
theorem zIL {e:Tm} {d:D} (he:e.Is d) (U:e.G) (aa:e.dp<=1073741824) (hw:e.wd<=137438953472):zJh 12 [.dg 9 d] e.step:=λN Q I=>by
 unfold Tm.step at I
 refine zJH N _ Q λ_ N1 am=>vW e d he U 0 N1 _ λN2 ao _=>Br.not (λY N3 aq=>?_) λY N7 au=>?_
 ·rw [if_neg (by rw [Y];decide)] at I
  exact qV tB he U (N0:=N) (by omega) (λd N=>Q d 0 N) λd' N4 ab O _=>I _ _ (by omega) O
 ·rw [if_pos Y] at I
  have ac:e.ok=true:=by unfold qx at Y;simp at Y;exact Y.1
  refine tB e d he U N7 _ ?_
  cases e with
  | mk k nm ot n0 ty re l=>
  intro x4 x5 x6 x7 aw c' N8 ax ae J ay _ _
  have az:=J.len
  have a6:=U.2.2.1
  refine ⟨⟨rfl,rfl⟩,λa1 N9 a7 _ ah ai=>?_⟩
  refine zHv _ _ _ (Tm.is_mk.2 ⟨_,_,_,_,_,_,_,rfl,ae,by omega,J⟩) (Tm.F.ofW ac (oD _) U aa hw) ah _ λdx a8 aj hx _ _=>Br.beq (λh0 ba ak=>?_) λh0 bb al=>?_
  ·rw [if_pos h0] at I
   exact qV tB he U (N0:=N) (by omega) (λd N=>Q d 0 N) λd' N4 ab O _=>I _ _ (by omega) O
  ·rw [if_neg h0] at I
   exact I _ _ (by omega) hx
theorem zLC {s:ByteArray} (h:0<zCk s):s=bytes [43]\/s=bytes [45]\/s=bytes [42]\/s=bytes [61]\/s=bytes [60]\/s=bytes [38]\/s=bytes [124]\/s=bytes [33]:=by
 unfold zCk at h
 (repeat' split at h)<;>first | exact absurd h (by decide) | simp [*]
theorem zLv {s:ByteArray} (h:0<zCk s) {a b:Int} (I:0<=a/\a<=10006) (J:0<=b/\b<=10006):(yZ s a b).2=true:=by
 have:=zLC h
 unfold yZ
 rw [if_pos (xu.2 I),if_pos (xu.2 J)]
 (repeat' split)<;>first | rfl | (rcases this with h | h | h | h | h | h | h | h<;>contradiction)
def sx (s:ByteArray):Bool:=wW s||(decide (s=bytes [61])||decide (s=bytes [60]))
theorem zMa {s:ByteArray} (h:0<zCk s):zEB s=if sx s then 3 else 2:=by
 rcases zLC h with h | h | h | h | h | h | h | h<;>subst h<;>decide +kernel
theorem zFK (s:ByteArray):uX 141 [.str s] (wW s):=λN Q J=>
 zDr N s Q (Br.str (λe1 N1 I=>Qb (J _ I) (by simp [wW,e1])) λe1=>Br.str (λO N1 I=>Qb (J _ I) (by simp [wW,O])) λO N1 I=>Qb (J _ I) (by simp [wW,e1,O,vE]))
theorem zJI (s:ByteArray):uX 144 [.str s] (sx s):=λN Q J=>
 zCL N s Q λN1 O=>zFK s N1 _ λN2 U _=>Br.of (λe0 N3 I=>Qb (J _ (by omega)) (by simp [sx,e0])) λe0=>Br.str (λe1 N3 I=>Qb (J _ (by omega)) (by simp [sx,e1])) λe1 N3 I=>Qb (J _ (by omega)) (by simp [sx,e0,e1,vE])
theorem zNB (n:Int) (b:Bool) (N:Nat) (Q:QT [.ag 9]) (J:∀ d N',N<=N'->(zKp (if b then 3 else 2) n).Is d->Q d N'):ACalls prog 143 [.ag 9] [.j n,.bool b] N Q:=by
 refine zEb N n b Q (Br.of (λh N1 I=>J _ _ I (by rw [h];exact zGo)) λh N2 O=>zHn N2 n _ λN3 U _ _ N4 Y=>J _ _ (by omega) (by rw [h];exact zGo))
def zOr (f:FuncId) (args:List PV) (r:Tm × Bool):Prop:=∀ (N:Nat) (Q:QT [.ag 9,.bool]),(∀ d N',N<=N'->r.1.Is d->Q d r.2 N')->ACalls prog f [.ag 9,.bool] args N Q
theorem zKT:tm0.Is (.ag [.j 0,.t (bytes []),.t (bytes []),.j 0,.j 0,.sl none 2 [] 0,.j 0,.sl none 2 [] 0,.sl none 9 [] 0]):=
 Tm.is_mk.2 ⟨_,_,_,_,_,_,_,rfl,⟨by decide,by decide,xV _,xV _⟩,by simp,rfl⟩
theorem zSS {n0:Int} {nm ot:ByteArray} {ty re:Ty} {l:List Tm} (h:(Tm.mk 4 nm ot n0 ty re l).ok=true):0<zCk nm:=by
 simp only [Tm.ok,oJ,zU,uS] at h
 have:=h.2.1.2.2.2.2.2
 rw [if_pos trivial,oJ] at this
 simpa using this.1
theorem zM9 {e:Tm} (h:e.ok=true) (I:e.kd=2\/e.kd=3):0<=e.no/\e.no<=10006:=by
 cases e with
 | mk k nm ot n ty re l=>
 simp only [Tm.kd] at I
 simp only [Tm.ok,oJ,zU,inB] at h
 simp only [Tm.no]
 rcases I with rfl | rfl
 ·have:=h.2.1.2.2.2.2.1
  simp at this;omega
 ·have:=h.2.1.2.2.2.2.1
  simp at this;omega
theorem zIo (s:ByteArray):zf s=2\/zf s=3:=by unfold zf;split<;>simp
/-- what an operation of literals gives -/
def zOG (nm:ByteArray) (l:List Tm):Tm × Bool:=if l.all (λx=>x.kd==zf nm) then (zKp (zEB nm) (yZ nm (l.getD 0 tm0).no (l.getD 1 tm0).no).1,true) else (tm0,false)
theorem zLw {n0:Int} {nm ot:ByteArray} {ty re:Ty} {l:List Tm} {d:D} (hd:(Tm.mk 4 nm ot n0 ty re l).Is d) (aa:0<zCk nm) (ae:l.length<=2) (ah:∀ x∈l,x.kd=2\/x.kd=3->0<=x.no/\x.no<=10006):zOr 104 [.dg 9 d] (zOG nm l):=λN Q hQ=>by
 obtain ⟨t0,t1,r0,r1,a,es,c,rfl,hh,ab,ac⟩:=Tm.is_mk.1 hd
 have hl:=ac.len
 have loop:∀ N',N<=N'->yS Q N (zf nm) 2 2 a es c es.length 0 (.ag [.j 4,.t nm,.t ot,.j n0,t0,t1,r0,r1,.sl a 9 es c]) 0 (bytes []) (bytes []) 0 0 none [] 0 0 none [] 0 none [] 0 [.j 0,.j 0] 2 N':=λN' J=>by
  refine up ac ab (λi xs=>∀ N',N<=N'->(∀ j x,j<i->l[j]?=some x->x.kd=zf nm)->yS Q N (zf nm) 2 2 a es c es.length i (.ag [.j 4,.t nm,.t ot,.j n0,t0,t1,r0,r1,.sl a 9 es c]) 0 (bytes []) (bytes []) 0 0 none [] 0 0 none [] 0 none [] 0 (zEi l i) 2 N') ?_ ?_ N' J (λj x h=>absurd h (by omega))
  ·intro i ai hi N' J hk
   have O:∀ x∈l,x.kd=zf nm:=λx U=>by
    obtain ⟨j,hj⟩:=oO.1 U
    exact hk j x (by have:=(oC.1 hj).1;omega) hj
   have aj:i=l.length:=by omega
   have hr:∀ j,0<=(l.getD j tm0).no/\(l.getD j tm0).no<=10006:=λj=>by
    by_cases hj:j<l.length
    ·have hm:=zJ hj
     refine ah _ hm ?_
     rw [O _ hm];exact zIo nm
    ·rw [zCl (by omega)];decide
   have hq:zOG nm l=(zKp (zEB nm) (yZ nm (l.getD 0 tm0).no (l.getD 1 tm0).no).1,true):=by
    unfold zOG
    rw [if_pos (oV.2 λx U=>by rw [O x U];exact beq_self_eq_true _)]
   rw [hq] at hQ
   refine sM _ _ _ _ _ _ _ _ _ _ _ _ _ _ _ _ _ _ _ _ _ _ _ _ _ _ _ _ _ ?_
   rw [ai,aj,zKG ae]
   refine ⟨_,rfl,⟨⟨by omega,by omega,by simp⟩,by simp,_,rfl,⟨by omega,by omega,by simp⟩,by simp,_,rfl,λN2 ak=>zEk _ _ _ N2 _ λN3 ay _=>⟨_,rfl,λN4 az=>zJI _ N4 _ λN5 a6 _ N6 a7=>zNB _ _ N6 _ λx N7 a8 U _ _ N8 ba=>?_⟩⟩⟩
   rw [zLv aa (hr 0) (hr 1)]
   rw [<-zMa aa] at U
   exact hQ _ _ (by omega) U
  ·intro i x xs I bb al N' J hk
   have hb:=I.b
   have U:=I.r
   have am:l.getD i tm0=x:=by rw [oA,I.g];rfl
   refine sM _ _ _ _ _ _ _ _ _ _ _ _ _ _ _ _ _ _ _ _ _ _ _ _ _ _ _ _ _ ?_
   rw [I.lt,oH,I.w]
   cases x with
   | mk pk pn po pm pt pr pl=>
   obtain ⟨u0,u1,v0,v1,a2,bc,c2,heq,bd,ao,ax⟩:=Tm.is_mk.1 U
   rw [heq]
   refine ⟨⟨by omega,by omega⟩,_,rfl,Br.bne (λaq N1 au=>?_) λhe=>⟨_,rfl,⟨by omega,by omega,by simp only [zEi,oM,oQ];omega⟩,by simp only [zEi,oM,oQ];omega,?_⟩⟩
   ·have hq:zOG nm l=(tm0,false):=by
     unfold zOG
     rw [if_neg λhc=>aq (by have:=oV.1 hc _ I.m;exact (by simpa using this:(Tm.mk pk pn po pm pt pr pl).kd=zf nm))]
    rw [hq] at hQ
    exact hQ _ _ (by omega) zKT
   ·rw [o6]
    have Y:=zKd (l:=l) (i:=i) (by omega)
    rw [am] at Y
    simp only [Tm.no] at Y
    rw [Y]
    refine al _ J λj y hj hy=>?_
    by_cases aw:j<i
    ·exact hk j y aw hy
    ·have:j=i:=by omega
     subst this
     rw [I.g] at hy
     rw [<-oW hy];exact he
 refine zEp N _ Q λ_=>⟨_,rfl,λN1 au=>zFK nm N1 _ λN2 ak _=>Br.of (λh=>⟨_,_,_,rfl,?_⟩) λh=>⟨_,_,_,rfl,?_⟩⟩
 ·have:=loop N2 (by omega)
  rw [show zf nm=3 by unfold zf;rw [if_pos h]] at this
  exact this
 ·have:=loop N2 (by omega)
  rw [show zf nm=2 by unfold zf;rw [if_neg (by rw [h];decide)]] at this
  exact this
theorem zML {n0:Int} {nm ot:ByteArray} {ty re:Ty} {l:List Tm} {d:D} (hd:(Tm.mk 4 nm ot n0 ty re l).Is d) (I:(Tm.mk 4 nm ot n0 ty re l).ok=true):zOr 104 [.dg 9 d] (zOG nm l):=by
 have O:l.length<=2:=by
  have h1:=(xH I).2.2.2.2 rfl
  have h2:=zNr nm
  omega
 have J:∀ x∈l,x.ok=true:=by
  simp only [Tm.ok,oJ] at I
  have U:∀ {l:List Tm},tK l=true->∀ x∈l,x.ok=true:=λ{l}=>by
   induction l with
   | nil=>intro _ x hx;simp at hx
   | cons t ts Y=>
     intro h x hx
     simp only [tK,oJ] at h
     rcases oF.1 hx with rfl | hx
     ·exact h.1
     ·exact Y h.2 x hx
  exact U I.1
 exact zLw hd (zSS I) O λx hx h=>zM9 (J x hx) h
theorem zDR {k n m:Int} {c1 O U Y c6 c7 c8:D}:uX 140 [.dg 9 (.ag [.j k,c1,O,.j n,U,Y,c6,c7,c8]),.j m] (!(k==11&&m==1)):=λN Q J=>
 qQ N _ m Q λ_=>⟨_,rfl,Br.bne (λh N1 I=>Qb (J _ I) (by simp [h])) λh N1 I=>Qb (J _ I) (by rw [h];simp [bne])⟩
theorem zMA:∀ (t:Tm) (d:D),t.Is d->∀ m:Int,LvIn m t.dp->uX 59 [.dg 9 d,.j m,.fn 140 []] (t.made m):=by
 refine Tm.ind λk nm ot n ty re l ih d hd m hm N Q hQ=>?_
 obtain ⟨t0,t1,r0,r1,a,es,c,rfl,hh,O,U⟩:=Tm.is_mk.1 hd
 have hl:=U.len
 refine zA3 N _ m Q λ_ N1 ae=>zDR N1 _ λN2 ah _=>Br.not (λY N3 ai=>Qb (hQ _ (by omega)) (by simp only [Tm.made,Y,Bool.false_and])) λY=>⟨_,_,_,rfl,?_⟩
 refine up U O (λi xs=>∀ (N':Nat),N<=N'->(∀ N'',N'<=N''->Q (wB xs (zR k m)) N'')->xl Q N m a es c es.length i (.ag [.j k,.t nm,.t ot,.j n,t0,t1,r0,r1,.sl a 9 es c]) N') ?_ ?_ N2 (by omega) λN'' h=>Qb (hQ N'' (by omega)) (by simp only [Tm.made,Y,lD])
 ·intro i aa _ N' ab J
  refine sX _ _ _ _ _ _ _ _ _ _ ?_
  repeat' first|with_reducible intro _|simp only[aa,Y1,Y2,Y3,Y4]|with_reducible refine X ?_ ?_|refine⟨_,_,_,rfl,?_⟩|refine⟨_,rfl,?_⟩|refine And.intro (by first|omega|trivial|(show _=_;rfl)|(with_reducible constructor)<;>first|omega|trivial|rfl) ?_|fail
  exact Qb (J _ (by omega)) (by simp [wB])
 ·intro i x xs I _ ac N' ab J
  have aj:=I.b
  refine sX _ _ _ _ _ _ _ _ _ _ ?_
  repeat' first|with_reducible intro _|simp only[I.lt,I.w,oH,Y1,Y2,Y3,Y4]|with_reducible refine X ?_ ?_|refine⟨_,_,_,rfl,?_⟩|refine⟨_,rfl,?_⟩|refine And.intro (by first|omega|trivial|(show _=_;rfl)|(with_reducible constructor)<;>first|omega|trivial|rfl) ?_|refine (zBu hm.b) _ _ ?_|refine (ih x I.m _ I.r _ (hm.next (uD I.m))) _ _ ?_|fail
  ·refine Qb (J _ (by omega)) ?_;simp [wB, *]
  ·exact ac _ (by omega) λN'' h=>Qb (J N'' (by omega)) (by simp [wB, *])
theorem zGV {t:Tm} {d:D} (hd:t.Is d) (hc:t.G) {m:Int} (U:LvIn m t.dp):uX 101 [.dg 9 d,.j m] (qx t m&&t.made m):=λN Q O=>
 pJ N _ m Q λ_ N1 Y=>sU t d hd hc m N1 _ λN2 aa _=>Br.of (λI N3 J=>zMA t d hd m U N3 _ λN4 ab _ N5 ac=>Qb (O _ (by omega)) (by rw [I];simp)) λI N3 J=>Qb (O _ (by omega)) (by rw [I];simp)
theorem ti {e:Tm} {d:D} (he:e.Is d) (J:e.ok=true) (hc:e.G) (ac:e.dp<=1073741824):uX 62 [.dg 9 d] e.res:=λN Q hQ=>by
 cases e with
 | mk k nm ot n0 ty re l=>
 have hI:=u4 _ d he hc
 rw [J] at hI
 obtain ⟨t0,t1,r0,r1,a,es,c,rfl,hh,ai,aa⟩:=Tm.is_mk.1 he
 have hl:=aa.len
 refine zD4 N _ Q λ_=>⟨_,rfl,?_⟩
 refine Br.beq (λh2 N1 I=>hI N1 _ λN2 O _ N3 U=>Qb (hQ _ (by omega)) (by simp [Tm.res,zKu,Tm.kd,h2])) λh2=>?_
 refine Br.beq (λh3 N1 I=>hI N1 _ λN2 O _ N3 U=>Qb (hQ _ (by omega)) (by simp [Tm.res,zKu,Tm.kd,h3])) λh3=>?_
 refine Br.beq (λh6 N1 I=>hI N1 _ λN2 O _ N3 U=>Qb (hQ _ (by omega)) (by simp [Tm.res,zKu,Tm.kd,h6])) λh6=>?_
 refine Br.beq (λh9 N1 I=>hI N1 _ λN2 O _ N3 U=>Qb (hQ _ (by omega)) (by simp [Tm.res,zKu,Tm.kd,h9])) λh9=>?_
 refine Br.beq (λY N1 I=>?_) λY N1 I=>Qb (hQ _ I) (by simp [Tm.res,zKu,Tm.kd,h2,h3,h6,h9,Y])
 subst Y
 have ab:=(xH J).1 (by omega)
 refine hI N1 _ λN2 O _=>Br.of (λ_=>?_) λh=>absurd h (by decide)
 cases l with
 | nil=>simp at ab
 | cons p ls=>
 cases ls with
 | cons _ _=>simp at ab
 | nil=>
 have ae:p.G:=hc.2.2.2.1
 have ah:p.ok=true:=by
  simp only [Tm.ok,tK,oJ] at J
  exact J.1.1
 simp only [Tm.dp,wr] at ac
 refine ⟨_,_,_,rfl,⟨by omega,by omega⟩,λN3 U=>?_⟩
 refine zGV (yK aa (j:=0) (by simp)) ae (m:=1) (by unfold LvIn;simp only [ms];omega) N3 _ λN4 aj _ N5 ak=>Qb (hQ _ (by omega)) ?_
 simp only [ms,Tm.res,zKu,Tm.kd,Tm.lev,uC,zR,Tm.pt,qx,ah]
 simp [inB]
theorem zD8 {e:Tm} {d:D} (he:e.Is d) (O:e.ok=true) (hG:e.G) (Y:e.dp<=1073741824):zOr 102 [.dg 9 d] (if e.kd=10/\e.res=true then (e.pt 0,true) else (tm0,false)):=λN Q J=>by
 cases e with
 | mk k nm ot n0 ty re l=>
 have hR:=ti he O hG Y
 obtain ⟨t0,t1,r0,r1,a,es,c,rfl,hh,ac,U⟩:=Tm.is_mk.1 he
 have hl:=U.len
 refine zD0 N _ Q λ_=>⟨_,rfl,Br.bne (λI N1 aa=>?_) λI N2 ae=>hR N2 _ λN3 ah _=>Br.not (λhv N4 ai=>?_) λhv=>?_⟩
 ·rw [if_neg (λh=>I h.1)] at J
  exact J _ _ aa zKT
 ·rw [if_neg (λh=>by rw [hv] at h;exact absurd h.2 (by decide))] at J
  exact J _ _ (by omega) zKT
 ·rw [if_pos ⟨I,hv⟩] at J
  have aj:=(xH O).1 (by omega)
  refine ⟨_,_,_,rfl,⟨by omega,by omega⟩,λN5 ak=>?_⟩
  exact qV sY (yK U (j:=0) (by omega)) (zj hG.2.2.2 (zJ (by omega))) (N0:=N) (by omega) (λd N=>Q d true N) λd' N7 al ab _=>J _ _ (by omega) ab
theorem zNJ {e:Tm} {d:D} (he:e.Is d) (hok:e.ok=true) (hG:e.G):zOr 106 [.dg 9 d] (if e.kd=2\/e.kd=3 then (Tm.nod 10 [e],true) else (tm0,false)):=fun N Q hQ=>by
 cases e with
 | mk k nm ot n0 ty re l=>
 have hI:=u4 _ d he hG
 rw [hok] at hI
 have he0:=he
 obtain ⟨t0,t1,r0,r1,a,es,c,rfl,hh,hlen,hes⟩:=Tm.is_mk.1 he
 have hl:=hes.len
 have fin:(Tm.mk k nm ot n0 ty re l).kd=2\/(Tm.mk k nm ot n0 ty re l).kd=3->∀ N2,N<=N2->∀ N3,N2<=N3->ACalls prog 33 [.pk,.i,.str,.str,.i,.dc,.dc,.dc,.dc,.row 29 9] [.dg 9 (.ag [.j k,.t nm,.t ot,.j n0,t0,t1,r0,r1,.sl a 9 es c])] N3
   (fun n s s_1 n_1 x x_1 x_2 x_3 es c N4=>N3<=N4->Bel N4 (D.ag es)->(es.length=es.length/\c=c)/\∀ a N5,N4<=N5->Fresh N N5 a [D.ag es]->(1=([D.ag [D.j n,D.t s,D.t s_1,D.j n_1,x,x_1,x_2,x_3,D.sl a 9 es c]]).length/\1=1) /\
    ∀ a_1 N6,N5<=N6->Fresh N N6 a_1 [D.ag [D.ag [D.j n,D.t s,D.t s_1,D.j n_1,x,x_1,x_2,x_3,D.sl a 9 es c]]]->∀ N7,N6<=N7->ACalls prog 150 [.ag 9] [.j 10,.sv a_1 9 [D.ag [D.j n,D.t s,D.t s_1,D.j n_1,x,x_1,x_2,x_3,D.sl a 9 es c]] 1] N7
      (fun x_4 N8=>N7<=N8->Bel N8 x_4->∀ N9,N8<=N9->Q x_4 true N9)):=fun hk N2 hN2 N3 hN3=>by
  rw [if_pos hk] at hQ
  refine sY _ _ he0 hG N3 _ ?_
  intro x4 x5 x6 x7 es' c' N4 hN4 hh' hes' ho' _ _
  have hl':=hes'.len
  have hgl:=hG.2.2.1
  refine ⟨⟨rfl,rfl⟩,fun a1 N5 hN5 _=>⟨⟨rfl,rfl⟩,fun a2 N6 hN6 _ N7 hN7=>zGH N7 10 a2 _ 1 _ fun _ N8 hN8 _ _ N9 hN9=>hQ _ _ (by omega) ?_⟩⟩
  exact Tm.is_mk.2 ⟨_,_,_,_,_,_,_,rfl,⟨by decide,by decide,xV _,xV _⟩,by simp,_,[],rfl,Tm.is_mk.2 ⟨_,_,_,_,_,_,_,rfl,hh',by omega,hes'⟩,rfl⟩
 refine zHK N _ Q fun _=>⟨_,rfl,Br.bne (fun h2=>⟨_,rfl,Br.bne (fun h3 N1 hN1=>?_) fun h3 N2 hN2=>hI N2 _ fun N3 hN3 _=>Br.not (fun h=>absurd h (by decide)) fun _=>fin (.inr h3) N3 (by omega)⟩) fun h2 N2 hN2=>hI N2 _ fun N3 hN3 _=>Br.not (fun h=>absurd h (by decide)) fun _=>fin (.inl h2) N3 (by omega)⟩
 rw [if_neg (fun h=>h.elim h2 h3)] at hQ
 exact hQ _ _ hN1 zKT
theorem zCf {e b:Tm} {d I:D} (J:e.Is d) (O:b.Is I) (x:ByteArray) (U:e.Z) (Y:b.Z):zQO 105 [.dg 9 d,.str x,.dg 9 I] (e.sb x b):=zFV e.dp e d x b I J O (oD _) U Y
theorem zOe {n0:Int} {nm ot:ByteArray} {ty re:Ty} {l:List Tm}:(Tm.mk 4 nm ot n0 ty re l).opr l=if (zOG nm l).2=true then ((zOG nm l).1,1) else (Tm.mk 4 nm ot n0 ty re l,0):=by
 unfold Tm.opr zOG
 by_cases hc:(l.all λx=>x.kd==zf nm)=true
 ·rw [if_pos hc,if_pos (show (l.all λx=>x.kd==zf (Tm.mk 4 nm ot n0 ty re l).nm)=true from hc),if_pos rfl];rfl
 ·rw [if_neg hc,if_neg (show ¬(l.all λx=>x.kd==zf (Tm.mk 4 nm ot n0 ty re l).nm)=true from hc),if_neg (by decide)]
/-- the rule of a form whose parts are results -/
theorem zQ2 {k n0:Int} {nm ot:ByteArray} {ty re:Ty} {l:List Tm} {d:D} {f:Nat} (hd:(Tm.mk k nm ot n0 ty re l).Is d) (hF:(Tm.mk k nm ot n0 ty re l).F (f+1)) (ak:k=12->(l.getD 0 tm0).res=true) :
  zJh 66 [.dg 9 d] (Tm.mk k nm ot n0 ty re l).apl:=λN Q I=>by
 have U:=hd
 obtain ⟨t0,t1,r0,r1,a,es,c,rfl,hh,bn,ab⟩:=Tm.is_mk.1 hd
 have hl:=ab.len
 have ac:=hF.ok
 have al:k=4->∀ N1,N<=N1->ACalls prog 104 [.ag 9,.bool] [.dg 9 (.ag [.j k,.t nm,.t ot,.j n0,t0,t1,r0,r1,.sl a 9 es c])] N1 (λx b N2=>N1<=N2->Bel N2 x->Br b (∀ N3,N2<=N3->Q x 1 N3) (∀ N4,N2<=N4->Q (.ag [.j k,.t nm,.t ot,.j n0,t0,t1,r0,r1,.sl a 9 es c]) 0 N4)):=λh4 N1 ca=>by
  subst h4
  simp only [Tm.apl] at I
  rw [if_pos trivial,zOe] at I
  refine zML U ac N1 _ λdx N2 cc hx _ _=>Br.of (λO N3 cd=>?_) λO N4 ce=>?_
  ·rw [if_pos O] at I;exact I _ _ (by omega) hx
  ·rw [if_neg (by rw [O];decide)] at I;exact I _ _ (by omega) U
 refine zId N _ Q λ_=>⟨_,_,_,rfl,Br.dec (λbp=>⟨_,_,_,rfl,⟨by omega,by omega⟩,_,rfl,?_⟩) λbq=>⟨_,rfl,?_⟩⟩
 ·have au:0<l.length:=by omega
  have am:=yK ab au
  have J:=hF.mem _ (zJ au)
  have aw:=J.b
  have ao:=J.g
  refine Br.beq (λh4=>al h4) λh4=>?_
  simp only [Tm.apl] at I
  rw [if_neg h4] at I
  generalize cf:l.getD 0 tm0=p at am J I ak aw ao
  have ai:=am
  have ax:=λh=>zJq J.ok h
  have ay:=zD8 ai J.ok ao aw
  have az:=zNJ ai J.ok ao
  cases p with
  | mk pk pn po pm pt pr Y=>
  obtain ⟨u0,u1,v0,v1,a2,cg,c2,heq,ch,ba,aj⟩:=Tm.is_mk.1 am
  have cj:=aj.len
  simp only [Tm.kd,Tm.no] at ax
  rw [heq] at ai ay az ⊢
  have one:(pk=6\/pk=9)->Y.length=1:=λh=>(xH J.ok).1 (by omega)
  have aq:Y.length=1->(Y.getD 0 tm0).F f:=λh=>((J.up (g:=f+1) (by omega)).mem _ (zJ (l:=Y) (i:=0) (by omega)))
  refine Br.beq (λh5=>⟨_,rfl,Br.beq (λh3=>?_) λh3 N9 bb=>?_⟩) λh5=>Br.beq (λh7=>⟨_,rfl,Br.beq (λh6=>?_) λh6=>Br.beq (λh9=>?_) λh9 ck bt=>?_⟩) λh7=>Br.beq (λh8=>?_) λh8=>Br.beq (λaa bc bv=>?_) λaa=>Br.beq (λae bd bw=>?_) λae bg a6=>?_
  ·rw [if_pos h5,if_pos (show (Tm.mk pk pn po pm pt pr Y).kd=3 from h3)] at I
   have cm:=(xH ac).2.2.1 h5
   have hn:=ax h3
   have hw:IntKind.i64.wrap (2 - pm)=2 - pm:=i64_in _ (by omega)
   refine ⟨_,_,_,rfl,_,rfl,?_⟩
   rw [hw]
   refine ⟨⟨by omega,by omega⟩,λN6 a7=>?_⟩
   exact qV sY (yK ab (j:=(2 - pm).toNat) (by omega)) (zj hF.z.g.2.2.2 (zJ (by omega))) (N0:=N) (by omega) (λd N=>Q d 2 N) λd' N7 a8 bh _=>I _ _ (by omega) bh
  ·rw [if_pos h5,if_neg (show ¬(Tm.mk pk pn po pm pt pr Y).kd=3 from h3)] at I
   exact I _ _ (by omega) U
  ·have bi:=(xH ac).2.1 (.inl h7)
   have h1:=one (.inl h6)
   rw [if_neg h5,if_pos h7,if_pos (show (Tm.mk pk pn po pm pt pr Y).kd=6 from h6)] at I
   refine ⟨_,_,_,rfl,⟨by omega,by omega⟩,_,rfl,_,_,_,rfl,⟨by omega,by omega⟩,λN6 a7=>?_⟩
   exact zCf (yK aj (j:=0) (by omega)) (yK ab (j:=1) (by omega)) pn (aq h1).z (hF.mem _ (zJ (i:=1) (by omega))).z N6 _ λdx N7 a8 hx _ _ _ N8 bj=>I _ _ (by omega) hx
  ·have bi:=(xH ac).2.1 (.inl h7)
   have h1:=one (.inr h9)
   rw [if_neg h5,if_pos h7,if_neg (show ¬(Tm.mk pk pn po pm pt pr Y).kd=6 from h6),if_pos (show (Tm.mk pk pn po pm pt pr Y).kd=9 from h9)] at I
   refine ⟨_,_,_,rfl,⟨by omega,by omega⟩,_,rfl,_,rfl,_,_,_,rfl,⟨by omega,by omega⟩,λN9 bb=>?_⟩
   refine zCf (yK aj (j:=0) (by omega)) ai pn (aq h1).z J.z N9 _ λdx cn bz hx _ _ _ bm b1=>?_
   exact zCf hx (yK ab (j:=1) (by omega)) po (zS5 (aq h1) J) (hF.mem _ (zJ (i:=1) (by omega))).z bm _ λdy co b2 hy _ _ _ cp b3=>I _ _ (by omega) hy
  ·rw [if_neg h5,if_pos h7,if_neg (show ¬(Tm.mk pk pn po pm pt pr Y).kd=6 from h6),if_neg (show ¬(Tm.mk pk pn po pm pt pr Y).kd=9 from h9)] at I
   exact I _ _ (by omega) U
  ·have cq:=(xH ac).2.1 (.inr h8)
   rw [if_neg h5,if_neg h7,if_pos h8] at I
   refine ⟨_,_,_,rfl,⟨by omega,by omega⟩,_,rfl,λN6 a7=>?_⟩
   exact zCf (yK ab (j:=1) (by omega)) ai nm (hF.mem _ (zJ (i:=1) (by omega))).z J.z N6 _ λdx N7 a8 hx _ _ _ N8 bj=>I _ _ (by omega) hx
  ·rw [if_neg h5,if_neg h7,if_neg h8,if_pos aa] at I
   have hr:=ak aa
   refine ay bc _ λdx cr b4 hx _ _=>Br.of (λO ct b5=>?_) λO cw b6=>?_
   ·by_cases ah:(Tm.mk pk pn po pm pt pr Y).kd=10
    ·rw [if_pos ⟨ah,hr⟩] at hx
     rw [if_pos ah] at I
     exact I _ _ (by omega) hx
    ·rw [if_neg (λh=>ah h.1)] at O
     first | exact absurd (show true=false from O) (by decide) | exact absurd (show false=true from O) (by decide)
   ·by_cases ah:(Tm.mk pk pn po pm pt pr Y).kd=10
    ·rw [if_pos ⟨ah,hr⟩] at O
     first | exact absurd (show true=false from O) (by decide) | exact absurd (show false=true from O) (by decide)
    ·rw [if_neg ah] at I
     exact I _ _ (by omega) U
  ·rw [if_neg h5,if_neg h7,if_neg h8,if_neg aa,if_pos ae] at I
   refine az bd _ λdx cx b7 hx _ _=>Br.of (λO cy b8=>?_) λO cz b9=>?_
   ·by_cases h2:(Tm.mk pk pn po pm pt pr Y).kd=2\/(Tm.mk pk pn po pm pt pr Y).kd=3
    ·rw [if_pos h2] at hx I
     exact I _ _ (by omega) hx
    ·rw [if_neg h2] at O
     first | exact absurd (show true=false from O) (by decide) | exact absurd (show false=true from O) (by decide)
   ·by_cases h2:(Tm.mk pk pn po pm pt pr Y).kd=2\/(Tm.mk pk pn po pm pt pr Y).kd=3
    ·rw [if_pos h2] at O
     first | exact absurd (show true=false from O) (by decide) | exact absurd (show false=true from O) (by decide)
    ·rw [if_neg h2] at I
     exact I _ _ (by omega) U
  ·rw [if_neg h5,if_neg h7,if_neg h8,if_neg aa,if_neg ae] at I
   exact I _ _ (by omega) U
 ·have c3:l.length=0:=by omega
  obtain ⟨a1,a2,a3,_,_⟩:=xH ac
  refine Br.beq (λh4=>al h4) λh4=>Br.beq (λh5=>by have:=a3 h5;omega) λh5=>Br.beq (λh7=>by have:=a2 (.inl h7);omega) λh7=>Br.beq (λh8=>by have:=a2 (.inr h8);omega) λh8=>Br.beq (λaa=>by have:=a1 (by omega);omega) λaa=>Br.beq (λae=>by have:=a1 (by omega);omega) λae bg a6=>?_
  simp only [Tm.apl] at I
  rw [if_neg h4,if_neg h5,if_neg h7,if_neg h8,if_neg aa,if_neg ae] at I
  exact I _ _ (by omega) U
theorem zLm {k n0:Int} {nm ot:ByteArray} {t0 t1 r0 r1:D} {a:Option Addr} {es:List D} {c:Nat}:zBs 65 [.dg 9 (.ag [.j k,.t nm,.t ot,.j n0,t0,t1,r0,r1,.sl a 9 es c])] (uZ k es.length:Nat):=λN Q J=>by
 refine zDY N _ Q λ_=>⟨_,rfl,Br.beq (λY=>⟨_,_,_,rfl,λN1 I=>Qi (J _ I) (by simp [uZ,Y])⟩) λY=>Br.beq (λh7=>⟨_,_,_,rfl,λN1 I=>Qi (J _ I) (by simp [uZ,h7])⟩) λh7=>?_⟩
 refine Br.beq (λh5 N1 I=>Qi (J _ I) (by simp [uZ,h5])) λh5=>Br.beq (λh8 N1 I=>Qi (J _ I) (by simp [uZ,h8])) λh8=>Br.beq (λO N1 I=>Qi (J _ I) (by simp [uZ,O])) λO=>Br.beq (λU N1 I=>Qi (J _ I) (by simp [uZ,U])) λU N1 I=>Qi (J _ I) (by simp [uZ,Y,h7,h5,h8,O,U])
/-- a node with one other part -/
theorem zPy {t y:Tm} {d dy:D} (h:t.Is d) (hG:t.G) (hy:y.Is dy) (h1:t.as.length=1) {N0 N:Nat} {a1:Option Addr} (hb:wJ N [a1]) (Q':D->Nat->Prop) (hq:∀ d' N',N<=N'->(t.wth 0 y).Is d'->Q' d' N') :
  ACalls prog 64 [.pk,.i,.str,.str,.i,.dc,.dc,.dc,.dc,.bk 1] [.dg 9 d,.sv a1 9 [dy] 1] N (λn s ab ac I J O U ae N7=>N<=N7->ae=D.sl a1 9 [dy] 1/\Off [a1] I/\Off [a1] J/\Off [a1] O/\Off [a1] U/\(1=([dy]).length/\1=1)/\(1=([dy]).length/\1=1)/\(1=([dy]).length/\1=1) /\
   ∀ Y N8,N7<=N8->Fresh N0 N8 Y [D.ag [dy],I,J,O,U]->∀ N9,N8<=N9->Q' (D.ag [D.j n,D.t s,D.t ab,D.j ac,I,J,O,U,D.sl Y 9 [dy] 1]) N9):=by
 cases t with
 | mk k nm ot n0 ty re l=>
 obtain ⟨t0,t1,r0,r1,a,es,c,rfl,hh,al,am⟩:=Tm.is_mk.1 h
 simp only [Tm.as] at h1
 obtain ⟨g1,g2,g3,g4⟩:=hG
 refine zJE hh g1 g2 a1 [dy] 1 N _ λx4 x5 x6 x7 N5 ao ah ai _=>⟨rfl,?_⟩
 have off:∀ y∈[x4,x5,x6,x7],Off [a1] y:=λy hy a' aj ad ak hc=>by
  have h1:=hb a' aj ad ak
  have h2:=ai.lo _ (zI.2 ⟨y,hy,hc⟩)
  omega
 refine ⟨off x4 (by simp),off x5 (by simp),off x6 (by simp),off x7 (by simp),⟨rfl,rfl⟩,⟨rfl,rfl⟩,⟨rfl,rfl⟩,λa2 N8 aq _ N9 au=>hq _ _ (by omega) ?_⟩
 have aa:l.set 0 y=[y]:=by
  cases l with
  | nil=>simp at h1
  | cons p ls=>cases ls with
    | nil=>rfl
    | cons _ _=>simp at h1
 simp only [Tm.wth]
 rw [aa]
 exact Tm.is_mk.2 ⟨_,_,_,_,_,_,_,rfl,ah,by simp,dy,[],rfl,hy,rfl⟩
/-- the first splice of level 1, by steps -/
theorem zIG {f:Nat} (hS:zPx 34 f):∀ (t:Tm) (d:D),t.Is d->t.F (f+1)->∀ m:Int,LvIn m t.dp->zPn 63 [.dg 9 d,.j m,.fn 34 []] (t.cod (Tm.stp f) m):=by
 refine Tm.ind λk nm ot n0 ty re l ih d hd hF m hm N Q J=>?_
 have aa:=hd
 obtain ⟨t0,t1,r0,r1,a,es,c,rfl,hh,ah,ab⟩:=Tm.is_mk.1 hd
 have hl:=ab.len
 have loop:¬(k=11/\m=1)->yP Q N m a es c es.length 0 (.ag [.j k,.t nm,.t ot,.j n0,t0,t1,r0,r1,.sl a 9 es c]) 0 (bytes []) (bytes []) 0 0 none [] 0 0 none [] 0 none [] 0 N:=λal=>by
  simp only [Tm.cod] at J
  rw [if_neg al] at J
  refine up ab ah (λi xs=>∀ N',N<=N'->(match yB (Tm.stp f) xs (zR k m) with | none=>yB (Tm.stp f) l (zR k m)=none | some (l',r)=>yB (Tm.stp f) l (zR k m)=some (l.take i++l',r)) ->
   yP Q N m a es c es.length i (.ag [.j k,.t nm,.t ot,.j n0,t0,t1,r0,r1,.sl a 9 es c]) 0 (bytes []) (bytes []) 0 0 none [] 0 0 none [] 0 none [] 0 N') ?_ ?_ N (oD _) ?_
  ·intro i am hi N' ao U
   simp only [yB] at U
   rw [U] at J
   refine sD _ _ _ _ _ _ _ _ _ _ _ _ _ _ _ _ _ _ _ _ _ _ _ _ _ ?_
   rw [am]
   exact λN2 ai=>J _ _ (by omega) aa
  ·intro i x xs I aq au N' ao U
   have hb:=I.b
   have aj:i<l.length:=(oC.1 I.g).1
   refine sD _ _ _ _ _ _ _ _ _ _ _ _ _ _ _ _ _ _ _ _ _ _ _ _ _ ?_
   rw [I.lt,I.w]
   refine ⟨⟨by omega,by omega⟩,λN1 aw=>zBu hm.b N1 _ λN2 ai _ N3 ax=>?_⟩
   have hr:=I.r
   rw [<-oH i] at hr
   refine ih x I.m _ hr ((hF.mem x I.m).up (by omega)) _ (hm.next (uD I.m)) N3 _ λdx N4 ay hx _ _=>Br.of (λhv N5 az=>?_) λhv=>?_
   ·simp only [yB] at U
    rw [if_pos hv] at U
    simp only at U
    rw [U] at J
    refine zQP sY aa hF.z.g hx aj (N0:=N) (λd N=>Q d (x.cod (Tm.stp f) (zR k m)).2.1 true N) λd' N6 a6 ac=>J _ _ (by omega) ?_
    have:l.take i++(x.cod (Tm.stp f) (zR k m)).1::xs=l.set i (x.cod (Tm.stp f) (zR k m)).1:=by
     rw [mw,if_pos aj,aq]
    simp only
    rw [this]
    exact ac
   ·refine au _ (by omega) ?_
    simp only [yB] at U
    rw [if_neg (by rw [hv];decide)] at U
    cases hc:yB (Tm.stp f) xs (zR k m) with
    | none=>rw [hc] at U;exact U
    | some p=>
      obtain ⟨l',r⟩:=p
      rw [hc] at U
      simp only at U ⊢
      rw [U,wK I.g,nX];rfl
  ·cases hc:yB (Tm.stp f) l (zR k m) with
   | none=>rfl
   | some p=>obtain ⟨l',r⟩:=p;simp
 refine zCP N _ m Q λ_=>⟨_,rfl,Br.beq (λh1=>Br.beq (λh2=>?_) λh2=>⟨_,_,_,rfl,loop λh=>h2 h.2⟩) λh1=>⟨_,_,_,rfl,loop λh=>h1 h.1⟩⟩
 have a7:=(xH hF.ok).1 (by omega)
 have ak:0<l.length:=by omega
 have a8:=zJ ak
 have O:=hF.mem _ a8
 have ae:=yK ab ak
 simp only [Tm.cod] at J
 rw [if_pos ⟨h1,h2⟩] at J
 unfold zRD at J
 rw [zQq] at J
 refine ⟨_,_,_,rfl,⟨by omega,by omega⟩,λN1 aw=>ti ae O.ok O.g O.dp N1 _ λN2 ai _=>Br.not (λhr N3 ax=>?_) λhr N9 bd=>?_⟩
 ·rw [if_neg (by rw [hr];decide)] at J
  refine hS _ _ ae O N3 _ λdx N4 ay hx _ _=>⟨⟨rfl,rfl⟩,λa1 _ _ N5 az hb=>?_⟩
  exact zPy aa hF.z.g hx a7 hb (N0:=N) (λd N=>Q d (Tm.stp f (l.getD 0 tm0)).2 true N) λd' N6 a6 ac=>J _ _ (by omega) ac
 ·rw [if_pos hr] at J
  refine zD8 ae O.ok O.g O.dp N9 _ λdx bg ba hx _ _=>Br.of (λhv bh bb=>?_) λhv bi bc=>?_
  ·by_cases Y:(l.getD 0 tm0).kd=10
   ·rw [if_pos ⟨Y,hr⟩] at hx
    rw [if_pos Y] at J
    exact J _ _ (by omega) hx
   ·rw [if_neg (λh=>Y h.1)] at hv
    first | exact absurd (show true=false from hv) (by decide) | exact absurd (show false=true from hv) (by decide)
  ·by_cases Y:(l.getD 0 tm0).kd=10
   ·rw [if_pos ⟨Y,hr⟩] at hv
    first | exact absurd (show true=false from hv) (by decide) | exact absurd (show false=true from hv) (by decide)
   ·rw [if_neg Y] at J
    exact J _ _ (by omega) aa
theorem zFh:∀ f,zPx 34 f
 | 0=>λe d _ J=>absurd (Tm.dp_pos e) (by have:=J.d;omega)
 | f + 1=>λe d hd J N Q hQ=>by
   have ih:=zFh f
   cases e with
   | mk k nm ot n0 ty re l=>
   have O:=hd
   obtain ⟨t0,t1,r0,r1,a,es,c,rfl,hh,bi,U⟩:=Tm.is_mk.1 hd
   have hl:=U.len
   simp only [Tm.stp] at hQ
   refine zJR N _ Q λ_ N1 au=>ti O J.ok J.g J.dp N1 _ λN2 aw _=>Br.of (λhv N3 ax=>?_) λhv=>⟨_,rfl,Br.beq (λae=>?_) λae ai aj=>?_⟩
   ·rw [if_pos hv] at hQ
    exact hQ _ _ (by omega) O
   ·rw [if_neg (by rw [hv];decide),if_pos (show (Tm.mk k nm ot n0 ty re l).kd=10 from ae)] at hQ
    have ay:=(xH J.ok).1 (by omega)
    have ak:=zJ (l:=l) (i:=0) (by omega)
    have bj:=uD (k:=k) (nm:=nm) (ot:=ot) (n:=n0) (ty:=ty) (re:=re) ak
    have bm:=J.dp
    refine ⟨_,_,_,rfl,⟨by omega,by omega⟩,λN4 az=>?_⟩
    refine zIG ih _ _ (yK U (j:=0) (by omega)) ((J.mem _ ak).up (by omega)) 1 (by unfold LvIn;omega) N4 _ λdx N5 a6 hx _ _=>⟨⟨rfl,rfl⟩,λa1 _ _ N6 al hb=>?_⟩
    exact zPy O J.z.g hx ay hb (N0:=N) (λd N=>Q d (Tm.cod (Tm.stp f) (l.getD 0 tm0) 1).2.1 N) λd' N6 al ah=>hQ _ _ (by omega) ah
   ·rw [if_neg (by rw [hv];decide),if_neg (show ¬(Tm.mk k nm ot n0 ty re l).kd=10 from ae)] at hQ
    refine zLm ai _ λam ao _=>?_
    have bn:uZ k l.length<=l.length:=by
     unfold uZ
     split
     ·exact oD _
     ·split
      ·rename_i h
       obtain ⟨b1,b2,b3,_⟩:=xH J.ok
       rcases h with h | h | h | h
       ·have:=b3 h;omega
       ·have:=b2 (.inr h);omega
       ·have:=b1 (by omega);omega
       ·have:=b1 (by omega);omega
      ·omega
    have a7:All2 Tm.Is (l.take (uZ k l.length)) (es.take (uZ k l.length)):=by
     have:∀ (n:Nat) (l:List Tm) (es:List D),All2 Tm.Is l es->All2 Tm.Is (l.take n) (es.take n):=by
      intro n
      induction n with
      | zero=>intro l es _;simp;rfl
      | succ n a8=>
        intro l es h
        cases l with
        | nil=>cases h;exact rfl
        | cons x xs=>obtain ⟨y,ys,rfl,h1,h2⟩:=h;exact ⟨y,ys.take n,rfl,h1,a8 _ _ h2⟩
     exact this _ _ _ U
    have aq:(es.take (uZ k l.length)).length=uZ k l.length:=by rw [nA];omega
    rw [hl]
    refine up a7 (by omega) (λi xs=>∀ N',N<=N'->(∀ j x,j<i->(l.take (uZ k l.length))[j]?=some x->x.res=true)->(∀ r:Tm × Int,(match goS (Tm.stp f) (Tm.mk k nm ot n0 ty re l) xs i with | some r=>r | none=>(Tm.mk k nm ot n0 ty re l).apl)=r->∀ d N'',N<=N''->r.1.Is d->Q d r.2 N'') ->
     vo Q N (uZ k l.length:Nat) i (.ag [.j k,.t nm,.t ot,.j n0,t0,t1,r0,r1,.sl a 9 es c]) 0 (bytes []) (bytes []) 0 0 none [] 0 0 none [] 0 none [] 0 N') ?_ ?_ am (by omega) (λj x h=>absurd h (by omega)) (λr I d N'' h1 h2=>by rw [<-I];rw [<-I] at h2;exact hQ d N'' h1 h2)
    ·intro i Y hi N' ba hk I
     rw [aq] at Y
     refine pK _ _ _ _ _ _ _ _ _ _ _ _ _ _ _ _ _ _ _ _ _ ?_
     rw [Y]
     have I:=I _ rfl
     simp only [goS] at I
     refine λN9 bp=>zQ2 O J (λbb=>?_) N9 _ λdx ai aj hx _ _ am ao=>I _ _ (by omega) hx
     have bc:uZ k l.length=1:=by simp [uZ,bb]
     refine hk 0 _ (by omega) ?_
     rw [bc,List.getElem?_take_of_lt (by omega)]
     exact zw (by omega)
    ·intro i x xs aa bq bd N' ba hk I
     have hb:=aa.b
     have Y:=aa.lt
     rw [aq] at Y hb
     have ab:i<l.length:=by omega
     have bg:l[i]?=some x:=by
      have:=aa.g
      rw [List.getElem?_take_of_lt (by omega)] at this
      exact this
     obtain rfl:l.getD i tm0=x:=by rw [oA,bg];rfl
     have ac:=J.mem _ (zJ ab)
     refine pK _ _ _ _ _ _ _ _ _ _ _ _ _ _ _ _ _ _ _ _ _ ?_
     rw [Y,aa.w]
     refine ⟨_,_,_,rfl,⟨by omega,by omega⟩,λN1 au=>?_⟩
     rw [oH]
     refine ti (yK U ab) ac.ok ac.g ac.dp N1 _ λN2 aw _=>Br.of (λhv=>?_) λhv=>?_
     ·rw [zCc hv] at I
      refine bd _ (by omega) (λj y hj hy=>?_) I
      by_cases bh:j<i
      ·exact hk j y bh hy
      ·have:j=i:=by omega
       subst this
       rw [aa.g] at hy
       rw [<-oW hy];exact hv
     ·have I:=I _ rfl
      simp only [goS] at I
      rw [if_neg (by rw [hv];decide)] at I
      refine ⟨_,_,_,rfl,⟨by omega,by omega⟩,λN3 ax=>?_⟩
      refine ih _ _ (yK U ab) ac N3 _ λdx N4 az hx _ _ N5 a6=>?_
      have:=zQP sY O J.z.g hx ab (N0:=N) (N:=N5) (λd N=>Q d (Tm.stp f (l.getD i tm0)).2 N) λd' N6 al ah=>I _ _ (by omega) ah
      simpa only [oH] using this
theorem zHx {e:Tm} {d:D} (he:e.Is d) (U:e.G) (aa:e.dp<=1073741824) (hw:e.wd<=137438953472) (N:Nat) (Q:QT [.ag 9,.i]) (J:∀ d N',N<=N'->e.step.1.Is d->Own N N' d->Q d e.step.2 N'):ACalls prog 9 [.ag 9,.i] [.dg 9 d] N Q:=by
 unfold Tm.step at J
 refine zJT N _ Q λ_ N1 ae=>sU e d he U 0 N1 _ λN2 ah _=>Br.not (λO N3 ai=>?_) λO N7 aj=>?_
 ·rw [if_neg (by rw [O];decide)] at J
  exact qV sY he U (N0:=N) (by omega) (λd N=>Q d 0 N) λd' N4 Y I ho=>J _ _ (by omega) I ho
 ·rw [if_pos O] at J
  have ab:e.ok=true:=by unfold qx at O;simp at O;exact O.1
  refine zFh e.dp e d he (Tm.F.ofW ab (oD _) U aa hw) N7 _ λdx N8 ak hx _ _=>Br.beq (λh0 N9 al=>?_) λh0 am ac=>?_
  ·rw [if_pos h0] at J
   exact qV sY he U (N0:=N) (by omega) (λd N=>Q d 0 N) λd' N4 Y I ho=>J _ _ (by omega) I ho
  ·rw [if_neg h0] at J
   exact qV sY hx (zP9 _ _ U) (N0:=N) (by omega) (λd N=>Q d (e.stp e.dp).2 N) λd' N4 Y I ho=>J _ _ (by omega) I ho
end Go.Proofs.YtfajiphkncipoaaGreatDoor
