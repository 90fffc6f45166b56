/- Steps: the reference's, of all forms; Step. -/
import Derived.Test.YtfajiphkncipoaaGreatDoorB1
set_option linter.unusedVariables false
set_option linter.unusedSimpArgs false
namespace Go.Proofs.YtfajiphkncipoaaGreatDoor
open Go Go.Proofs Go.Proofs.Tryz Go.IntWalk
/-- what a substitution makes is not too great for another -/
theorem zUk {e b:Tm} {x:ByteArray} {f g:Nat} (I:e.F f) (J:b.F g):(e.sb x b).Z:=by
 have O:=zOl e.dp e x b (oD _) (zOU _ I.ok)
 have U:=I.w
 have Y:=J.w
 have h4:=b.fv_wd
 exact ⟨zPQ _ _ _ _ I.g J.g,by unfold Tm.sb;omega,zSm _ _ _ _ I.z.v J.z.v⟩
theorem zDB {e b:Tm} {d I:D} (J:e.Is d) (O:b.Is I) (x:ByteArray) (U:e.Z) (Y:b.Z):zRe 122 [.dg 9 d,.str x,.dg 9 I] (e.sb x b):=zFv e.dp e d x b I J O (oD _) U Y
/-- the step of a form whose parts are searched -/
def zRB (f:Nat):Tm->Nat->Tm × Int
 | .mk k nm ot n ty re l,m=>match goS (Tm.stp f) (.mk k nm ot n ty re l) (l.take m) 0 with
   | some r=>r
   | none=>(Tm.mk k nm ot n ty re l).apl
theorem zQH {f:Nat} (hS:zRC 41 f) {n0:Int} {nm ot:ByteArray} {ty re:Ty} {l:List Tm} {d:D} (hd:(Tm.mk 7 nm ot n0 ty re l).Is d) (hF:(Tm.mk 7 nm ot n0 ty re l).F (f+1)) :
  zKW 76 [.dg 9 d] (zRB f (Tm.mk 7 nm ot n0 ty re l) l.length):=λN Q hQ=>by
 have ai:=hd
 obtain ⟨t0,t1,r0,r1,a,es,c,rfl,hh,aj,Y⟩:=Tm.is_mk.1 hd
 have hl:=Y.len
 have a8:=(y9 hF.ok).2.1 (.inl rfl)
 simp only [zRB,List.take_length] at hQ
 have e2:(es.length:Int)=2:=by omega
 refine zHH N _ Q λ_=>⟨_,_,_,rfl,⟨by omega,by omega⟩,?_⟩
 refine up Y aj (λi xs=>∀ N',N<=N'->(∀ r:Tm × Int,(match goS (Tm.stp f) (Tm.mk 7 nm ot n0 ty re l) xs i with | some r=>r | none=>(Tm.mk 7 nm ot n0 ty re l).apl)=r->∀ d N'',N<=N''->r.1.Is d->Q d r.2 N'') ->
  wY Q N i (.ag [.j 7,.t nm,.t ot,.j n0,t0,t1,r0,r1,.sl a 9 es c]) 0 (bytes []) (bytes []) 0 0 none [] 0 0 none [] 0 none [] 0 (List.getD es 0 default) N') ?_ ?_ N (oD _) (λr I d N'' h1 h2=>by rw [<-I];rw [<-I] at h2;exact hQ d N'' h1 h2)
 ·intro i aa hi N' am I
  have I:=I _ rfl
  simp only [goS,Tm.apl] at I
  rw [if_neg (by decide),if_neg (by decide),if_pos trivial] at I
  refine qE _ _ _ _ _ _ _ _ _ _ _ _ _ _ _ _ _ _ _ _ _ ?_
  rw [<-e2,aa]
  have ab:=yQ Y (j:=0) (by omega)
  have ac:=yQ Y (j:=1) (by omega)
  have O:=hF.mem _ (zI (l:=l) (i:=0) (by omega))
  have ae:=hF.mem _ (zI (l:=l) (i:=1) (by omega))
  generalize l.getD 0 tm0=p at ab O I
  generalize l.getD 1 tm0=q at ac ae I
  have ak:=ab
  cases p with
  | mk pk pn po pm pt pr pl=>
  obtain ⟨u0,u1,v0,v1,a2,ba,c2,heq,bb,ao,U⟩:=Tm.is_mk.1 ab
  have bc:=U.len
  rw [heq] at ak ⊢
  have one:(pk=6\/pk=9)->pl.length=1:=λh=>(y9 O.ok).1 (by omega)
  have ah:pl.length=1->(pl.getD 0 tm0).F f:=λh=>((O.up (g:=f+1) (by omega)).mem _ (zI (l:=pl) (i:=0) (by omega)))
  refine ⟨_,rfl,Br.beq (λh6=>?_) λh6=>Br.beq (λh9=>?_) λh9 bg ax=>?_⟩
  ·have h1:=one (.inl h6)
   rw [if_pos (show (Tm.mk pk pn po pm pt pr pl).kd=6 from h6)] at I
   refine ⟨_,_,_,rfl,⟨by omega,by omega⟩,_,rfl,_,_,_,rfl,⟨by omega,by omega⟩,λN6 bh=>?_⟩
   exact zDB (yQ U (j:=0) (by omega)) ac pn (ah h1).z ae.z N6 _ λdx N7 bi hx _ _ _ N8 bj=>I _ _ (by omega) hx
  ·have h1:=one (.inr h9)
   rw [if_neg (show ¬(Tm.mk pk pn po pm pt pr pl).kd=6 from h6),if_pos (show (Tm.mk pk pn po pm pt pr pl).kd=9 from h9)] at I
   refine ⟨_,_,_,rfl,⟨by omega,by omega⟩,_,rfl,_,rfl,_,_,_,rfl,⟨by omega,by omega⟩,λN9 bm=>?_⟩
   refine zDB (yQ U (j:=0) (by omega)) ak pn (ah h1).z O.z N9 _ λdx bp ay hx _ _ _ aq az=>?_
   exact zDB hx ac po (zUk (ah h1) O) ae.z aq _ λdy bq a6 hy _ _ _ bt a7=>I _ _ (by omega) hy
  ·rw [if_neg (show ¬(Tm.mk pk pn po pm pt pr pl).kd=6 from h6),if_neg (show ¬(Tm.mk pk pn po pm pt pr pl).kd=9 from h9)] at I
   exact I _ _ (by omega) ai
 ·intro i x xs J bv au N' am I
  have hb:=J.b
  have aw:i<l.length:=(oC.1 J.g).1
  obtain rfl:l.getD i tm0=x:=by rw [oA,J.g];rfl
  have al:=hF.mem _ J.m
  have aa:=J.lt
  rw [e2] at aa
  refine qE _ _ _ _ _ _ _ _ _ _ _ _ _ _ _ _ _ _ _ _ _ ?_
  rw [aa,oJ,J.w]
  refine ⟨_,_,_,rfl,⟨by omega,by omega⟩,λN1 bw=>xE J.r al.ok al.dp N1 _ λN2 bz _=>Br.not (λhv N3 b1=>?_) λhv=>?_⟩
  ·have I:=I _ rfl
   simp only [goS] at I
   rw [if_neg (by rw [hv];decide)] at I
   exact zGg hS ai hF aw N3 _ λdx N4 b2 hx _ _ N5 b3=>I _ _ (by omega) hx
  ·rw [zDD hv] at I
   exact au _ (by omega) I
theorem zQR {l:List Tm} (h:0<l.length):l.take 1=[l.getD 0 tm0]:=by
 cases l with
 | nil=>simp at h
 | cons x xs=>rfl
/-- the number of a literal's cells -/
theorem zNe {k n:Int} {nm ot:ByteArray} {ty re:Ty} {l:List Tm} (h:(Tm.mk k nm ot n ty re l).ok=true) (U:k=2\/k=3):(Tm.mk k nm ot n ty re l).cnt<=1073741824:=by
 have nd:=xJ h
 have Y:=(y9 h).2.2.2.1 (.inr U)
 have:l=[]:=oU Y
 subst this
 have O:∀ t:Ty,t.zero=true->t.cnt<=30:=λt J=>by
  cases t with
  | mk k l=>
  simp only [Ty.zero,Ty.k,Ty.as,oI,nw] at J
  have:l=[]:=oU (by omega)
  subst this
  simp [Ty.cnt,zM]
 have v1:∀ t:Ty,t.valid=true->t.cnt<=30:=λt J=>Ty.valid_cnt J
 have I:=nd.f
 simp only [zJ,oI,nw,mZ] at I
 have aa:ty.cnt<=30:=by
  rcases I.2.1 with h | h
  ·exact v1 _ (by rw [<-I.1,h])
  ·exact O _ h
 have ab:re.cnt<=30:=by
  rcases I.2.2.2.1 with h | h
  ·exact v1 _ (by rw [<-I.2.2.1];simpa using h)
  ·exact O _ h
 simp only [Tm.cnt,zh]
 omega
theorem zM9 (k:Int) {p:Tm} {d:D} (h:p.Is d) (hc:p.cnt<=1073741824) (a:Option Addr) (N:Nat) (Q:QT [.ag 9]) (I:∀ d' N',N<=N'->(Tm.nod k [p]).Is d'->Own N N' d'->Q d' N') :
 ACalls prog 87 [.ag 9] [.j k,.sv a 9 [d] 1] N Q:=zDN k (l:=[p]) (es:=[d]) ⟨d,[],rfl,h,rfl⟩ (by simp) (by simpa using hc) a 1 N Q I
/-- a form whose first part is searched -/
theorem zDI {f:Nat} (hS:zRC 41 f) {k n0:Int} {nm ot:ByteArray} {ty re:Ty} {l:List Tm} {d:D} (hk:k=5\/k=8\/k=12\/k=13) (hd:(Tm.mk k nm ot n0 ty re l).Is d) (hF:(Tm.mk k nm ot n0 ty re l).F (f+1)) :
  zKW 79 [.dg 9 d] (zRB f (Tm.mk k nm ot n0 ty re l) 1):=λN Q I=>by
 have aa:=hd
 obtain ⟨t0,t1,r0,r1,a,es,c,rfl,hh,bb,ab⟩:=Tm.is_mk.1 hd
 have hl:=ab.len
 have ac:0<l.length:=by
  obtain ⟨a1,a2,a3,_⟩:=y9 hF.ok
  rcases hk with h | h | h | h
  ·have:=a3 h;omega
  ·have:=a2 (.inr h);omega
  ·have:=a1 (by omega);omega
  ·have:=a1 (by omega);omega
 have ae:=yQ ab ac
 have J:=hF.mem _ (zI ac)
 simp only [zRB] at I
 rw [zQR ac] at I
 simp only [goS] at I
 refine zHU N _ Q λ_=>⟨_,_,_,rfl,⟨by omega,by omega⟩,λN1 bg=>xE ae J.ok J.dp N1 _ λN2 bh _=>Br.not (λhv N3 bi=>?_) λhv=>?_⟩
 ·rw [if_neg (by rw [hv];decide)] at I
  exact zGg hS aa hF ac N3 _ λdx N4 aw hx _ _ N5 ax=>I _ _ (by omega) hx
 rw [if_pos hv] at I
 simp only [Tm.apl] at I
 generalize bj:l.getD 0 tm0=p at ae J hv I
 have ai:=ae
 have am:=λh=>zHh J.ok h
 cases p with
 | mk pk O U pm pt pr Y=>
 obtain ⟨u0,u1,v0,v1,a2,ay,c2,heq,bm,az,ah⟩:=Tm.is_mk.1 ae
 have bp:=ah.len
 simp only [Tm.kd,Tm.no] at am
 rw [heq] at ai ⊢
 have lift:∀ (N:Nat) (a:Option Addr) (N':Nat) (hN:N2<=N) (_:wU N [a]) (_:(Tm.mk pk O U pm pt pr Y).cnt<=1073741824),(∀ d N',N2<=N'->(Tm.nod 10 [Tm.mk pk O U pm pt pr Y]).Is d->Q d 8 N') ->
   ACalls prog 87 [.ag 9] [.j 10,.sv a 9 [.ag [.j pk,.t O,.t U,.j pm,u0,u1,v0,v1,.sl a2 9 ay c2]] 1] N (λx N7=>N<=N7->Off [a] x/\(Bel N7 x->∀ N8,N7<=N8->Q x 8 N8)):=λN3 a N' hN hb a7 hq=>
  zM9 10 ai a7 a N3 _ λdx N4 aw hx ho _=>⟨vP hb ho,λ_ N5 ax=>hq _ _ (by omega) hx⟩
 rcases hk with rfl | rfl | rfl | rfl
 ·have bq:=(y9 hF.ok).2.2.1 rfl
  rw [if_neg (by decide),if_pos rfl] at I
  refine ⟨_,rfl,Br.beq (λ_=>⟨_,rfl,Br.beq (λh3=>?_) λh3=>?_⟩) (λh=>absurd rfl h)⟩
  ·have hn:=am h3
   rw [if_pos (show (Tm.mk pk O U pm pt pr Y).kd=3 from h3)] at I
   have hw:IntKind.i64.wrap (2 - pm)=2 - pm:=i64_in _ (by omega)
   refine ⟨_,_,_,rfl,_,rfl,?_⟩
   rw [hw]
   refine ⟨⟨by omega,by omega⟩,λN6 ao=>?_⟩
   refine qx tT (yQ ab (j:=(2 - pm).toNat) (by omega)) (zn hF.z.g.2.2.2 (zI (by omega))) (N0:=N) (by omega) (λd N=>Q d 2 N) λd' N7 aq aj _=>I _ _ (by omega) aj
  ·rw [if_neg (show ¬(Tm.mk pk O U pm pt pr Y).kd=3 from h3)] at I
   repeat' first | refine ⟨_,rfl,?_⟩ | refine Br.beq (λh=>absurd h (by decide)) λ_=>?_
   all_goals exact λN hN=>I _ _ (by omega) aa
 ·have bt:=(y9 hF.ok).2.1 (.inr rfl)
  rw [if_neg (by decide),if_neg (by decide),if_neg (by decide),if_pos rfl] at I
  have a8:=hF.mem _ (zI (l:=l) (i:=1) (by omega))
  have ba:=yQ ab (j:=1) (by omega)
  repeat' first | refine ⟨_,rfl,?_⟩ | refine Br.beq (λh=>absurd h (by decide)) λ_=>?_ | refine Br.beq (λ_=>?_) (λh=>absurd rfl h)
  all_goals
   refine ⟨_,_,_,rfl,⟨by omega,by omega⟩,_,rfl,λN6 ao=>?_⟩
   exact zDB ba ai nm a8.z J.z N6 _ λdx N7 aq hx _ _ _ N8 bv=>I _ _ (by omega) hx
 ·rw [if_neg (by decide),if_neg (by decide),if_neg (by decide),if_neg (by decide),if_pos rfl] at I
  repeat' first | refine ⟨_,rfl,?_⟩ | refine Br.beq (λh=>absurd h (by decide)) λ_=>?_ | refine Br.beq (λ_=>?_) (λh=>absurd rfl h)
  all_goals
   refine Br.beq (λak=>?_) λak=>?_
   ·rw [if_pos (show (Tm.mk pk O U pm pt pr Y).kd=10 from ak)] at I
    have h1:=(y9 J.ok).1 (by omega)
    refine ⟨_,_,_,rfl,⟨by omega,by omega⟩,λN6 ao=>?_⟩
    refine qx tT (yQ ah (j:=0) (by omega)) (zn J.z.g.2.2.2 (zI (by omega))) (N0:=N) (by omega) (λd N=>Q d 7 N) λd' N7 aq aj _=>I _ _ (by omega) aj
   ·rw [if_neg (show ¬(Tm.mk pk O U pm pt pr Y).kd=10 from ak)] at I
    repeat' first | refine ⟨_,rfl,?_⟩ | refine Br.beq (λh=>absurd h (by decide)) λ_=>?_
    all_goals exact λN hN=>I _ _ (by omega) aa
 ·rw [if_neg (by decide),if_neg (by decide),if_neg (by decide),if_neg (by decide),if_neg (by decide),if_pos rfl] at I
  repeat' first | refine ⟨_,rfl,?_⟩ | refine Br.beq (λh=>absurd h (by decide)) λ_=>?_ | refine Br.beq (λ_=>?_) (λh=>absurd rfl h)
  all_goals
   refine Br.beq (λh2=>⟨⟨rfl,rfl⟩,λa6 _ al au hb=>?_⟩) λh2=>⟨_,rfl,Br.beq (λh3=>⟨⟨rfl,rfl⟩,λa6 _ al au hb=>?_⟩) λh3 bw bc=>?_⟩
   ·rw [if_pos (show (Tm.mk pk O U pm pt pr Y).kd=2\/(Tm.mk pk O U pm pt pr Y).kd=3 from .inl h2)] at I
    exact lift al a6 0 (by omega) hb (zNe J.ok (.inl h2)) λd N' h1 h2=>I _ _ (by omega) h2
   ·rw [if_pos (show (Tm.mk pk O U pm pt pr Y).kd=2\/(Tm.mk pk O U pm pt pr Y).kd=3 from .inr h3)] at I
    exact lift al a6 0 (by omega) hb (zNe J.ok (.inr h3)) λd N' h1 h2=>I _ _ (by omega) h2
   ·rw [if_neg (show ¬((Tm.mk pk O U pm pt pr Y).kd=2\/(Tm.mk pk O U pm pt pr Y).kd=3) from λh=>h.elim h2 h3)] at I
    exact I _ _ (by omega) aa
theorem zIi:∀ f,zRC 41 f
 | 0=>λe d _ U=>absurd (Tm.dp_pos e) (by have:=U.d;omega)
 | f+1=>λe d hd U N Q hQ=>by
   have ih:=zIi f
   cases e with
   | mk k nm ot n0 ty re l=>
   have I:=hd
   obtain ⟨t0,t1,r0,r1,a,es,c,rfl,hh,am,ah⟩:=Tm.is_mk.1 hd
   have hl:=ah.len
   simp only [Tm.stp] at hQ
   refine zFh N _ Q λ_ N1 ay=>xE I U.ok U.dp N1 _ λN2 az _=>Br.of (λhv N3 a6=>?_) λhv=>⟨_,rfl,?_⟩
   ·rw [if_pos hv] at hQ
    exact hQ _ _ (by omega) I
   rw [if_neg (by rw [hv];decide)] at hQ
   have other:k≠10->∀ m,tZ k l.length=m->∀ d N',N<=N'->(zRB f (Tm.mk k nm ot n0 ty re l) m).1.Is d->Q d (zRB f (Tm.mk k nm ot n0 ty re l) m).2 N':=λhk m hm=>by
    rw [if_neg (show ¬(Tm.mk k nm ot n0 ty re l).kd=10 from hk),hm] at hQ
    exact hQ
   refine Br.beq (λh4 N4 Y=>?_) λh4=>Br.beq (λh7 N4 Y=>?_) λh7=>Br.beq (λO=>?_) λO=>Br.beq (λh5 N4 Y=>?_) λh5=>Br.beq (λh8 N4 Y=>?_) λh8=>Br.beq (λaa N4 Y=>?_) λaa=>Br.beq (λab N4 Y=>?_) λab N4 Y=>?_
   ·subst h4
    have J:=other (by decide) l.length (by simp [tZ])
    simp only [zRB,List.take_length,Tm.apl,ma] at J
    exact zRd ih I U rfl N4 _ λx N5 ac hx _ _ N6 ae=>J _ _ (by omega) hx
   ·subst h7
    have J:=other (by decide) l.length (by simp [tZ])
    exact zQH ih I U N4 _ λx N5 ac hx _ _ N6 ae=>J _ _ (by omega) hx
   ·rw [if_pos (by exact O)] at hQ
    have a7:=(y9 U.ok).1 (by omega)
    have ai:=zI (l:=l) (i:=0) (by omega)
    refine ⟨_,_,_,rfl,⟨by omega,by omega⟩,λaj ao=>?_⟩
    have a8:=dp_mem (k:=k) (nm:=nm) (ot:=ot) (n:=n0) (ty:=ty) (re:=re) ai
    have ba:=U.dp
    refine zOo ih _ _ (yQ ah (j:=0) (by omega)) ((U.mem _ ai).up (by omega)) 1 (by unfold LvIn;omega) aj _ λdx bb aq hx _ _ ak au=>?_
    exact zD5 I U.z.g hx (i:=0) (by simp only [Tm.as];omega) ak _ λd' bc aw al _ _ bg ax=>hQ _ _ (by omega) al
   ·have J:=other O 1 (by simp [tZ,h4,h7,h5])
    exact zDI ih (.inl h5) I U N4 _ λx N5 ac hx _ _ N6 ae=>J _ _ (by omega) hx
   ·have J:=other O 1 (by simp [tZ,h4,h7,h8])
    exact zDI ih (.inr (.inl h8)) I U N4 _ λx N5 ac hx _ _ N6 ae=>J _ _ (by omega) hx
   ·have J:=other O 1 (by simp [tZ,h4,h7,aa])
    exact zDI ih (.inr (.inr (.inl aa))) I U N4 _ λx N5 ac hx _ _ N6 ae=>J _ _ (by omega) hx
   ·have J:=other O 1 (by simp [tZ,h4,h7,ab])
    exact zDI ih (.inr (.inr (.inr ab))) I U N4 _ λx N5 ac hx _ _ N6 ae=>J _ _ (by omega) hx
   ·have J:=other O 0 (by simp [tZ,h4,h7,h5,h8,aa,ab])
    simp only [zRB,mt,goS,Tm.apl] at J
    rw [if_neg h4,if_neg h5,if_neg h7,if_neg h8,if_neg aa,if_neg ab] at J
    exact J _ _ (by omega) I
theorem zCM {e:Tm} {d:D} (he:e.Is d) (U:e.G) (aa:e.dp<=1073741824) (hw:e.wd<=137438953472):zKW 12 [.dg 9 d] e.step:=λN Q I=>by
 unfold Tm.step at I
 refine zJ5 N _ Q λ_ N1 am=>vq e d he U 0 N1 _ λN2 ao _=>Br.not (λY N3 aq=>?_) λY N7 au=>?_
 ·rw [if_neg (by rw [Y];decide)] at I
  exact qx tT he U (N0:=N) (by omega) (λd N=>Q d 0 N) λd' N4 ab O _=>I _ _ (by omega) O
 ·rw [if_pos Y] at I
  have ac:e.ok=true:=by unfold qr at Y;simp at Y;exact Y.1
  refine tT e d he U N7 _ ?_
  cases e with
  | mk k nm ot n0 ty re l=>
  intro x4 x5 x6 x7 aw c' N8 ax ae J ay _ _
  have az:=J.len
  have a6:=U.2.2.1
  refine ⟨⟨rfl,rfl⟩,λa1 N9 a7 _ ah ai=>?_⟩
  refine zIi _ _ _ (Tm.is_mk.2 ⟨_,_,_,_,_,_,_,rfl,ae,by omega,J⟩) (Tm.F.ofW ac (oD _) U aa hw) ah _ λdx a8 aj hx _ _=>Br.beq (λh0 ba ak=>?_) λh0 bb al=>?_
  ·rw [if_pos h0] at I
   exact qx tT he U (N0:=N) (by omega) (λd N=>Q d 0 N) λd' N4 ab O _=>I _ _ (by omega) O
  ·rw [if_neg h0] at I
   exact I _ _ (by omega) hx
theorem zL4 {s:ByteArray} (h:0<zDL s):s=bytes [43]\/s=bytes [45]\/s=bytes [42]\/s=bytes [61]\/s=bytes [60]\/s=bytes [38]\/s=bytes [124]\/s=bytes [33]:=by
 unfold zDL at h
 (repeat' split at h)<;>first | exact absurd h (by decide) | simp [*]
theorem zMp {s:ByteArray} (h:0<zDL s) {a b:Int} (I:0<=a/\a<=10006) (J:0<=b/\b<=10006):(zr s a b).2=true:=by
 have:=zL4 h
 unfold zr
 rw [if_pos (yo.2 I),if_pos (yo.2 J)]
 (repeat' split)<;>first | rfl | (rcases this with h | h | h | h | h | h | h | h<;>contradiction)
def rV (s:ByteArray):Bool:=vV s||(decide (s=bytes [61])||decide (s=bytes [60]))
theorem zNZ {s:ByteArray} (h:0<zDL s):rL s=if rV s then 3 else 2:=by
 rcases zL4 h with h | h | h | h | h | h | h | h<;>subst h<;>decide +kernel
theorem zFu (s:ByteArray):ur 141 [.str s] (vV s):=λN Q J=>
 zES N s Q (Br.str (λe1 N1 I=>Qb (J _ I) (by simp [vV,e1])) λe1=>Br.str (λO N1 I=>Qb (J _ I) (by simp [vV,O])) λO N1 I=>Qb (J _ I) (by simp [vV,e1,O,vU]))
theorem zJ6 (s:ByteArray):ur 144 [.str s] (rV s):=λN Q J=>
 zCv N s Q λN1 O=>zFu s N1 _ λN2 U _=>Br.of (λe0 N3 I=>Qb (J _ (by omega)) (by simp [rV,e0])) λe0=>Br.str (λe1 N3 I=>Qb (J _ (by omega)) (by simp [rV,e1])) λe1 N3 I=>Qb (J _ (by omega)) (by simp [rV,e0,e1,vU])
theorem zOF (n:Int) (b:Bool) (N:Nat) (Q:QT [.ag 9]) (J:∀ d N',N<=N'->(zJP (if b then 3 else 2) n).Is d->Q d N'):ACalls prog 143 [.ag 9] [.j n,.bool b] N Q:=by
 refine zFC N n b Q (Br.of (λh N1 I=>J _ _ I (by rw [h];exact zHT)) λh N2 O=>zIY N2 n _ λN3 U _ _ N4 Y=>J _ _ (by omega) (by rw [h];exact zHT))
def zP8 (f:FuncId) (args:List PV) (r:Tm × Bool):Prop:=∀ (N:Nat) (Q:QT [.ag 9,.bool]),(∀ d N',N<=N'->r.1.Is d->Q d r.2 N')->ACalls prog f [.ag 9,.bool] args N Q
theorem zLL:tm0.Is (.ag [.j 0,.t (bytes []),.t (bytes []),.j 0,.j 0,.sl none 2 [] 0,.j 0,.sl none 2 [] 0,.sl none 9 [] 0]):=
 Tm.is_mk.2 ⟨_,_,_,_,_,_,_,rfl,⟨by decide,by decide,xh _,xh _⟩,by simp,rfl⟩
theorem zT1 {n0:Int} {nm ot:ByteArray} {ty re:Ty} {l:List Tm} (h:(Tm.mk 4 nm ot n0 ty re l).ok=true):0<zDL nm:=by
 simp only [Tm.ok,oI,zJ,xK] at h
 have:=h.2.1.2.2.2.2.2
 rw [if_pos trivial,oI] at this
 simpa using this.1
theorem zOD {e:Tm} (h:e.ok=true) (I:e.kd=2\/e.kd=3):0<=e.no/\e.no<=10006:=by
 cases e with
 | mk k nm ot n ty re l=>
 simp only [Tm.kd] at I
 simp only [Tm.ok,oI,zJ,inB] at h
 simp only [Tm.no]
 rcases I with rfl | rfl
 ·have:=h.2.1.2.2.2.2.1
  simp at this;omega
 ·have:=h.2.1.2.2.2.2.1
  simp at this;omega
theorem zJc (s:ByteArray):yI s=2\/yI s=3:=by unfold yI;split<;>simp
/-- what an operation of literals gives -/
def zPV (nm:ByteArray) (l:List Tm):Tm × Bool:=if l.all (λx=>x.kd==yI nm) then (zJP (rL nm) (zr nm (l.getD 0 tm0).no (l.getD 1 tm0).no).1,true) else (tm0,false)
theorem zMq {n0:Int} {nm ot:ByteArray} {ty re:Ty} {l:List Tm} {d:D} (hd:(Tm.mk 4 nm ot n0 ty re l).Is d) (aa:0<zDL nm) (ae:l.length<=2) (ah:∀ x∈l,x.kd=2\/x.kd=3->0<=x.no/\x.no<=10006):zP8 104 [.dg 9 d] (zPV nm l):=λN Q hQ=>by
 obtain ⟨t0,t1,r0,r1,a,es,c,rfl,hh,ab,ac⟩:=Tm.is_mk.1 hd
 have hl:=ac.len
 have loop:∀ N',N<=N'->yX Q N (yI nm) 2 2 a es c es.length 0 (.ag [.j 4,.t nm,.t ot,.j n0,t0,t1,r0,r1,.sl a 9 es c]) 0 (bytes []) (bytes []) 0 0 none [] 0 0 none [] 0 none [] 0 [.j 0,.j 0] 2 N':=λN' J=>by
  refine up ac ab (λi xs=>∀ N',N<=N'->(∀ j x,j<i->l[j]?=some x->x.kd=yI nm)->yX Q N (yI nm) 2 2 a es c es.length i (.ag [.j 4,.t nm,.t ot,.j n0,t0,t1,r0,r1,.sl a 9 es c]) 0 (bytes []) (bytes []) 0 0 none [] 0 0 none [] 0 none [] 0 (zFJ l i) 2 N') ?_ ?_ N' J (λj x h=>absurd h (by omega))
  ·intro i ai hi N' J hk
   have O:∀ x∈l,x.kd=yI nm:=λx U=>by
    obtain ⟨j,hj⟩:=oP.1 U
    exact hk j x (by have:=(oC.1 hj).1;omega) hj
   have aj:i=l.length:=by omega
   have hr:∀ j,0<=(l.getD j tm0).no/\(l.getD j tm0).no<=10006:=λj=>by
    by_cases hj:j<l.length
    ·have hm:=zI hj
     refine ah _ hm ?_
     rw [O _ hm];exact zJc nm
    ·rw [zDM (by omega)];decide
   have hq:zPV nm l=(zJP (rL nm) (zr nm (l.getD 0 tm0).no (l.getD 1 tm0).no).1,true):=by
    unfold zPV
    rw [if_pos (oV.2 λx U=>by rw [O x U];exact beq_self_eq_true _)]
   rw [hq] at hQ
   refine sq _ _ _ _ _ _ _ _ _ _ _ _ _ _ _ _ _ _ _ _ _ _ _ _ _ _ _ _ _ ?_
   rw [ai,aj,zK9 ae]
   refine ⟨_,rfl,⟨⟨by omega,by omega,by simp⟩,by simp,_,rfl,⟨by omega,by omega,by simp⟩,by simp,_,rfl,λN2 ak=>zFL _ _ _ N2 _ λN3 ay _=>⟨_,rfl,λN4 az=>zJ6 _ N4 _ λN5 a6 _ N6 a7=>zOF _ _ N6 _ λx N7 a8 U _ _ N8 ba=>?_⟩⟩⟩
   rw [zMp aa (hr 0) (hr 1)]
   rw [<-zNZ aa] at U
   exact hQ _ _ (by omega) U
  ·intro i x xs I bb al N' J hk
   have hb:=I.b
   have U:=I.r
   have am:l.getD i tm0=x:=by rw [oA,I.g];rfl
   refine sq _ _ _ _ _ _ _ _ _ _ _ _ _ _ _ _ _ _ _ _ _ _ _ _ _ _ _ _ _ ?_
   rw [I.lt,oJ,I.w]
   cases x with
   | mk pk pn po pm pt pr pl=>
   obtain ⟨u0,u1,v0,v1,a2,bc,c2,heq,bg,ao,ax⟩:=Tm.is_mk.1 U
   rw [heq]
   refine ⟨⟨by omega,by omega⟩,_,rfl,Br.bne (λaq N1 au=>?_) λhe=>⟨_,rfl,⟨by omega,by omega,by simp only [zFJ,oM,oS];omega⟩,by simp only [zFJ,oM,oS];omega,?_⟩⟩
   ·have hq:zPV nm l=(tm0,false):=by
     unfold zPV
     rw [if_neg λhc=>aq (by have:=oV.1 hc _ I.m;exact (by simpa using this:(Tm.mk pk pn po pm pt pr pl).kd=yI nm))]
    rw [hq] at hQ
    exact hQ _ _ (by omega) zLL
   ·rw [om]
    have Y:=zLW (l:=l) (i:=i) (by omega)
    rw [am] at Y
    simp only [Tm.no] at Y
    rw [Y]
    refine al _ J λj y hj hy=>?_
    by_cases aw:j<i
    ·exact hk j y aw hy
    ·have:j=i:=by omega
     subst this
     rw [I.g] at hy
     rw [<-oW hy];exact he
 refine zFP N _ Q λ_=>⟨_,rfl,λN1 au=>zFu nm N1 _ λN2 ak _=>Br.of (λh=>⟨_,_,_,rfl,?_⟩) λh=>⟨_,_,_,rfl,?_⟩⟩
 ·have:=loop N2 (by omega)
  rw [show yI nm=3 by unfold yI;rw [if_pos h]] at this
  exact this
 ·have:=loop N2 (by omega)
  rw [show yI nm=2 by unfold yI;rw [if_neg (by rw [h];decide)]] at this
  exact this
theorem zNK {n0:Int} {nm ot:ByteArray} {ty re:Ty} {l:List Tm} {d:D} (hd:(Tm.mk 4 nm ot n0 ty re l).Is d) (I:(Tm.mk 4 nm ot n0 ty re l).ok=true):zP8 104 [.dg 9 d] (zPV nm l):=by
 have O:l.length<=2:=by
  have h1:=(y9 I).2.2.2.2 rfl
  have h2:=zO2 nm
  omega
 have J:∀ x∈l,x.ok=true:=by
  simp only [Tm.ok,oI] at I
  have U:∀ {l:List Tm},tn l=true->∀ x∈l,x.ok=true:=λ{l}=>by
   induction l with
   | nil=>intro _ x hx;simp at hx
   | cons t ts Y=>
     intro h x hx
     simp only [tn,oI] at h
     rcases oF.1 hx with rfl | hx
     ·exact h.1
     ·exact Y h.2 x hx
  exact U I.1
 exact zMq hd (zT1 I) O λx hx h=>zOD (J x hx) h
theorem zD0 {k n m:Int} {c1 O U Y c6 c7 c8:D}:ur 140 [.dg 9 (.ag [.j k,c1,O,.j n,U,Y,c6,c7,c8]),.j m] (!(k==11&&m==1)):=λN Q J=>
 qp N _ m Q λ_=>⟨_,rfl,Br.bne (λh N1 I=>Qb (J _ I) (by simp [h])) λh N1 I=>Qb (J _ I) (by rw [h];simp [bne])⟩
theorem zM4:∀ (t:Tm) (d:D),t.Is d->∀ m:Int,LvIn m t.dp->ur 59 [.dg 9 d,.j m,.fn 140 []] (t.made m):=by
 refine Tm.ind λk nm ot n ty re l ih d hd m hm N Q hQ=>?_
 obtain ⟨t0,t1,r0,r1,a,es,c,rfl,hh,O,U⟩:=Tm.is_mk.1 hd
 have hl:=U.len
 refine zBb N _ m Q λ_ N1 ae=>zD0 N1 _ λN2 ah _=>Br.not (λY N3 ai=>Qb (hQ _ (by omega)) (by simp only [Tm.made,Y,Bool.false_and])) λY=>⟨_,_,_,rfl,?_⟩
 refine up U O (λi xs=>∀ (N':Nat),N<=N'->(∀ N'',N'<=N''->Q (vB xs (zW k m)) N'')->xz Q N m a es c es.length i (.ag [.j k,.t nm,.t ot,.j n,t0,t1,r0,r1,.sl a 9 es c]) N') ?_ ?_ N2 (by omega) λN'' h=>Qb (hQ N'' (by omega)) (by simp only [Tm.made,Y,Bool.true_and])
 ·intro i aa _ N' ab J
  refine rC _ _ _ _ _ _ _ _ _ _ ?_
  repeat' first|with_reducible intro _|simp only[aa,Y1,Y2,Y3,Y4]|with_reducible refine X ?_ ?_|refine⟨_,_,_,rfl,?_⟩|refine⟨_,rfl,?_⟩|refine And.intro (by first|omega|trivial|(show _=_;rfl)|(with_reducible constructor)<;>first|omega|trivial|rfl) ?_|fail
  exact Qb (J _ (by omega)) (by simp [vB])
 ·intro i x xs I _ ac N' ab J
  have aj:=I.b
  refine rC _ _ _ _ _ _ _ _ _ _ ?_
  repeat' first|with_reducible intro _|simp only[I.lt,I.w,oJ,Y1,Y2,Y3,Y4]|with_reducible refine X ?_ ?_|refine⟨_,_,_,rfl,?_⟩|refine⟨_,rfl,?_⟩|refine And.intro (by first|omega|trivial|(show _=_;rfl)|(with_reducible constructor)<;>first|omega|trivial|rfl) ?_|refine (zCU hm.b) _ _ ?_|refine (ih x I.m _ I.r _ (hm.next (dp_mem I.m))) _ _ ?_|fail
  ·refine Qb (J _ (by omega)) ?_;simp [vB, *]
  ·exact ac _ (by omega) λN'' h=>Qb (J N'' (by omega)) (by simp [vB, *])
theorem zG8 {t:Tm} {d:D} (hd:t.Is d) (hc:t.G) {m:Int} (U:LvIn m t.dp):ur 101 [.dg 9 d,.j m] (qr t m&&t.made m):=λN Q O=>
 zAA N _ m Q λ_ N1 Y=>s6 t d hd hc m N1 _ λN2 aa _=>Br.of (λI N3 J=>zM4 t d hd m U N3 _ λN4 ab _ N5 ac=>Qb (O _ (by omega)) (by rw [I];simp)) λI N3 J=>Qb (O _ (by omega)) (by rw [I];simp)
theorem sL {e:Tm} {d:D} (he:e.Is d) (J:e.ok=true) (hc:e.G) (ac:e.dp<=1073741824):ur 62 [.dg 9 d] e.res:=λN Q hQ=>by
 cases e with
 | mk k nm ot n0 ty re l=>
 have hI:=tO _ d he hc
 rw [J] at hI
 obtain ⟨t0,t1,r0,r1,a,es,c,rfl,hh,ai,aa⟩:=Tm.is_mk.1 he
 have hl:=aa.len
 refine zEf N _ Q λ_=>⟨_,rfl,?_⟩
 refine Br.beq (λh2 N1 I=>hI N1 _ λN2 O _ N3 U=>Qb (hQ _ (by omega)) (by simp [Tm.res,zKj,Tm.kd,h2])) λh2=>?_
 refine Br.beq (λh3 N1 I=>hI N1 _ λN2 O _ N3 U=>Qb (hQ _ (by omega)) (by simp [Tm.res,zKj,Tm.kd,h3])) λh3=>?_
 refine Br.beq (λh6 N1 I=>hI N1 _ λN2 O _ N3 U=>Qb (hQ _ (by omega)) (by simp [Tm.res,zKj,Tm.kd,h6])) λh6=>?_
 refine Br.beq (λh9 N1 I=>hI N1 _ λN2 O _ N3 U=>Qb (hQ _ (by omega)) (by simp [Tm.res,zKj,Tm.kd,h9])) λh9=>?_
 refine Br.beq (λY N1 I=>?_) λY N1 I=>Qb (hQ _ I) (by simp [Tm.res,zKj,Tm.kd,h2,h3,h6,h9,Y])
 subst Y
 have ab:=(y9 J).1 (by omega)
 refine hI N1 _ λN2 O _=>Br.of (λ_=>?_) λh=>absurd h (by decide)
 cases l with
 | nil=>simp at ab
 | cons p ls=>
 cases ls with
 | cons _ _=>simp at ab
 | nil=>
 have ae:p.G:=hc.2.2.2.1
 have ah:p.ok=true:=by
  simp only [Tm.ok,tn,oI] at J
  exact J.1.1
 simp only [Tm.dp,wT] at ac
 refine ⟨_,_,_,rfl,⟨by omega,by omega⟩,λN3 U=>?_⟩
 refine zG8 (yQ aa (j:=0) (by simp)) ae (m:=1) (by unfold LvIn;simp only [my];omega) N3 _ λN4 aj _ N5 ak=>Qb (hQ _ (by omega)) ?_
 simp only [my,Tm.res,zKj,Tm.kd,Tm.lev,vv,zW,Tm.pt,qr,ah]
 simp [inB]
theorem zEj {e:Tm} {d:D} (he:e.Is d) (O:e.ok=true) (hG:e.G) (Y:e.dp<=1073741824):zP8 102 [.dg 9 d] (if e.kd=10/\e.res=true then (e.pt 0,true) else (tm0,false)):=λN Q J=>by
 cases e with
 | mk k nm ot n0 ty re l=>
 have hR:=sL he O hG Y
 obtain ⟨t0,t1,r0,r1,a,es,c,rfl,hh,ac,U⟩:=Tm.is_mk.1 he
 have hl:=U.len
 refine zEc N _ Q λ_=>⟨_,rfl,Br.bne (λI N1 aa=>?_) λI N2 ae=>hR N2 _ λN3 ah _=>Br.not (λhv N4 ai=>?_) λhv=>?_⟩
 ·rw [if_neg (λh=>I h.1)] at J
  exact J _ _ aa zLL
 ·rw [if_neg (λh=>by rw [hv] at h;exact absurd h.2 (by decide))] at J
  exact J _ _ (by omega) zLL
 ·rw [if_pos ⟨I,hv⟩] at J
  have aj:=(y9 O).1 (by omega)
  refine ⟨_,_,_,rfl,⟨by omega,by omega⟩,λN5 ak=>?_⟩
  exact qx rD (yQ U (j:=0) (by omega)) (zn hG.2.2.2 (zI (by omega))) (N0:=N) (by omega) (λd N=>Q d true N) λd' N7 al ab _=>J _ _ (by omega) ab
theorem zON {e:Tm} {d:D} (he:e.Is d) (hok:e.ok=true) (hG:e.G):zP8 106 [.dg 9 d] (if e.kd=2\/e.kd=3 then (Tm.nod 10 [e],true) else (tm0,false)):=fun N Q hQ=>by
 cases e with
 | mk k nm ot n0 ty re l=>
 have hI:=tO _ d he hG
 rw [hok] at hI
 have he0:=he
 obtain ⟨t0,t1,r0,r1,a,es,c,rfl,hh,hlen,hes⟩:=Tm.is_mk.1 he
 have hl:=hes.len
 have fin:(Tm.mk k nm ot n0 ty re l).kd=2\/(Tm.mk k nm ot n0 ty re l).kd=3->∀ N2,N<=N2->∀ N3,N2<=N3->ACalls prog 33 [.pk,.i,.str,.str,.i,.dc,.dc,.dc,.dc,.row 29 9] [.dg 9 (.ag [.j k,.t nm,.t ot,.j n0,t0,t1,r0,r1,.sl a 9 es c])] N3
   (fun n s s_1 n_1 x x_1 x_2 x_3 es c N4=>N3<=N4->Bel N4 (D.ag es)->(es.length=es.length/\c=c)/\∀ a N5,N4<=N5->Fresh N N5 a [D.ag es]->(1=([D.ag [D.j n,D.t s,D.t s_1,D.j n_1,x,x_1,x_2,x_3,D.sl a 9 es c]]).length/\1=1) /\
    ∀ a_1 N6,N5<=N6->Fresh N N6 a_1 [D.ag [D.ag [D.j n,D.t s,D.t s_1,D.j n_1,x,x_1,x_2,x_3,D.sl a 9 es c]]]->∀ N7,N6<=N7->ACalls prog 150 [.ag 9] [.j 10,.sv a_1 9 [D.ag [D.j n,D.t s,D.t s_1,D.j n_1,x,x_1,x_2,x_3,D.sl a 9 es c]] 1] N7
      (fun x_4 N8=>N7<=N8->Bel N8 x_4->∀ N9,N8<=N9->Q x_4 true N9)):=fun hk N2 hN2 N3 hN3=>by
  rw [if_pos hk] at hQ
  refine rD _ _ he0 hG N3 _ ?_
  intro x4 x5 x6 x7 es' c' N4 hN4 hh' hes' ho' _ _
  have hl':=hes'.len
  have hgl:=hG.2.2.1
  refine ⟨⟨rfl,rfl⟩,fun a1 N5 hN5 _=>⟨⟨rfl,rfl⟩,fun a2 N6 hN6 _ N7 hN7=>zGu N7 10 a2 _ 1 _ fun _ N8 hN8 _ _ N9 hN9=>hQ _ _ (by omega) ?_⟩⟩
  exact Tm.is_mk.2 ⟨_,_,_,_,_,_,_,rfl,⟨by decide,by decide,xh _,xh _⟩,by simp,_,[],rfl,Tm.is_mk.2 ⟨_,_,_,_,_,_,_,rfl,hh',by omega,hes'⟩,rfl⟩
 refine zH1 N _ Q fun _=>⟨_,rfl,Br.bne (fun h2=>⟨_,rfl,Br.bne (fun h3 N1 hN1=>?_) fun h3 N2 hN2=>hI N2 _ fun N3 hN3 _=>Br.not (fun h=>absurd h (by decide)) fun _=>fin (.inr h3) N3 (by omega)⟩) fun h2 N2 hN2=>hI N2 _ fun N3 hN3 _=>Br.not (fun h=>absurd h (by decide)) fun _=>fin (.inl h2) N3 (by omega)⟩
 rw [if_neg (fun h=>h.elim h2 h3)] at hQ
 exact hQ _ _ hN1 zLL
theorem zDG {e b:Tm} {d I:D} (J:e.Is d) (O:b.Is I) (x:ByteArray) (U:e.Z) (Y:b.Z):zRe 105 [.dg 9 d,.str x,.dg 9 I] (e.sb x b):=zF5 e.dp e d x b I J O (oD _) U Y
theorem zPs {n0:Int} {nm ot:ByteArray} {ty re:Ty} {l:List Tm}:(Tm.mk 4 nm ot n0 ty re l).opr l=if (zPV nm l).2=true then ((zPV nm l).1,1) else (Tm.mk 4 nm ot n0 ty re l,0):=by
 unfold Tm.opr zPV
 by_cases hc:(l.all λx=>x.kd==yI nm)=true
 ·rw [if_pos hc,if_pos (show (l.all λx=>x.kd==yI (Tm.mk 4 nm ot n0 ty re l).nm)=true from hc),if_pos rfl];rfl
 ·rw [if_neg hc,if_neg (show ¬(l.all λx=>x.kd==yI (Tm.mk 4 nm ot n0 ty re l).nm)=true from hc),if_neg (by decide)]
/-- the rule of a form whose parts are results -/
theorem zSN {k n0:Int} {nm ot:ByteArray} {ty re:Ty} {l:List Tm} {d:D} {f:Nat} (hd:(Tm.mk k nm ot n0 ty re l).Is d) (hF:(Tm.mk k nm ot n0 ty re l).F (f+1)) (ak:k=12->(l.getD 0 tm0).res=true) :
  zKW 66 [.dg 9 d] (Tm.mk k nm ot n0 ty re l).apl:=λN Q I=>by
 have U:=hd
 obtain ⟨t0,t1,r0,r1,a,es,c,rfl,hh,bq,ab⟩:=Tm.is_mk.1 hd
 have hl:=ab.len
 have ac:=hF.ok
 have al:k=4->∀ N1,N<=N1->ACalls prog 104 [.ag 9,.bool] [.dg 9 (.ag [.j k,.t nm,.t ot,.j n0,t0,t1,r0,r1,.sl a 9 es c])] N1 (λx b N2=>N1<=N2->Bel N2 x->Br b (∀ N3,N2<=N3->Q x 1 N3) (∀ N4,N2<=N4->Q (.ag [.j k,.t nm,.t ot,.j n0,t0,t1,r0,r1,.sl a 9 es c]) 0 N4)):=λh4 N1 cd=>by
  subst h4
  simp only [Tm.apl] at I
  rw [if_pos trivial,zPs] at I
  refine zNK U ac N1 _ λdx N2 ce hx _ _=>Br.of (λO N3 cf=>?_) λO N4 cg=>?_
  ·rw [if_pos O] at I;exact I _ _ (by omega) hx
  ·rw [if_neg (by rw [O];decide)] at I;exact I _ _ (by omega) U
 refine zJR N _ Q λ_=>⟨_,_,_,rfl,Br.dec (λbt=>⟨_,_,_,rfl,⟨by omega,by omega⟩,_,rfl,?_⟩) λbv=>⟨_,rfl,?_⟩⟩
 ·have au:0<l.length:=by omega
  have am:=yQ ab au
  have J:=hF.mem _ (zI au)
  have aw:=J.b
  have ao:=J.g
  refine Br.beq (λh4=>al h4) λh4=>?_
  simp only [Tm.apl] at I
  rw [if_neg h4] at I
  generalize ch:l.getD 0 tm0=p at am J I ak aw ao
  have ai:=am
  have ax:=λh=>zHh J.ok h
  have ay:=zEj ai J.ok ao aw
  have az:=zON ai J.ok ao
  cases p with
  | mk pk pn po pm pt pr Y=>
  obtain ⟨u0,u1,v0,v1,a2,cj,c2,heq,ck,ba,aj⟩:=Tm.is_mk.1 am
  have cm:=aj.len
  simp only [Tm.kd,Tm.no] at ax
  rw [heq] at ai ay az ⊢
  have one:(pk=6\/pk=9)->Y.length=1:=λh=>(y9 J.ok).1 (by omega)
  have aq:Y.length=1->(Y.getD 0 tm0).F f:=λh=>((J.up (g:=f+1) (by omega)).mem _ (zI (l:=Y) (i:=0) (by omega)))
  refine Br.beq (λh5=>⟨_,rfl,Br.beq (λh3=>?_) λh3 N9 bb=>?_⟩) λh5=>Br.beq (λh7=>⟨_,rfl,Br.beq (λh6=>?_) λh6=>Br.beq (λh9=>?_) λh9 cn bw=>?_⟩) λh7=>Br.beq (λh8=>?_) λh8=>Br.beq (λaa bc bz=>?_) λaa=>Br.beq (λae bg b1=>?_) λae bh a6=>?_
  ·rw [if_pos h5,if_pos (show (Tm.mk pk pn po pm pt pr Y).kd=3 from h3)] at I
   have co:=(y9 ac).2.2.1 h5
   have hn:=ax h3
   have hw:IntKind.i64.wrap (2 - pm)=2 - pm:=i64_in _ (by omega)
   refine ⟨_,_,_,rfl,_,rfl,?_⟩
   rw [hw]
   refine ⟨⟨by omega,by omega⟩,λN6 a7=>?_⟩
   exact qx rD (yQ ab (j:=(2 - pm).toNat) (by omega)) (zn hF.z.g.2.2.2 (zI (by omega))) (N0:=N) (by omega) (λd N=>Q d 2 N) λd' N7 a8 bi _=>I _ _ (by omega) bi
  ·rw [if_pos h5,if_neg (show ¬(Tm.mk pk pn po pm pt pr Y).kd=3 from h3)] at I
   exact I _ _ (by omega) U
  ·have bj:=(y9 ac).2.1 (.inl h7)
   have h1:=one (.inl h6)
   rw [if_neg h5,if_pos h7,if_pos (show (Tm.mk pk pn po pm pt pr Y).kd=6 from h6)] at I
   refine ⟨_,_,_,rfl,⟨by omega,by omega⟩,_,rfl,_,_,_,rfl,⟨by omega,by omega⟩,λN6 a7=>?_⟩
   exact zDG (yQ aj (j:=0) (by omega)) (yQ ab (j:=1) (by omega)) pn (aq h1).z (hF.mem _ (zI (i:=1) (by omega))).z N6 _ λdx N7 a8 hx _ _ _ N8 bm=>I _ _ (by omega) hx
  ·have bj:=(y9 ac).2.1 (.inl h7)
   have h1:=one (.inr h9)
   rw [if_neg h5,if_pos h7,if_neg (show ¬(Tm.mk pk pn po pm pt pr Y).kd=6 from h6),if_pos (show (Tm.mk pk pn po pm pt pr Y).kd=9 from h9)] at I
   refine ⟨_,_,_,rfl,⟨by omega,by omega⟩,_,rfl,_,rfl,_,_,_,rfl,⟨by omega,by omega⟩,λN9 bb=>?_⟩
   refine zDG (yQ aj (j:=0) (by omega)) ai pn (aq h1).z J.z N9 _ λdx cp b2 hx _ _ _ bp b3=>?_
   exact zDG hx (yQ ab (j:=1) (by omega)) po (zUk (aq h1) J) (hF.mem _ (zI (i:=1) (by omega))).z bp _ λdy cq b4 hy _ _ _ cr b5=>I _ _ (by omega) hy
  ·rw [if_neg h5,if_pos h7,if_neg (show ¬(Tm.mk pk pn po pm pt pr Y).kd=6 from h6),if_neg (show ¬(Tm.mk pk pn po pm pt pr Y).kd=9 from h9)] at I
   exact I _ _ (by omega) U
  ·have ct:=(y9 ac).2.1 (.inr h8)
   rw [if_neg h5,if_neg h7,if_pos h8] at I
   refine ⟨_,_,_,rfl,⟨by omega,by omega⟩,_,rfl,λN6 a7=>?_⟩
   exact zDG (yQ ab (j:=1) (by omega)) ai nm (hF.mem _ (zI (i:=1) (by omega))).z J.z N6 _ λdx N7 a8 hx _ _ _ N8 bm=>I _ _ (by omega) hx
  ·rw [if_neg h5,if_neg h7,if_neg h8,if_pos aa] at I
   have hr:=ak aa
   refine ay bc _ λdx cw b6 hx _ _=>Br.of (λO cx b7=>?_) λO cy b8=>?_
   ·by_cases ah:(Tm.mk pk pn po pm pt pr Y).kd=10
    ·rw [if_pos ⟨ah,hr⟩] at hx
     rw [if_pos ah] at I
     exact I _ _ (by omega) hx
    ·rw [if_neg (λh=>ah h.1)] at O
     first | exact absurd (show true=false from O) (by decide) | exact absurd (show false=true from O) (by decide)
   ·by_cases ah:(Tm.mk pk pn po pm pt pr Y).kd=10
    ·rw [if_pos ⟨ah,hr⟩] at O
     first | exact absurd (show true=false from O) (by decide) | exact absurd (show false=true from O) (by decide)
    ·rw [if_neg ah] at I
     exact I _ _ (by omega) U
  ·rw [if_neg h5,if_neg h7,if_neg h8,if_neg aa,if_pos ae] at I
   refine az bg _ λdx cz b9 hx _ _=>Br.of (λO c3 ca=>?_) λO c4 cc=>?_
   ·by_cases h2:(Tm.mk pk pn po pm pt pr Y).kd=2\/(Tm.mk pk pn po pm pt pr Y).kd=3
    ·rw [if_pos h2] at hx I
     exact I _ _ (by omega) hx
    ·rw [if_neg h2] at O
     first | exact absurd (show true=false from O) (by decide) | exact absurd (show false=true from O) (by decide)
   ·by_cases h2:(Tm.mk pk pn po pm pt pr Y).kd=2\/(Tm.mk pk pn po pm pt pr Y).kd=3
    ·rw [if_pos h2] at O
     first | exact absurd (show true=false from O) (by decide) | exact absurd (show false=true from O) (by decide)
    ·rw [if_neg h2] at I
     exact I _ _ (by omega) U
  ·rw [if_neg h5,if_neg h7,if_neg h8,if_neg aa,if_neg ae] at I
   exact I _ _ (by omega) U
 ·have c5:l.length=0:=by omega
  obtain ⟨a1,a2,a3,_,_⟩:=y9 ac
  refine Br.beq (λh4=>al h4) λh4=>Br.beq (λh5=>by have:=a3 h5;omega) λh5=>Br.beq (λh7=>by have:=a2 (.inl h7);omega) λh7=>Br.beq (λh8=>by have:=a2 (.inr h8);omega) λh8=>Br.beq (λaa=>by have:=a1 (by omega);omega) λaa=>Br.beq (λae=>by have:=a1 (by omega);omega) λae bh a6=>?_
  simp only [Tm.apl] at I
  rw [if_neg h4,if_neg h5,if_neg h7,if_neg h8,if_neg aa,if_neg ae] at I
  exact I _ _ (by omega) U
theorem zMf {k n0:Int} {nm ot:ByteArray} {t0 t1 r0 r1:D} {a:Option Addr} {es:List D} {c:Nat}:zCS 65 [.dg 9 (.ag [.j k,.t nm,.t ot,.j n0,t0,t1,r0,r1,.sl a 9 es c])] (tZ k es.length:Nat):=λN Q J=>by
 refine zD7 N _ Q λ_=>⟨_,rfl,Br.beq (λY=>⟨_,_,_,rfl,λN1 I=>Qi (J _ I) (by simp [tZ,Y])⟩) λY=>Br.beq (λh7=>⟨_,_,_,rfl,λN1 I=>Qi (J _ I) (by simp [tZ,h7])⟩) λh7=>?_⟩
 refine Br.beq (λh5 N1 I=>Qi (J _ I) (by simp [tZ,h5])) λh5=>Br.beq (λh8 N1 I=>Qi (J _ I) (by simp [tZ,h8])) λh8=>Br.beq (λO N1 I=>Qi (J _ I) (by simp [tZ,O])) λO=>Br.beq (λU N1 I=>Qi (J _ I) (by simp [tZ,U])) λU N1 I=>Qi (J _ I) (by simp [tZ,Y,h7,h5,h8,O,U])
/-- a node with one other part -/
theorem zRE {t y:Tm} {d dy:D} (h:t.Is d) (hG:t.G) (hy:y.Is dy) (h1:t.as.length=1) {N0 N:Nat} {a1:Option Addr} (hb:wU N [a1]) (Q':D->Nat->Prop) (hq:∀ d' N',N<=N'->(t.wth 0 y).Is d'->Q' d' N') :
  ACalls prog 64 [.pk,.i,.str,.str,.i,.dc,.dc,.dc,.dc,.bk 1] [.dg 9 d,.sv a1 9 [dy] 1] N (λn s ab ac I J O U ae N7=>N<=N7->ae=D.sl a1 9 [dy] 1/\Off [a1] I/\Off [a1] J/\Off [a1] O/\Off [a1] U/\(1=([dy]).length/\1=1)/\(1=([dy]).length/\1=1)/\(1=([dy]).length/\1=1) /\
   ∀ Y N8,N7<=N8->Fresh N0 N8 Y [D.ag [dy],I,J,O,U]->∀ N9,N8<=N9->Q' (D.ag [D.j n,D.t s,D.t ab,D.j ac,I,J,O,U,D.sl Y 9 [dy] 1]) N9):=by
 cases t with
 | mk k nm ot n0 ty re l=>
 obtain ⟨t0,t1,r0,r1,a,es,c,rfl,hh,al,am⟩:=Tm.is_mk.1 h
 simp only [Tm.as] at h1
 obtain ⟨g1,g2,g3,g4⟩:=hG
 refine zJ2 hh g1 g2 a1 [dy] 1 N _ λx4 x5 x6 x7 N5 ao ah ai _=>⟨rfl,?_⟩
 have off:∀ y∈[x4,x5,x6,x7],Off [a1] y:=λy hy a' aj ad ak hc=>by
  have h1:=hb a' aj ad ak
  have h2:=ai.lo _ (zL.2 ⟨y,hy,hc⟩)
  omega
 refine ⟨off x4 (by simp),off x5 (by simp),off x6 (by simp),off x7 (by simp),⟨rfl,rfl⟩,⟨rfl,rfl⟩,⟨rfl,rfl⟩,λa2 N8 aq _ N9 au=>hq _ _ (by omega) ?_⟩
 have aa:l.set 0 y=[y]:=by
  cases l with
  | nil=>simp at h1
  | cons p ls=>cases ls with
    | nil=>rfl
    | cons _ _=>simp at h1
 simp only [Tm.wth]
 rw [aa]
 exact Tm.is_mk.2 ⟨_,_,_,_,_,_,_,rfl,ah,by simp,dy,[],rfl,hy,rfl⟩
/-- the first splice of level 1, by steps -/
theorem zI3 {f:Nat} (hS:zRC 34 f):∀ (t:Tm) (d:D),t.Is d->t.F (f+1)->∀ m:Int,LvIn m t.dp->zQ3 63 [.dg 9 d,.j m,.fn 34 []] (t.cod (Tm.stp f) m):=by
 refine Tm.ind λk nm ot n0 ty re l ih d hd hF m hm N Q J=>?_
 have aa:=hd
 obtain ⟨t0,t1,r0,r1,a,es,c,rfl,hh,ah,ab⟩:=Tm.is_mk.1 hd
 have hl:=ab.len
 have loop:¬(k=11/\m=1)->yV Q N m a es c es.length 0 (.ag [.j k,.t nm,.t ot,.j n0,t0,t1,r0,r1,.sl a 9 es c]) 0 (bytes []) (bytes []) 0 0 none [] 0 0 none [] 0 none [] 0 N:=λal=>by
  simp only [Tm.cod] at J
  rw [if_neg al] at J
  refine up ab ah (λi xs=>∀ N',N<=N'->(match yD (Tm.stp f) xs (zW k m) with | none=>yD (Tm.stp f) l (zW k m)=none | some (l',r)=>yD (Tm.stp f) l (zW k m)=some (l.take i++l',r)) ->
   yV Q N m a es c es.length i (.ag [.j k,.t nm,.t ot,.j n0,t0,t1,r0,r1,.sl a 9 es c]) 0 (bytes []) (bytes []) 0 0 none [] 0 0 none [] 0 none [] 0 N') ?_ ?_ N (oD _) ?_
  ·intro i am hi N' ao U
   simp only [yD] at U
   rw [U] at J
   refine sc _ _ _ _ _ _ _ _ _ _ _ _ _ _ _ _ _ _ _ _ _ _ _ _ _ ?_
   rw [am]
   exact λN2 ai=>J _ _ (by omega) aa
  ·intro i x xs I aq au N' ao U
   have hb:=I.b
   have aj:i<l.length:=(oC.1 I.g).1
   refine sc _ _ _ _ _ _ _ _ _ _ _ _ _ _ _ _ _ _ _ _ _ _ _ _ _ ?_
   rw [I.lt,I.w]
   refine ⟨⟨by omega,by omega⟩,λN1 aw=>zCU hm.b N1 _ λN2 ai _ N3 ax=>?_⟩
   have hr:=I.r
   rw [<-oJ i] at hr
   refine ih x I.m _ hr ((hF.mem x I.m).up (by omega)) _ (hm.next (dp_mem I.m)) N3 _ λdx N4 ay hx _ _=>Br.of (λhv N5 az=>?_) λhv=>?_
   ·simp only [yD] at U
    rw [if_pos hv] at U
    simp only at U
    rw [U] at J
    refine zRf rD aa hF.z.g hx aj (N0:=N) (λd N=>Q d (x.cod (Tm.stp f) (zW k m)).2.1 true N) λd' N6 a6 ac=>J _ _ (by omega) ?_
    have:l.take i++(x.cod (Tm.stp f) (zW k m)).1::xs=l.set i (x.cod (Tm.stp f) (zW k m)).1:=by
     rw [m9,if_pos aj,aq]
    simp only
    rw [this]
    exact ac
   ·refine au _ (by omega) ?_
    simp only [yD] at U
    rw [if_neg (by rw [hv];decide)] at U
    cases hc:yD (Tm.stp f) xs (zW k m) with
    | none=>rw [hc] at U;exact U
    | some p=>
      obtain ⟨l',r⟩:=p
      rw [hc] at U
      simp only at U ⊢
      rw [U,wV I.g,nc];rfl
  ·cases hc:yD (Tm.stp f) l (zW k m) with
   | none=>rfl
   | some p=>obtain ⟨l',r⟩:=p;simp
 refine zC0 N _ m Q λ_=>⟨_,rfl,Br.beq (λh1=>Br.beq (λh2=>?_) λh2=>⟨_,_,_,rfl,loop λh=>h2 h.2⟩) λh1=>⟨_,_,_,rfl,loop λh=>h1 h.1⟩⟩
 have a7:=(y9 hF.ok).1 (by omega)
 have ak:0<l.length:=by omega
 have a8:=zI ak
 have O:=hF.mem _ a8
 have ae:=yQ ab ak
 simp only [Tm.cod] at J
 rw [if_pos ⟨h1,h2⟩] at J
 unfold zSa at J
 rw [zSA] at J
 refine ⟨_,_,_,rfl,⟨by omega,by omega⟩,λN1 aw=>sL ae O.ok O.g O.dp N1 _ λN2 ai _=>Br.not (λhr N3 ax=>?_) λhr N9 bg=>?_⟩
 ·rw [if_neg (by rw [hr];decide)] at J
  refine hS _ _ ae O N3 _ λdx N4 ay hx _ _=>⟨⟨rfl,rfl⟩,λa1 _ _ N5 az hb=>?_⟩
  exact zRE aa hF.z.g hx a7 hb (N0:=N) (λd N=>Q d (Tm.stp f (l.getD 0 tm0)).2 true N) λd' N6 a6 ac=>J _ _ (by omega) ac
 ·rw [if_pos hr] at J
  refine zEj ae O.ok O.g O.dp N9 _ λdx bh ba hx _ _=>Br.of (λhv bi bb=>?_) λhv bj bc=>?_
  ·by_cases Y:(l.getD 0 tm0).kd=10
   ·rw [if_pos ⟨Y,hr⟩] at hx
    rw [if_pos Y] at J
    exact J _ _ (by omega) hx
   ·rw [if_neg (λh=>Y h.1)] at hv
    first | exact absurd (show true=false from hv) (by decide) | exact absurd (show false=true from hv) (by decide)
  ·by_cases Y:(l.getD 0 tm0).kd=10
   ·rw [if_pos ⟨Y,hr⟩] at hv
    first | exact absurd (show true=false from hv) (by decide) | exact absurd (show false=true from hv) (by decide)
   ·rw [if_neg Y] at J
    exact J _ _ (by omega) aa
theorem zGH:∀ f,zRC 34 f
 | 0=>λe d _ J=>absurd (Tm.dp_pos e) (by have:=J.d;omega)
 | f + 1=>λe d hd J N Q hQ=>by
   have ih:=zGH f
   cases e with
   | mk k nm ot n0 ty re l=>
   have O:=hd
   obtain ⟨t0,t1,r0,r1,a,es,c,rfl,hh,bj,U⟩:=Tm.is_mk.1 hd
   have hl:=U.len
   simp only [Tm.stp] at hQ
   refine zKF N _ Q λ_ N1 au=>sL O J.ok J.g J.dp N1 _ λN2 aw _=>Br.of (λhv N3 ax=>?_) λhv=>⟨_,rfl,Br.beq (λae=>?_) λae ai aj=>?_⟩
   ·rw [if_pos hv] at hQ
    exact hQ _ _ (by omega) O
   ·rw [if_neg (by rw [hv];decide),if_pos (show (Tm.mk k nm ot n0 ty re l).kd=10 from ae)] at hQ
    have ay:=(y9 J.ok).1 (by omega)
    have ak:=zI (l:=l) (i:=0) (by omega)
    have bm:=dp_mem (k:=k) (nm:=nm) (ot:=ot) (n:=n0) (ty:=ty) (re:=re) ak
    have bp:=J.dp
    refine ⟨_,_,_,rfl,⟨by omega,by omega⟩,λN4 az=>?_⟩
    refine zI3 ih _ _ (yQ U (j:=0) (by omega)) ((J.mem _ ak).up (by omega)) 1 (by unfold LvIn;omega) N4 _ λdx N5 a6 hx _ _=>⟨⟨rfl,rfl⟩,λa1 _ _ N6 al hb=>?_⟩
    exact zRE O J.z.g hx ay hb (N0:=N) (λd N=>Q d (Tm.cod (Tm.stp f) (l.getD 0 tm0) 1).2.1 N) λd' N6 al ah=>hQ _ _ (by omega) ah
   ·rw [if_neg (by rw [hv];decide),if_neg (show ¬(Tm.mk k nm ot n0 ty re l).kd=10 from ae)] at hQ
    refine zMf ai _ λam ao _=>?_
    have bq:tZ k l.length<=l.length:=by
     unfold tZ
     split
     ·exact oD _
     ·split
      ·rename_i h
       obtain ⟨b1,b2,b3,_⟩:=y9 J.ok
       rcases h with h | h | h | h
       ·have:=b3 h;omega
       ·have:=b2 (.inr h);omega
       ·have:=b1 (by omega);omega
       ·have:=b1 (by omega);omega
      ·omega
    have a7:All2 Tm.Is (l.take (tZ k l.length)) (es.take (tZ k l.length)):=by
     have:∀ (n:Nat) (l:List Tm) (es:List D),All2 Tm.Is l es->All2 Tm.Is (l.take n) (es.take n):=by
      intro n
      induction n with
      | zero=>intro l es _;simp;rfl
      | succ n a8=>
        intro l es h
        cases l with
        | nil=>cases h;exact rfl
        | cons x xs=>obtain ⟨y,ys,rfl,h1,h2⟩:=h;exact ⟨y,ys.take n,rfl,h1,a8 _ _ h2⟩
     exact this _ _ _ U
    have aq:(es.take (tZ k l.length)).length=tZ k l.length:=by rw [nG];omega
    rw [hl]
    refine up a7 (by omega) (λi xs=>∀ N',N<=N'->(∀ j x,j<i->(l.take (tZ k l.length))[j]?=some x->x.res=true)->(∀ r:Tm × Int,(match goS (Tm.stp f) (Tm.mk k nm ot n0 ty re l) xs i with | some r=>r | none=>(Tm.mk k nm ot n0 ty re l).apl)=r->∀ d N'',N<=N''->r.1.Is d->Q d r.2 N'') ->
     uG Q N (tZ k l.length:Nat) i (.ag [.j k,.t nm,.t ot,.j n0,t0,t1,r0,r1,.sl a 9 es c]) 0 (bytes []) (bytes []) 0 0 none [] 0 0 none [] 0 none [] 0 N') ?_ ?_ am (by omega) (λj x h=>absurd h (by omega)) (λr I d N'' h1 h2=>by rw [<-I];rw [<-I] at h2;exact hQ d N'' h1 h2)
    ·intro i Y hi N' ba hk I
     rw [aq] at Y
     refine zAB _ _ _ _ _ _ _ _ _ _ _ _ _ _ _ _ _ _ _ _ _ ?_
     rw [Y]
     have I:=I _ rfl
     simp only [goS] at I
     refine λN9 bt=>zSN O J (λbb=>?_) N9 _ λdx ai aj hx _ _ am ao=>I _ _ (by omega) hx
     have bc:tZ k l.length=1:=by simp [tZ,bb]
     refine hk 0 _ (by omega) ?_
     rw [bc,List.getElem?_take_of_lt (by omega)]
     exact zX (by omega)
    ·intro i x xs aa bv bg N' ba hk I
     have hb:=aa.b
     have Y:=aa.lt
     rw [aq] at Y hb
     have ab:i<l.length:=by omega
     have bh:l[i]?=some x:=by
      have:=aa.g
      rw [List.getElem?_take_of_lt (by omega)] at this
      exact this
     obtain rfl:l.getD i tm0=x:=by rw [oA,bh];rfl
     have ac:=J.mem _ (zI ab)
     refine zAB _ _ _ _ _ _ _ _ _ _ _ _ _ _ _ _ _ _ _ _ _ ?_
     rw [Y,aa.w]
     refine ⟨_,_,_,rfl,⟨by omega,by omega⟩,λN1 au=>?_⟩
     rw [oJ]
     refine sL (yQ U ab) ac.ok ac.g ac.dp N1 _ λN2 aw _=>Br.of (λhv=>?_) λhv=>?_
     ·rw [zDD hv] at I
      refine bg _ (by omega) (λj y hj hy=>?_) I
      by_cases bi:j<i
      ·exact hk j y bi hy
      ·have:j=i:=by omega
       subst this
       rw [aa.g] at hy
       rw [<-oW hy];exact hv
     ·have I:=I _ rfl
      simp only [goS] at I
      rw [if_neg (by rw [hv];decide)] at I
      refine ⟨_,_,_,rfl,⟨by omega,by omega⟩,λN3 ax=>?_⟩
      refine ih _ _ (yQ U ab) ac N3 _ λdx N4 az hx _ _ N5 a6=>?_
      have:=zRf rD O J.z.g hx ab (N0:=N) (N:=N5) (λd N=>Q d (Tm.stp f (l.getD i tm0)).2 N) λd' N6 al ah=>I _ _ (by omega) ah
      simpa only [oJ] using this
theorem zIj {e:Tm} {d:D} (he:e.Is d) (U:e.G) (aa:e.dp<=1073741824) (hw:e.wd<=137438953472) (N:Nat) (Q:QT [.ag 9,.i]) (J:∀ d N',N<=N'->e.step.1.Is d->Own N N' d->Q d e.step.2 N'):ACalls prog 9 [.ag 9,.i] [.dg 9 d] N Q:=by
 unfold Tm.step at J
 refine zKH N _ Q λ_ N1 ae=>s6 e d he U 0 N1 _ λN2 ah _=>Br.not (λO N3 ai=>?_) λO N7 aj=>?_
 ·rw [if_neg (by rw [O];decide)] at J
  exact qx rD he U (N0:=N) (by omega) (λd N=>Q d 0 N) λd' N4 Y I ho=>J _ _ (by omega) I ho
 ·rw [if_pos O] at J
  have ab:e.ok=true:=by unfold qr at O;simp at O;exact O.1
  refine zGH e.dp e d he (Tm.F.ofW ab (oD _) U aa hw) N7 _ λdx N8 ak hx _ _=>Br.beq (λh0 N9 al=>?_) λh0 am ac=>?_
  ·rw [if_pos h0] at J
   exact qx rD he U (N0:=N) (by omega) (λd N=>Q d 0 N) λd' N4 Y I ho=>J _ _ (by omega) I ho
  ·rw [if_neg h0] at J
   exact qx rD hx (zRP _ _ U) (N0:=N) (by omega) (λd N=>Q d (e.stp e.dp).2 N) λd' N4 Y I ho=>J _ _ (by omega) I ho
end Go.Proofs.YtfajiphkncipoaaGreatDoor
