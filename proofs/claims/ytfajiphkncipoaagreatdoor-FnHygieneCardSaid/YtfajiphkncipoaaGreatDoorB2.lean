/- Steps: the reference's, of all forms; Step. -/
import Derived.Test.YtfajiphkncipoaaGreatDoorB1
set_option linter.unusedVariables false
set_option linter.unusedSimpArgs false
namespace Go.Proofs.YtfajiphkncipoaaGreatDoor
open Go Go.Proofs Go.Proofs.Tryz Go.IntWalk
/-- what a substitution makes is not too great for another -/
theorem zU2 {e b:Tm} {x:ByteArray} {f g:Nat} (I:e.F f) (J:b.F g):(e.sb x b).Z:=by
 have U:=zRJ e.dp e x b
 have O:=I.vc
 have Y:=J.vc
 have h4:e.vc*(b.vc+1)<=1333333*1333334:=Nat.mul_le_mul O (by omega)
 exact ⟨zPn _ _ _ _ I.z.g J.z.g,by unfold Tm.sb;omega,zRl _ _ _ _ I.z.v J.z.v⟩
theorem zDG {e b:Tm} {d I:D} (J:e.Is d) (O:b.Is I) (x:ByteArray) (U:e.Z) (Y:b.Z):zR4 122 [.dg 9 d,.str x,.dg 9 I] (e.sb x b):=zGF e.dp e d x b I J O (oD _) U Y
/-- the step of a form whose parts are searched -/
def zRY (f:Nat):Tm->Nat->Tm × Int
 | .mk k nm ot n ty re l,m=>match goS (Tm.stp f) (.mk k nm ot n ty re l) (l.take m) 0 with
   | some r=>r
   | none=>(Tm.mk k nm ot n ty re l).apl
theorem zQd {f:Nat} (hS:zRZ 41 f) {n0:Int} {nm ot:ByteArray} {ty re:Ty} {l:List Tm} {d:D} (hd:(Tm.mk 7 nm ot n0 ty re l).Is d) (hF:(Tm.mk 7 nm ot n0 ty re l).F (f+1)) :
  zM1 76 [.dg 9 d] (zRY f (Tm.mk 7 nm ot n0 ty re l) l.length):=λN Q hQ=>by
 have ai:=hd
 obtain ⟨t0,t1,r0,r1,a,es,c,rfl,hh,aj,Y⟩:=Tm.is_mk.1 hd
 have hl:=Y.len
 have a8:=(wE hF.ok).2.1 (.inl rfl)
 simp only [zRY,List.take_length] at hQ
 have e2:(es.length:Int)=2:=by omega
 refine zHi N _ Q λ_=>⟨_,_,_,rfl,⟨by omega,by omega⟩,?_⟩
 refine up Y aj (λi xs=>∀ N',N<=N'->(∀ r:Tm × Int,(match goS (Tm.stp f) (Tm.mk 7 nm ot n0 ty re l) xs i with | some r=>r | none=>(Tm.mk 7 nm ot n0 ty re l).apl)=r->∀ d N'',N<=N''->r.1.Is d->Q d r.2 N'') ->
  wV Q N i (.ag [.lit (.int .i64 7),.lit (.string nm),.lit (.string ot),.lit (.int .i64 n0),t0,t1,r0,r1,.sl a 9 es c]) 0 (bytes []) (bytes []) 0 0 none [] 0 0 none [] 0 none [] 0 (List.getD es 0 default) N') ?_ ?_ N (oD _) (λr I d N'' h1 h2=>by rw [<-I];rw [<-I] at h2;exact hQ d N'' h1 h2)
 ·intro i aa hi N' am I
  have I:=I _ rfl
  simp only [goS,Tm.apl] at I
  rw [if_neg (by decide),if_neg (by decide),if_pos trivial] at I
  refine qB _ _ _ _ _ _ _ _ _ _ _ _ _ _ _ _ _ _ _ _ _ ?_
  rw [<-e2,aa]
  have ab:=yP Y (j:=0) (by omega)
  have ac:=yP Y (j:=1) (by omega)
  have O:=hF.mem _ (zN (l:=l) (i:=0) (by omega))
  have ae:=hF.mem _ (zN (l:=l) (i:=1) (by omega))
  generalize l.getD 0 tm0=p at ab O I
  generalize l.getD 1 tm0=q at ac ae I
  have ak:=ab
  cases p with
  | mk pk pn po pm pt pr pl=>
  obtain ⟨u0,u1,v0,v1,a2,ba,c2,heq,bb,ao,U⟩:=Tm.is_mk.1 ab
  have bc:=U.len
  rw [heq] at ak ⊢
  have one:(pk=6\/pk=9)->pl.length=1:=λh=>(wE O.ok).1 (by omega)
  have ah:pl.length=1->(pl.getD 0 tm0).F f:=λh=>((O.up (g:=f+1) (by omega)).mem _ (zN (l:=pl) (i:=0) (by omega)))
  refine ⟨_,rfl,Br.beq (λh6=>?_) λh6=>Br.beq (λh9=>?_) λh9 bd ax=>?_⟩
  ·have h1:=one (.inl h6)
   rw [if_pos (show (Tm.mk pk pn po pm pt pr pl).kd=6 from h6)] at I
   refine ⟨_,_,_,rfl,⟨by omega,by omega⟩,_,rfl,_,_,_,rfl,⟨by omega,by omega⟩,λN6 bg=>?_⟩
   exact zDG (yP U (j:=0) (by omega)) ac pn (ah h1).z ae.z N6 _ λdx N7 bh hx _ _ _ N8 bi=>I _ _ (by omega) hx
  ·have h1:=one (.inr h9)
   rw [if_neg (show ¬(Tm.mk pk pn po pm pt pr pl).kd=6 from h6),if_pos (show (Tm.mk pk pn po pm pt pr pl).kd=9 from h9)] at I
   refine ⟨_,_,_,rfl,⟨by omega,by omega⟩,_,rfl,_,rfl,_,_,_,rfl,⟨by omega,by omega⟩,λN9 bj=>?_⟩
   refine zDG (yP U (j:=0) (by omega)) ak pn (ah h1).z O.z N9 _ λdx bm ay hx _ _ _ aq az=>?_
   exact zDG hx ac po (zU2 (ah h1) O) ae.z aq _ λdy bn a6 hy _ _ _ bp a7=>I _ _ (by omega) hy
  ·rw [if_neg (show ¬(Tm.mk pk pn po pm pt pr pl).kd=6 from h6),if_neg (show ¬(Tm.mk pk pn po pm pt pr pl).kd=9 from h9)] at I
   exact I _ _ (by omega) ai
 ·intro i x xs J bq au N' am I
  have hb:=J.b
  have aw:i<l.length:=(oB.1 J.g).1
  obtain rfl:l.getD i tm0=x:=by rw [oA,J.g];rfl
  have al:=hF.mem _ J.m
  have aa:=J.lt
  rw [e2] at aa
  refine qB _ _ _ _ _ _ _ _ _ _ _ _ _ _ _ _ _ _ _ _ _ ?_
  rw [aa,oH,J.w]
  refine ⟨_,_,_,rfl,⟨by omega,by omega⟩,λN1 bt=>zj J.r al.ok al.dp N1 _ λN2 bv _=>Br.not (λhv N3 bw=>?_) λhv=>?_⟩
  ·have I:=I _ rfl
   simp only [goS] at I
   rw [if_neg (by rw [hv];decide)] at I
   exact zG4 hS ai hF aw N3 _ λdx N4 bz hx _ _ N5 b0=>I _ _ (by omega) hx
  ·rw [zDH hv] at I
   exact au _ (by omega) I
theorem zQn {l:List Tm} (h:0<l.length):l.take 1=[l.getD 0 tm0]:=by
 cases l with
 | nil=>simp at h
 | cons x xs=>rfl
theorem zNh (k:Int) {p:Tm} {d:D} (h:p.Is d) (hc:p.cnt<=1073741824) (a:Option Addr) (N:Nat) (Q:QT [.ag 9]) (I:∀ d' N',N<=N'->(Tm.nod k [p]).Is d'->Own N N' d'->Q d' N') :
 ACalls prog 87 [.ag 9] [.int .i64 k,.sv a 9 [d] 1] N Q:=zDO k (l:=[p]) (es:=[d]) ⟨d,[],rfl,h,rfl⟩ (by simp) (by simpa using hc) a 1 N Q I
/-- a form whose first part is searched -/
theorem zDK {f:Nat} (hS:zRZ 41 f) {k n0:Int} {nm ot:ByteArray} {ty re:Ty} {l:List Tm} {d:D} (hk:k=5\/k=8\/k=12\/k=13) (hd:(Tm.mk k nm ot n0 ty re l).Is d) (hF:(Tm.mk k nm ot n0 ty re l).F (f+1)) :
  zM1 79 [.dg 9 d] (zRY f (Tm.mk k nm ot n0 ty re l) 1):=λN Q I=>by
 have aa:=hd
 obtain ⟨t0,t1,r0,r1,a,es,c,rfl,hh,ba,ab⟩:=Tm.is_mk.1 hd
 have hl:=ab.len
 have ac:0<l.length:=by
  obtain ⟨a1,a2,a3,_⟩:=wE hF.ok
  rcases hk with h | h | h | h
  ·have:=a3 h;omega
  ·have:=a2 (.inr h);omega
  ·have:=a1 (by omega);omega
  ·have:=a1 (by omega);omega
 have ae:=yP ab ac
 have J:=hF.mem _ (zN ac)
 simp only [zRY] at I
 rw [zQn ac] at I
 simp only [goS] at I
 refine zHx N _ Q λ_=>⟨_,_,_,rfl,⟨by omega,by omega⟩,λN1 bc=>zj ae J.ok J.dp N1 _ λN2 bd _=>Br.not (λhv N3 bg=>?_) λhv=>?_⟩
 ·rw [if_neg (by rw [hv];decide)] at I
  exact zG4 hS aa hF ac N3 _ λdx N4 aw hx _ _ N5 ax=>I _ _ (by omega) hx
 rw [if_pos hv] at I
 simp only [Tm.apl] at I
 generalize bh:l.getD 0 tm0=p at ae J hv I
 have ai:=ae
 have am:=λh=>zLG J.ok h
 cases p with
 | mk pk O U pm pt pr Y=>
 obtain ⟨u0,u1,v0,v1,a2,ay,c2,heq,bi,az,ah⟩:=Tm.is_mk.1 ae
 have bj:=ah.len
 simp only [Tm.kd,Tm.no] at am
 rw [heq] at ai ⊢
 have lift:∀ (N:Nat) (a:Option Addr) (N':Nat) (hN:N2<=N) (_:wQ N [a]),(∀ d N',N2<=N'->(Tm.nod 10 [Tm.mk pk O U pm pt pr Y]).Is d->Q d 8 N') ->
   ACalls prog 87 [.ag 9] [.int .i64 10,.sv a 9 [.ag [.lit (.int .i64 pk),.lit (.string O),.lit (.string U),.lit (.int .i64 pm),u0,u1,v0,v1,.sl a2 9 ay c2]] 1] N (λx N7=>N<=N7->Off [a] x/\(Bel N7 x->∀ N8,N7<=N8->Q x 8 N8)):=λN3 a N' hN hb hq=>
  zNh 10 ai (by have:=J.c;omega) a N3 _ λdx N4 aw hx ho _=>⟨vH hb ho,λ_ N5 ax=>hq _ _ (by omega) hx⟩
 rcases hk with rfl | rfl | rfl | rfl
 ·have bm:=(wE hF.ok).2.2.1 rfl
  rw [if_neg (by decide),if_pos rfl] at I
  refine ⟨_,rfl,Br.beq (λ_=>⟨_,rfl,Br.beq (λh3=>?_) λh3=>?_⟩) (λh=>absurd rfl h)⟩
  ·have hn:=am h3
   rw [if_pos (show (Tm.mk pk O U pm pt pr Y).kd=3 from h3)] at I
   have hw:IntKind.i64.wrap (2 - pm)=2 - pm:=i64_in _ (by omega)
   refine ⟨_,_,_,rfl,_,rfl,?_⟩
   rw [hw]
   refine ⟨⟨by omega,by omega⟩,λN6 ao=>?_⟩
   refine zJK qA (yP ab (j:=(2 - pm).toNat) (by omega)) (yH hF.z.g.2.2.2 (zN (by omega))) (N0:=N) (by omega) (λd N=>Q d 2 N) λd' N7 aq aj _=>I _ _ (by omega) aj
  ·rw [if_neg (show ¬(Tm.mk pk O U pm pt pr Y).kd=3 from h3)] at I
   repeat' first | refine ⟨_,rfl,?_⟩ | refine Br.beq (λh=>absurd h (by decide)) λ_=>?_
   all_goals exact λN hN=>I _ _ (by omega) aa
 ·have bn:=(wE hF.ok).2.1 (.inr rfl)
  rw [if_neg (by decide),if_neg (by decide),if_neg (by decide),if_pos rfl] at I
  have a7:=hF.mem _ (zN (l:=l) (i:=1) (by omega))
  have a8:=yP ab (j:=1) (by omega)
  repeat' first | refine ⟨_,rfl,?_⟩ | refine Br.beq (λh=>absurd h (by decide)) λ_=>?_ | refine Br.beq (λ_=>?_) (λh=>absurd rfl h)
  all_goals
   refine ⟨_,_,_,rfl,⟨by omega,by omega⟩,_,rfl,λN6 ao=>?_⟩
   exact zDG a8 ai nm a7.z J.z N6 _ λdx N7 aq hx _ _ _ N8 bp=>I _ _ (by omega) hx
 ·rw [if_neg (by decide),if_neg (by decide),if_neg (by decide),if_neg (by decide),if_pos rfl] at I
  repeat' first | refine ⟨_,rfl,?_⟩ | refine Br.beq (λh=>absurd h (by decide)) λ_=>?_ | refine Br.beq (λ_=>?_) (λh=>absurd rfl h)
  all_goals
   refine Br.beq (λak=>?_) λak=>?_
   ·rw [if_pos (show (Tm.mk pk O U pm pt pr Y).kd=10 from ak)] at I
    have h1:=(wE J.ok).1 (by omega)
    refine ⟨_,_,_,rfl,⟨by omega,by omega⟩,λN6 ao=>?_⟩
    refine zJK qA (yP ah (j:=0) (by omega)) (yH J.z.g.2.2.2 (zN (by omega))) (N0:=N) (by omega) (λd N=>Q d 7 N) λd' N7 aq aj _=>I _ _ (by omega) aj
   ·rw [if_neg (show ¬(Tm.mk pk O U pm pt pr Y).kd=10 from ak)] at I
    repeat' first | refine ⟨_,rfl,?_⟩ | refine Br.beq (λh=>absurd h (by decide)) λ_=>?_
    all_goals exact λN hN=>I _ _ (by omega) aa
 ·rw [if_neg (by decide),if_neg (by decide),if_neg (by decide),if_neg (by decide),if_neg (by decide),if_pos rfl] at I
  repeat' first | refine ⟨_,rfl,?_⟩ | refine Br.beq (λh=>absurd h (by decide)) λ_=>?_ | refine Br.beq (λ_=>?_) (λh=>absurd rfl h)
  all_goals
   refine Br.beq (λh2=>⟨⟨rfl,rfl⟩,λa6 _ al au hb=>?_⟩) λh2=>⟨_,rfl,Br.beq (λh3=>⟨⟨rfl,rfl⟩,λa6 _ al au hb=>?_⟩) λh3 bq bb=>?_⟩
   ·rw [if_pos (show (Tm.mk pk O U pm pt pr Y).kd=2\/(Tm.mk pk O U pm pt pr Y).kd=3 from .inl h2)] at I
    exact lift al a6 0 (by omega) hb λd N' h1 h2=>I _ _ (by omega) h2
   ·rw [if_pos (show (Tm.mk pk O U pm pt pr Y).kd=2\/(Tm.mk pk O U pm pt pr Y).kd=3 from .inr h3)] at I
    exact lift al a6 0 (by omega) hb λd N' h1 h2=>I _ _ (by omega) h2
   ·rw [if_neg (show ¬((Tm.mk pk O U pm pt pr Y).kd=2\/(Tm.mk pk O U pm pt pr Y).kd=3) from λh=>h.elim h2 h3)] at I
    exact I _ _ (by omega) aa
theorem zDr:∀ f,zRZ 41 f
 | 0=>λe d _ U=>absurd (Tm.dp_pos e) (by have:=U.d;omega)
 | f+1=>λe d hd U N Q hQ=>by
   have ih:=zDr f
   cases e with
   | mk k nm ot n0 ty re l=>
   have I:=hd
   obtain ⟨t0,t1,r0,r1,a,es,c,rfl,hh,am,ah⟩:=Tm.is_mk.1 hd
   have hl:=ah.len
   simp only [Tm.stp] at hQ
   refine zFz N _ Q λ_ N1 ay=>zj I U.ok U.dp N1 _ λN2 az _=>Br.of (λhv N3 a6=>?_) λhv=>⟨_,rfl,?_⟩
   ·rw [if_pos hv] at hQ
    exact hQ _ _ (by omega) I
   rw [if_neg (by rw [hv];decide)] at hQ
   have other:k≠10->∀ m,tM k l.length=m->∀ d N',N<=N'->(zRY f (Tm.mk k nm ot n0 ty re l) m).1.Is d->Q d (zRY f (Tm.mk k nm ot n0 ty re l) m).2 N':=λhk m hm=>by
    rw [if_neg (show ¬(Tm.mk k nm ot n0 ty re l).kd=10 from hk),hm] at hQ
    exact hQ
   refine Br.beq (λh4 N4 Y=>?_) λh4=>Br.beq (λh7 N4 Y=>?_) λh7=>Br.beq (λO=>?_) λO=>Br.beq (λh5 N4 Y=>?_) λh5=>Br.beq (λh8 N4 Y=>?_) λh8=>Br.beq (λaa N4 Y=>?_) λaa=>Br.beq (λab N4 Y=>?_) λab N4 Y=>?_
   ·subst h4
    have J:=other (by decide) l.length (by simp [tM])
    simp only [zRY,List.take_length,Tm.apl,ma] at J
    exact zR3 ih I U rfl N4 _ λx N5 ac hx _ _ N6 ae=>J _ _ (by omega) hx
   ·subst h7
    have J:=other (by decide) l.length (by simp [tM])
    exact zQd ih I U N4 _ λx N5 ac hx _ _ N6 ae=>J _ _ (by omega) hx
   ·rw [if_pos (by exact O)] at hQ
    have a7:=(wE U.ok).1 (by omega)
    have ai:=zN (l:=l) (i:=0) (by omega)
    refine ⟨_,_,_,rfl,⟨by omega,by omega⟩,λaj ao=>?_⟩
    have a8:=dp_mem (k:=k) (nm:=nm) (ot:=ot) (n:=n0) (ty:=ty) (re:=re) ai
    have ba:=U.dp
    refine zPE ih _ _ (yP ah (j:=0) (by omega)) ((U.mem _ ai).up (by omega)) 1 (by unfold LvIn;omega) aj _ λdx bb aq hx _ _ ak au=>?_
    exact zEA I U.z.g hx (i:=0) (by simp only [Tm.as];omega) ak _ λd' bc aw al _ _ bd ax=>hQ _ _ (by omega) al
   ·have J:=other O 1 (by simp [tM,h4,h7,h5])
    exact zDK ih (.inl h5) I U N4 _ λx N5 ac hx _ _ N6 ae=>J _ _ (by omega) hx
   ·have J:=other O 1 (by simp [tM,h4,h7,h8])
    exact zDK ih (.inr (.inl h8)) I U N4 _ λx N5 ac hx _ _ N6 ae=>J _ _ (by omega) hx
   ·have J:=other O 1 (by simp [tM,h4,h7,aa])
    exact zDK ih (.inr (.inr (.inl aa))) I U N4 _ λx N5 ac hx _ _ N6 ae=>J _ _ (by omega) hx
   ·have J:=other O 1 (by simp [tM,h4,h7,ab])
    exact zDK ih (.inr (.inr (.inr ab))) I U N4 _ λx N5 ac hx _ _ N6 ae=>J _ _ (by omega) hx
   ·have J:=other O 0 (by simp [tM,h4,h7,h5,h8,aa,ab])
    simp only [zRY,mm,goS,Tm.apl] at J
    rw [if_neg h4,if_neg h5,if_neg h7,if_neg h8,if_neg aa,if_neg ab] at J
    exact J _ _ (by omega) I
theorem zMZ {s:ByteArray} (h:0<zC6 s):s=bytes [43]\/s=bytes [45]\/s=bytes [42]\/s=bytes [61]\/s=bytes [60]\/s=bytes [38]\/s=bytes [124]\/s=bytes [33]:=by
 unfold zC6 at h
 (repeat' split at h)<;>first | exact absurd h (by decide) | simp [*]
theorem zNM {s:ByteArray} (h:0<zC6 s) {a b:Int} (I:0<=a/\a<=10006) (J:0<=b/\b<=10006):(zq s a b).2=true:=by
 have:=zMZ h
 unfold zq
 rw [if_pos (xF.2 I),if_pos (xF.2 J)]
 (repeat' split)<;>first | rfl | (rcases this with h | h | h | h | h | h | h | h<;>contradiction)
def rL (s:ByteArray):Bool:=vN s||(decide (s=bytes [61])||decide (s=bytes [60]))
theorem zN8 {s:ByteArray} (h:0<zC6 s):zAv s=if rL s then 3 else 2:=by
 rcases zMZ h with h | h | h | h | h | h | h | h<;>subst h<;>decide +kernel
theorem zGE (s:ByteArray):ue 141 [.str s] (vN s):=λN Q J=>
 zEV N s Q (Br.str (λe1 N1 I=>Qb (J _ I) (by simp [vN,e1])) λe1=>Br.str (λO N1 I=>Qb (J _ I) (by simp [vN,O])) λO N1 I=>Qb (J _ I) (by simp [vN,e1,O,vM]))
theorem zKi (s:ByteArray):ue 144 [.str s] (rL s):=λN Q J=>
 zCu N s Q λN1 O=>zGE s N1 _ λN2 U _=>Br.of (λe0 N3 I=>Qb (J _ (by omega)) (by simp [rL,e0])) λe0=>Br.str (λe1 N3 I=>Qb (J _ (by omega)) (by simp [rL,e1])) λe1 N3 I=>Qb (J _ (by omega)) (by simp [rL,e0,e1,vM])
theorem zOj (n:Int) (b:Bool) (N:Nat) (Q:QT [.ag 9]) (J:∀ d N',N<=N'->(zM9 (if b then 3 else 2) n).Is d->Q d N'):ACalls prog 143 [.ag 9] [.int .i64 n,.bool b] N Q:=by
 refine zFH N n b Q (Br.of (λh N1 I=>J _ _ I (by rw [h];exact zHv)) λh N2 O=>zJA N2 n _ λN3 U _ _ N4 Y=>J _ _ (by omega) (by rw [h];exact zHv))
def zQT (f:FuncId) (args:List PV) (r:Tm × Bool):Prop:=∀ (N:Nat) (Q:QT [.ag 9,.bool]),(∀ d N',N<=N'->r.1.Is d->Q d r.2 N')->ACalls prog f [.ag 9,.bool] args N Q
theorem zJI:tm0.Is (.ag [.lit (.int .i64 0),.lit (.string (bytes [])),.lit (.string (bytes [])),.lit (.int .i64 0),.lit (.int .i64 0),.sl none 2 [] 0,.lit (.int .i64 0),.sl none 2 [] 0,.sl none 9 [] 0]):=
 Tm.is_mk.2 ⟨_,_,_,_,_,_,_,rfl,⟨by decide,by decide,xL _,xL _⟩,by simp,rfl⟩
theorem zUI {n0:Int} {nm ot:ByteArray} {ty re:Ty} {l:List Tm} (h:(Tm.mk 4 nm ot n0 ty re l).ok=true):0<zC6 nm:=by
 simp only [Tm.ok,oJ,zI,xH] at h
 have:=h.2.1.2.2.2.2.2
 rw [if_pos trivial,oJ] at this
 simpa using this.1
theorem zOh {e:Tm} (h:e.ok=true) (I:e.kd=2\/e.kd=3):0<=e.no/\e.no<=10006:=by
 cases e with
 | mk k nm ot n ty re l=>
 simp only [Tm.kd] at I
 simp only [Tm.ok,oJ,zI,inB] at h
 simp only [Tm.no]
 rcases I with rfl | rfl
 ·have:=h.2.1.2.2.2.2.1
  simp at this;omega
 ·have:=h.2.1.2.2.2.2.1
  simp at this;omega
theorem zKF (s:ByteArray):yG s=2\/yG s=3:=by unfold yG;split<;>simp
/-- what an operation of literals gives -/
def zPr (nm:ByteArray) (l:List Tm):Tm × Bool:=if l.all (λx=>x.kd==yG nm) then (zM9 (zAv nm) (zq nm (l.getD 0 tm0).no (l.getD 1 tm0).no).1,true) else (tm0,false)
theorem zNN {n0:Int} {nm ot:ByteArray} {ty re:Ty} {l:List Tm} {d:D} (hd:(Tm.mk 4 nm ot n0 ty re l).Is d) (aa:0<zC6 nm) (ae:l.length<=2) (ah:∀ x∈l,x.kd=2\/x.kd=3->0<=x.no/\x.no<=10006):zQT 104 [.dg 9 d] (zPr nm l):=λN Q hQ=>by
 obtain ⟨t0,t1,r0,r1,a,es,c,rfl,hh,ab,ac⟩:=Tm.is_mk.1 hd
 have hl:=ac.len
 have loop:∀ N',N<=N'->yV Q N (yG nm) 2 2 a es c es.length 0 (.ag [.lit (.int .i64 4),.lit (.string nm),.lit (.string ot),.lit (.int .i64 n0),t0,t1,r0,r1,.sl a 9 es c]) 0 (bytes []) (bytes []) 0 0 none [] 0 0 none [] 0 none [] 0 [.lit (.int .i64 0),.lit (.int .i64 0)] 2 N':=λN' J=>by
  refine up ac ab (λi xs=>∀ N',N<=N'->(∀ j x,j<i->l[j]?=some x->x.kd=yG nm)->yV Q N (yG nm) 2 2 a es c es.length i (.ag [.lit (.int .i64 4),.lit (.string nm),.lit (.string ot),.lit (.int .i64 n0),t0,t1,r0,r1,.sl a 9 es c]) 0 (bytes []) (bytes []) 0 0 none [] 0 0 none [] 0 none [] 0 (zFQ l i) 2 N') ?_ ?_ N' J (λj x h=>absurd h (by omega))
  ·intro i ai hi N' J hk
   have O:∀ x∈l,x.kd=yG nm:=λx U=>by
    obtain ⟨j,hj⟩:=oO.1 U
    exact hk j x (by have:=(oB.1 hj).1;omega) hj
   have aj:i=l.length:=by omega
   have hr:∀ j,0<=(l.getD j tm0).no/\(l.getD j tm0).no<=10006:=λj=>by
    by_cases hj:j<l.length
    ·have hm:=zN hj
     refine ah _ hm ?_
     rw [O _ hm];exact zKF nm
    ·rw [zDN (by omega)];decide
   have hq:zPr nm l=(zM9 (zAv nm) (zq nm (l.getD 0 tm0).no (l.getD 1 tm0).no).1,true):=by
    unfold zPr
    rw [if_pos (oV.2 λx U=>by rw [O x U];exact beq_self_eq_true _)]
   rw [hq] at hQ
   refine sa _ _ _ _ _ _ _ _ _ _ _ _ _ _ _ _ _ _ _ _ _ _ _ _ _ _ _ _ _ ?_
   rw [ai,aj,zLg ae]
   refine ⟨_,rfl,⟨⟨by omega,by omega,by simp⟩,by simp,_,rfl,⟨by omega,by omega,by simp⟩,by simp,_,rfl,λN2 ak=>zFS _ _ _ N2 _ λN3 ay _=>⟨_,rfl,λN4 az=>zKi _ N4 _ λN5 a6 _ N6 a7=>zOj _ _ N6 _ λx N7 a8 U _ _ N8 ba=>?_⟩⟩⟩
   rw [zNM aa (hr 0) (hr 1)]
   rw [<-zN8 aa] at U
   exact hQ _ _ (by omega) U
  ·intro i x xs I bb al N' J hk
   have hb:=I.b
   have U:=I.r
   have am:l.getD i tm0=x:=by rw [oA,I.g];rfl
   refine sa _ _ _ _ _ _ _ _ _ _ _ _ _ _ _ _ _ _ _ _ _ _ _ _ _ _ _ _ _ ?_
   rw [I.lt,oH,I.w]
   cases x with
   | mk pk pn po pm pt pr pl=>
   obtain ⟨u0,u1,v0,v1,a2,bc,c2,heq,bd,ao,ax⟩:=Tm.is_mk.1 U
   rw [heq]
   refine ⟨⟨by omega,by omega⟩,_,rfl,Br.bne (λaq N1 au=>?_) λhe=>⟨_,rfl,⟨by omega,by omega,by simp only [zFQ,oN,oQ];omega⟩,by simp only [zFQ,oN,oQ];omega,?_⟩⟩
   ·have hq:zPr nm l=(tm0,false):=by
     unfold zPr
     rw [if_neg λhc=>aq (by have:=oV.1 hc _ I.m;exact (by simpa using this:(Tm.mk pk pn po pm pt pr pl).kd=yG nm))]
    rw [hq] at hQ
    exact hQ _ _ (by omega) zJI
   ·rw [ol]
    have Y:=zL3 (l:=l) (i:=i) (by omega)
    rw [am] at Y
    simp only [Tm.no] at Y
    rw [Y]
    refine al _ J λj y hj hy=>?_
    by_cases aw:j<i
    ·exact hk j y aw hy
    ·have:j=i:=by omega
     subst this
     rw [I.g] at hy
     rw [<-oT hy];exact he
 refine zFX N _ Q λ_=>⟨_,rfl,λN1 au=>zGE nm N1 _ λN2 ak _=>Br.of (λh=>⟨_,_,_,rfl,?_⟩) λh=>⟨_,_,_,rfl,?_⟩⟩
 ·have:=loop N2 (by omega)
  rw [show yG nm=3 by unfold yG;rw [if_pos h]] at this
  exact this
 ·have:=loop N2 (by omega)
  rw [show yG nm=2 by unfold yG;rw [if_neg (by rw [h];decide)]] at this
  exact this
theorem zNt {n0:Int} {nm ot:ByteArray} {ty re:Ty} {l:List Tm} {d:D} (hd:(Tm.mk 4 nm ot n0 ty re l).Is d) (I:(Tm.mk 4 nm ot n0 ty re l).ok=true):zQT 104 [.dg 9 d] (zPr nm l):=by
 have O:l.length<=2:=by
  have h1:=(wE I).2.2.2.2 rfl
  have h2:=zPQ nm
  omega
 have J:∀ x∈l,x.ok=true:=by
  simp only [Tm.ok,oJ] at I
  have U:∀ {l:List Tm},tX l=true->∀ x∈l,x.ok=true:=λ{l}=>by
   induction l with
   | nil=>intro _ x hx;simp at hx
   | cons t ts Y=>
     intro h x hx
     simp only [tX,oJ] at h
     rcases oF.1 hx with rfl | hx
     ·exact h.1
     ·exact Y h.2 x hx
  exact U I.1
 exact zNN hd (zUI I) O λx hx h=>zOh (J x hx) h
theorem zD5 {k n m:Int} {c1 O U Y c6 c7 c8:D}:ue 140 [.dg 9 (.ag [.lit (.int .i64 k),c1,O,.lit (.int .i64 n),U,Y,c6,c7,c8]),.int .i64 m] (!(k==11&&m==1)):=λN Q J=>
 qn N _ m Q λ_=>⟨_,rfl,Br.bne (λh N1 I=>Qb (J _ I) (by simp [h])) λh N1 I=>Qb (J _ I) (by rw [h];simp [bne])⟩
theorem zNc:∀ (t:Tm) (d:D),t.Is d->∀ m:Int,LvIn m t.dp->ue 59 [.dg 9 d,.int .i64 m,.fn 140 []] (t.made m):=by
 refine Tm.ind λk nm ot n ty re l ih d hd m hm N Q hQ=>?_
 obtain ⟨t0,t1,r0,r1,a,es,c,rfl,hh,O,U⟩:=Tm.is_mk.1 hd
 have hl:=U.len
 refine zBV N _ m Q λ_ N1 ae=>zD5 N1 _ λN2 ah _=>Br.not (λY N3 ai=>Qb (hQ _ (by omega)) (by simp only [Tm.made,Y,Bool.false_and])) λY=>⟨_,_,_,rfl,?_⟩
 refine up U O (λi xs=>∀ (N':Nat),N<=N'->(∀ N'',N'<=N''->Q (uZ xs (zT k m)) N'')->xy Q N m a es c es.length i (.ag [.lit (.int .i64 k),.lit (.string nm),.lit (.string ot),.lit (.int .i64 n),t0,t1,r0,r1,.sl a 9 es c]) N') ?_ ?_ N2 (by omega) λN'' h=>Qb (hQ N'' (by omega)) (by simp only [Tm.made,Y,Bool.true_and])
 ·intro i aa _ N' ab J
  refine sq _ _ _ _ _ _ _ _ _ _ ?_
  repeat' first|with_reducible intro _|simp only[aa,Y1,Y2,Y3,Y4]|with_reducible refine X ?_ ?_|refine⟨_,_,_,rfl,?_⟩|refine⟨_,rfl,?_⟩|refine And.intro (by first|omega|trivial|(show _=_;rfl)|(with_reducible constructor)<;>first|omega|trivial|rfl) ?_|fail
  exact Qb (J _ (by omega)) (by simp [uZ])
 ·intro i x xs I _ ac N' ab J
  have aj:=I.b
  refine sq _ _ _ _ _ _ _ _ _ _ ?_
  repeat' first|with_reducible intro _|simp only[I.lt,I.w,oH,Y1,Y2,Y3,Y4]|with_reducible refine X ?_ ?_|refine⟨_,_,_,rfl,?_⟩|refine⟨_,rfl,?_⟩|refine And.intro (by first|omega|trivial|(show _=_;rfl)|(with_reducible constructor)<;>first|omega|trivial|rfl) ?_|refine (zCM hm.b) _ _ ?_|refine (ih x I.m _ I.r _ (hm.next (dp_mem I.m))) _ _ ?_|fail
  ·refine Qb (J _ (by omega)) ?_;simp [uZ, *]
  ·exact ac _ (by omega) λN'' h=>Qb (J N'' (by omega)) (by simp [uZ, *])
theorem zHX {t:Tm} {d:D} (hd:t.Is d) (hc:t.cnt<=1073741824) {m:Int} (U:LvIn m t.dp):ue 101 [.dg 9 d,.int .i64 m] (pT t m&&t.made m):=λN Q O=>
 pp N _ m Q λ_ N1 Y=>r6 t d hd hc m N1 _ λN2 aa _=>Br.of (λI N3 J=>zNc t d hd m U N3 _ λN4 ab _ N5 ac=>Qb (O _ (by omega)) (by rw [I];simp)) λI N3 J=>Qb (O _ (by omega)) (by rw [I];simp)
theorem v8 {e:Tm} {d:D} (he:e.Is d) (J:e.ok=true) (hc:e.cnt<=1073741824):ue 62 [.dg 9 d] e.res:=λN Q hQ=>by
 cases e with
 | mk k nm ot n0 ty re l=>
 have hI:=tz _ d he hc
 rw [J] at hI
 obtain ⟨t0,t1,r0,r1,a,es,c,rfl,hh,ae,aa⟩:=Tm.is_mk.1 he
 have hl:=aa.len
 refine zEk N _ Q λ_=>⟨_,rfl,?_⟩
 refine Br.beq (λh2 N1 I=>hI N1 _ λN2 O _ N3 U=>Qb (hQ _ (by omega)) (by simp [Tm.res,zLL,Tm.kd,h2])) λh2=>?_
 refine Br.beq (λh3 N1 I=>hI N1 _ λN2 O _ N3 U=>Qb (hQ _ (by omega)) (by simp [Tm.res,zLL,Tm.kd,h3])) λh3=>?_
 refine Br.beq (λh6 N1 I=>hI N1 _ λN2 O _ N3 U=>Qb (hQ _ (by omega)) (by simp [Tm.res,zLL,Tm.kd,h6])) λh6=>?_
 refine Br.beq (λh9 N1 I=>hI N1 _ λN2 O _ N3 U=>Qb (hQ _ (by omega)) (by simp [Tm.res,zLL,Tm.kd,h9])) λh9=>?_
 refine Br.beq (λY N1 I=>?_) λY N1 I=>Qb (hQ _ I) (by simp [Tm.res,zLL,Tm.kd,h2,h3,h6,h9,Y])
 subst Y
 have ab:=(wE J).1 (by omega)
 refine hI N1 _ λN2 O _=>Br.of (λ_=>?_) λh=>absurd h (by decide)
 cases l with
 | nil=>simp at ab
 | cons p ls=>
 cases ls with
 | cons _ _=>simp at ab
 | nil=>
 have ah:=Tm.dp_cnt p
 have ac:p.ok=true:=by
  simp only [Tm.ok,tX,oJ] at J
  exact J.1.1
 simp only [Tm.cnt,zL] at hc
 refine ⟨_,_,_,rfl,⟨by omega,by omega⟩,λN3 U=>?_⟩
 refine zHX (yP aa (j:=0) (by simp)) (by simp only [mL];omega) (m:=1) (by unfold LvIn;simp only [mL];omega) N3 _ λN4 ai _ N5 aj=>Qb (hQ _ (by omega)) ?_
 simp only [mL,Tm.res,zLL,Tm.kd,Tm.lev,tQ,zT,Tm.pt,pT,ac]
 simp [inB]
theorem zGI {e:Tm} {d:D} (he:e.Is d) (O:e.ok=true) (hc:e.cnt<=1073741824):zQT 102 [.dg 9 d] (if e.kd=10/\e.res=true then (e.pt 0,true) else (tm0,false)):=λN Q J=>by
 cases e with
 | mk k nm ot n0 ty re l=>
 have hR:=v8 he O hc
 have hG:=Tm.G_cnt _ hc
 obtain ⟨t0,t1,r0,r1,a,es,c,rfl,hh,ab,U⟩:=Tm.is_mk.1 he
 have hl:=U.len
 refine zEh N _ Q λ_=>⟨_,rfl,Br.bne (λI N1 Y=>?_) λI N2 ac=>hR N2 _ λN3 ae _=>Br.not (λhv N4 ah=>?_) λhv=>?_⟩
 ·rw [if_neg (λh=>I h.1)] at J
  exact J _ _ Y zJI
 ·rw [if_neg (λh=>by rw [hv] at h;exact absurd h.2 (by decide))] at J
  exact J _ _ (by omega) zJI
 ·rw [if_pos ⟨I,hv⟩] at J
  have ai:=(wE O).1 (by omega)
  refine ⟨_,_,_,rfl,⟨by omega,by omega⟩,λN5 aj=>?_⟩
  exact zJK rt (yP U (j:=0) (by omega)) (yH hG.2.2.2 (zN (by omega))) (N0:=N) (by omega) (λd N=>Q d true N) λd' N7 ak aa _=>J _ _ (by omega) aa
theorem zQj {e:Tm} {d:D} (he:e.Is d) (hok:e.ok=true) (hc:e.cnt<=1073741824):zQT 106 [.dg 9 d] (if e.kd=2\/e.kd=3 then (Tm.nod 10 [e],true) else (tm0,false)):=fun N Q hQ=>by
 cases e with
 | mk k nm ot n0 ty re l=>
 have hI:=tz _ d he hc
 rw [hok] at hI
 have hG:=Tm.G_cnt _ hc
 have he0:=he
 obtain ⟨t0,t1,r0,r1,a,es,c,rfl,hh,hlen,hes⟩:=Tm.is_mk.1 he
 have hl:=hes.len
 have fin:(Tm.mk k nm ot n0 ty re l).kd=2\/(Tm.mk k nm ot n0 ty re l).kd=3->∀ N2,N<=N2->∀ N3,N2<=N3->ACalls prog 33 [.pk,.int .i64,.str,.str,.int .i64,.dc,.dc,.dc,.dc,.row 29 9] [.dg 9 (.ag [.lit (.int .i64 k),.lit (.string nm),.lit (.string ot),.lit (.int .i64 n0),t0,t1,r0,r1,.sl a 9 es c])] N3
   (fun n s s_1 n_1 x x_1 x_2 x_3 es c N4=>N3<=N4->Bel N4 (D.ag es)->(es.length=es.length/\c=c)/\∀ a N5,N4<=N5->Fresh N N5 a [D.ag es]->(1=([D.ag [D.lit (.int .i64 n),D.lit (.string s),D.lit (.string s_1),D.lit (.int .i64 n_1),x,x_1,x_2,x_3,D.sl a 9 es c]]).length/\1=1) /\
    ∀ a_1 N6,N5<=N6->Fresh N N6 a_1 [D.ag [D.ag [D.lit (.int .i64 n),D.lit (.string s),D.lit (.string s_1),D.lit (.int .i64 n_1),x,x_1,x_2,x_3,D.sl a 9 es c]]]->∀ N7,N6<=N7->ACalls prog 150 [.ag 9] [.int .i64 10,.sv a_1 9 [D.ag [D.lit (.int .i64 n),D.lit (.string s),D.lit (.string s_1),D.lit (.int .i64 n_1),x,x_1,x_2,x_3,D.sl a 9 es c]] 1] N7
      (fun x_4 N8=>N7<=N8->Bel N8 x_4->∀ N9,N8<=N9->Q x_4 true N9)):=fun hk N2 hN2 N3 hN3=>by
  rw [if_pos hk] at hQ
  refine rt _ _ he0 hG N3 _ ?_
  intro x4 x5 x6 x7 es' c' N4 hN4 hh' hes' ho' _ _
  have hl':=hes'.len
  have hgl:=hG.2.2.1
  refine ⟨⟨rfl,rfl⟩,fun a1 N5 hN5 _=>⟨⟨rfl,rfl⟩,fun a2 N6 hN6 _ N7 hN7=>zHJ N7 10 a2 _ 1 _ fun _ N8 hN8 _ _ N9 hN9=>hQ _ _ (by omega) ?_⟩⟩
  exact Tm.is_mk.2 ⟨_,_,_,_,_,_,_,rfl,⟨by decide,by decide,xL _,xL _⟩,by simp,_,[],rfl,Tm.is_mk.2 ⟨_,_,_,_,_,_,_,rfl,hh',by omega,hes'⟩,rfl⟩
 refine zIb N _ Q fun _=>⟨_,rfl,Br.bne (fun h2=>⟨_,rfl,Br.bne (fun h3 N1 hN1=>?_) fun h3 N2 hN2=>hI N2 _ fun N3 hN3 _=>Br.not (fun h=>absurd h (by decide)) fun _=>fin (.inr h3) N3 (by omega)⟩) fun h2 N2 hN2=>hI N2 _ fun N3 hN3 _=>Br.not (fun h=>absurd h (by decide)) fun _=>fin (.inl h2) N3 (by omega)⟩
 rw [if_neg (fun h=>h.elim h2 h3)] at hQ
 exact hQ _ _ hN1 zJI
theorem zDJ {e b:Tm} {d I:D} (J:e.Is d) (O:b.Is I) (x:ByteArray) (U:e.Z) (Y:b.Z):zR4 105 [.dg 9 d,.str x,.dg 9 I] (e.sb x b):=zGR e.dp e d x b I J O (oD _) U Y
theorem zQE {n0:Int} {nm ot:ByteArray} {ty re:Ty} {l:List Tm}:(Tm.mk 4 nm ot n0 ty re l).opr l=if (zPr nm l).2=true then ((zPr nm l).1,1) else (Tm.mk 4 nm ot n0 ty re l,0):=by
 unfold Tm.opr zPr
 by_cases hc:(l.all λx=>x.kd==yG nm)=true
 ·rw [if_pos hc,if_pos (show (l.all λx=>x.kd==yG (Tm.mk 4 nm ot n0 ty re l).nm)=true from hc),if_pos rfl];rfl
 ·rw [if_neg hc,if_neg (show ¬(l.all λx=>x.kd==yG (Tm.mk 4 nm ot n0 ty re l).nm)=true from hc),if_neg (by decide)]
/-- the rule of a form whose parts are results -/
theorem zSi {k n0:Int} {nm ot:ByteArray} {ty re:Ty} {l:List Tm} {d:D} {f:Nat} (hd:(Tm.mk k nm ot n0 ty re l).Is d) (hF:(Tm.mk k nm ot n0 ty re l).F (f+1)) (ak:k=12->(l.getD 0 tm0).res=true) :
  zM1 66 [.dg 9 d] (Tm.mk k nm ot n0 ty re l).apl:=λN Q I=>by
 have U:=hd
 obtain ⟨t0,t1,r0,r1,a,es,c,rfl,hh,bm,ab⟩:=Tm.is_mk.1 hd
 have hl:=ab.len
 have ac:=hF.ok
 have al:k=4->∀ N1,N<=N1->ACalls prog 104 [.ag 9,.bool] [.dg 9 (.ag [.lit (.int .i64 k),.lit (.string nm),.lit (.string ot),.lit (.int .i64 n0),t0,t1,r0,r1,.sl a 9 es c])] N1 (λx b N2=>N1<=N2->Bel N2 x->Br b (∀ N3,N2<=N3->Q x 1 N3) (∀ N4,N2<=N4->Q (.ag [.lit (.int .i64 k),.lit (.string nm),.lit (.string ot),.lit (.int .i64 n0),t0,t1,r0,r1,.sl a 9 es c]) 0 N4)):=λh4 N1 b8=>by
  subst h4
  simp only [Tm.apl] at I
  rw [if_pos trivial,zQE] at I
  refine zNt U ac N1 _ λdx N2 b9 hx _ _=>Br.of (λO N3 ca=>?_) λO N4 cc=>?_
  ·rw [if_pos O] at I;exact I _ _ (by omega) hx
  ·rw [if_neg (by rw [O];decide)] at I;exact I _ _ (by omega) U
 refine zJ2 N _ Q λ_=>⟨_,_,_,rfl,Br.dec (λbn=>⟨_,_,_,rfl,⟨by omega,by omega⟩,_,rfl,?_⟩) λbp=>⟨_,rfl,?_⟩⟩
 ·have aq:0<l.length:=by omega
  have am:=yP ab aq
  have J:=hF.mem _ (zN aq)
  have a7:=J.c
  refine Br.beq (λh4=>al h4) λh4=>?_
  simp only [Tm.apl] at I
  rw [if_neg h4] at I
  generalize cd:l.getD 0 tm0=p at am J I ak a7
  have ai:=am
  have au:=λh=>zLG J.ok h
  have aw:=zGI ai J.ok (by omega)
  have ax:=zQj ai J.ok (by omega)
  cases p with
  | mk pk pn po pm pt pr Y=>
  obtain ⟨u0,u1,v0,v1,a2,ce,c2,heq,cf,a8,aj⟩:=Tm.is_mk.1 am
  have cg:=aj.len
  simp only [Tm.kd,Tm.no] at au
  rw [heq] at ai aw ax ⊢
  have one:(pk=6\/pk=9)->Y.length=1:=λh=>(wE J.ok).1 (by omega)
  have ao:Y.length=1->(Y.getD 0 tm0).F f:=λh=>((J.up (g:=f+1) (by omega)).mem _ (zN (l:=Y) (i:=0) (by omega)))
  refine Br.beq (λh5=>⟨_,rfl,Br.beq (λh3=>?_) λh3 N9 ba=>?_⟩) λh5=>Br.beq (λh7=>⟨_,rfl,Br.beq (λh6=>?_) λh6=>Br.beq (λh9=>?_) λh9 ch bq=>?_⟩) λh7=>Br.beq (λh8=>?_) λh8=>Br.beq (λaa bb bt=>?_) λaa=>Br.beq (λae bc bv=>?_) λae bd ay=>?_
  ·rw [if_pos h5,if_pos (show (Tm.mk pk pn po pm pt pr Y).kd=3 from h3)] at I
   have cj:=(wE ac).2.2.1 h5
   have hn:=au h3
   have hw:IntKind.i64.wrap (2 - pm)=2 - pm:=i64_in _ (by omega)
   refine ⟨_,_,_,rfl,_,rfl,?_⟩
   rw [hw]
   refine ⟨⟨by omega,by omega⟩,λN6 az=>?_⟩
   exact zJK rt (yP ab (j:=(2 - pm).toNat) (by omega)) (yH hF.z.g.2.2.2 (zN (by omega))) (N0:=N) (by omega) (λd N=>Q d 2 N) λd' N7 a6 bg _=>I _ _ (by omega) bg
  ·rw [if_pos h5,if_neg (show ¬(Tm.mk pk pn po pm pt pr Y).kd=3 from h3)] at I
   exact I _ _ (by omega) U
  ·have bh:=(wE ac).2.1 (.inl h7)
   have h1:=one (.inl h6)
   rw [if_neg h5,if_pos h7,if_pos (show (Tm.mk pk pn po pm pt pr Y).kd=6 from h6)] at I
   refine ⟨_,_,_,rfl,⟨by omega,by omega⟩,_,rfl,_,_,_,rfl,⟨by omega,by omega⟩,λN6 az=>?_⟩
   exact zDJ (yP aj (j:=0) (by omega)) (yP ab (j:=1) (by omega)) pn (ao h1).z (hF.mem _ (zN (i:=1) (by omega))).z N6 _ λdx N7 a6 hx _ _ _ N8 bi=>I _ _ (by omega) hx
  ·have bh:=(wE ac).2.1 (.inl h7)
   have h1:=one (.inr h9)
   rw [if_neg h5,if_pos h7,if_neg (show ¬(Tm.mk pk pn po pm pt pr Y).kd=6 from h6),if_pos (show (Tm.mk pk pn po pm pt pr Y).kd=9 from h9)] at I
   refine ⟨_,_,_,rfl,⟨by omega,by omega⟩,_,rfl,_,rfl,_,_,_,rfl,⟨by omega,by omega⟩,λN9 ba=>?_⟩
   refine zDJ (yP aj (j:=0) (by omega)) ai pn (ao h1).z J.z N9 _ λdx ck bw hx _ _ _ bj bz=>?_
   exact zDJ hx (yP ab (j:=1) (by omega)) po (zU2 (ao h1) J) (hF.mem _ (zN (i:=1) (by omega))).z bj _ λdy cm b0 hy _ _ _ cn b1=>I _ _ (by omega) hy
  ·rw [if_neg h5,if_pos h7,if_neg (show ¬(Tm.mk pk pn po pm pt pr Y).kd=6 from h6),if_neg (show ¬(Tm.mk pk pn po pm pt pr Y).kd=9 from h9)] at I
   exact I _ _ (by omega) U
  ·have co:=(wE ac).2.1 (.inr h8)
   rw [if_neg h5,if_neg h7,if_pos h8] at I
   refine ⟨_,_,_,rfl,⟨by omega,by omega⟩,_,rfl,λN6 az=>?_⟩
   exact zDJ (yP ab (j:=1) (by omega)) ai nm (hF.mem _ (zN (i:=1) (by omega))).z J.z N6 _ λdx N7 a6 hx _ _ _ N8 bi=>I _ _ (by omega) hx
  ·rw [if_neg h5,if_neg h7,if_neg h8,if_pos aa] at I
   have hr:=ak aa
   refine aw bb _ λdx cp b2 hx _ _=>Br.of (λO cq b3=>?_) λO cr b4=>?_
   ·by_cases ah:(Tm.mk pk pn po pm pt pr Y).kd=10
    ·rw [if_pos ⟨ah,hr⟩] at hx
     rw [if_pos ah] at I
     exact I _ _ (by omega) hx
    ·rw [if_neg (λh=>ah h.1)] at O
     first | exact absurd (show true=false from O) (by decide) | exact absurd (show false=true from O) (by decide)
   ·by_cases ah:(Tm.mk pk pn po pm pt pr Y).kd=10
    ·rw [if_pos ⟨ah,hr⟩] at O
     first | exact absurd (show true=false from O) (by decide) | exact absurd (show false=true from O) (by decide)
    ·rw [if_neg ah] at I
     exact I _ _ (by omega) U
  ·rw [if_neg h5,if_neg h7,if_neg h8,if_neg aa,if_pos ae] at I
   refine ax bc _ λdx ct b5 hx _ _=>Br.of (λO cw b6=>?_) λO cx b7=>?_
   ·by_cases h2:(Tm.mk pk pn po pm pt pr Y).kd=2\/(Tm.mk pk pn po pm pt pr Y).kd=3
    ·rw [if_pos h2] at hx I
     exact I _ _ (by omega) hx
    ·rw [if_neg h2] at O
     first | exact absurd (show true=false from O) (by decide) | exact absurd (show false=true from O) (by decide)
   ·by_cases h2:(Tm.mk pk pn po pm pt pr Y).kd=2\/(Tm.mk pk pn po pm pt pr Y).kd=3
    ·rw [if_pos h2] at O
     first | exact absurd (show true=false from O) (by decide) | exact absurd (show false=true from O) (by decide)
    ·rw [if_neg h2] at I
     exact I _ _ (by omega) U
  ·rw [if_neg h5,if_neg h7,if_neg h8,if_neg aa,if_neg ae] at I
   exact I _ _ (by omega) U
 ·have cy:l.length=0:=by omega
  obtain ⟨a1,a2,a3,_,_⟩:=wE ac
  refine Br.beq (λh4=>al h4) λh4=>Br.beq (λh5=>by have:=a3 h5;omega) λh5=>Br.beq (λh7=>by have:=a2 (.inl h7);omega) λh7=>Br.beq (λh8=>by have:=a2 (.inr h8);omega) λh8=>Br.beq (λaa=>by have:=a1 (by omega);omega) λaa=>Br.beq (λae=>by have:=a1 (by omega);omega) λae bd ay=>?_
  simp only [Tm.apl] at I
  rw [if_neg h4,if_neg h5,if_neg h7,if_neg h8,if_neg aa,if_neg ae] at I
  exact I _ _ (by omega) U
theorem zNE {k n0:Int} {nm ot:ByteArray} {t0 t1 r0 r1:D} {a:Option Addr} {es:List D} {c:Nat}:zBE 65 [.dg 9 (.ag [.lit (.int .i64 k),.lit (.string nm),.lit (.string ot),.lit (.int .i64 n0),t0,t1,r0,r1,.sl a 9 es c])] (tM k es.length:Nat):=λN Q J=>by
 refine zEC N _ Q λ_=>⟨_,rfl,Br.beq (λY=>⟨_,_,_,rfl,λN1 I=>Qi (J _ I) (by simp [tM,Y])⟩) λY=>Br.beq (λh7=>⟨_,_,_,rfl,λN1 I=>Qi (J _ I) (by simp [tM,h7])⟩) λh7=>?_⟩
 refine Br.beq (λh5 N1 I=>Qi (J _ I) (by simp [tM,h5])) λh5=>Br.beq (λh8 N1 I=>Qi (J _ I) (by simp [tM,h8])) λh8=>Br.beq (λO N1 I=>Qi (J _ I) (by simp [tM,O])) λO=>Br.beq (λU N1 I=>Qi (J _ I) (by simp [tM,U])) λU N1 I=>Qi (J _ I) (by simp [tM,Y,h7,h5,h8,O,U])
/-- a node with one other part -/
theorem zRc {t y:Tm} {d dy:D} (h:t.Is d) (hG:t.G) (hy:y.Is dy) (h1:t.as.length=1) {N0 N:Nat} {a1:Option Addr} (hb:wQ N [a1]) (Q':D->Nat->Prop) (hq:∀ d' N',N<=N'->(t.wth 0 y).Is d'->Q' d' N') :
  ACalls prog 64 [.pk,.int .i64,.str,.str,.int .i64,.dc,.dc,.dc,.dc,.bk 1] [.dg 9 d,.sv a1 9 [dy] 1] N (λn s ab ac I J O U ae N7=>N<=N7->ae=D.sl a1 9 [dy] 1/\Off [a1] I/\Off [a1] J/\Off [a1] O/\Off [a1] U/\(1=([dy]).length/\1=1)/\(1=([dy]).length/\1=1)/\(1=([dy]).length/\1=1) /\
   ∀ Y N8,N7<=N8->Fresh N0 N8 Y [D.ag [dy],I,J,O,U]->∀ N9,N8<=N9->Q' (D.ag [D.lit (.int .i64 n),D.lit (.string s),D.lit (.string ab),D.lit (.int .i64 ac),I,J,O,U,D.sl Y 9 [dy] 1]) N9):=by
 cases t with
 | mk k nm ot n0 ty re l=>
 obtain ⟨t0,t1,r0,r1,a,es,c,rfl,hh,al,am⟩:=Tm.is_mk.1 h
 simp only [Tm.as] at h1
 obtain ⟨g1,g2,g3,g4⟩:=hG
 refine zKg hh g1 g2 a1 [dy] 1 N _ λx4 x5 x6 x7 N5 ao ah ai _=>⟨rfl,?_⟩
 have off:∀ y∈[x4,x5,x6,x7],Off [a1] y:=λy hy a' aj ad ak hc=>by
  have h1:=hb a' aj ad ak
  have h2:=ai.lo _ (zK.2 ⟨y,hy,hc⟩)
  omega
 refine ⟨off x4 (by simp),off x5 (by simp),off x6 (by simp),off x7 (by simp),⟨rfl,rfl⟩,⟨rfl,rfl⟩,⟨rfl,rfl⟩,λa2 N8 aq _ N9 au=>hq _ _ (by omega) ?_⟩
 have aa:l.set 0 y=[y]:=by
  cases l with
  | nil=>simp at h1
  | cons p ls=>cases ls with
    | nil=>rfl
    | cons _ _=>simp at h1
 simp only [Tm.wth]
 rw [aa]
 exact Tm.is_mk.2 ⟨_,_,_,_,_,_,_,rfl,ah,by simp,dy,[],rfl,hy,rfl⟩
/-- the first splice of level 1, by steps -/
theorem zJi {f:Nat} (hS:zRZ 34 f):∀ (t:Tm) (d:D),t.Is d->t.F (f+1)->∀ m:Int,LvIn m t.dp->zRO 63 [.dg 9 d,.int .i64 m,.fn 34 []] (t.cod (Tm.stp f) m):=by
 refine Tm.ind λk nm ot n0 ty re l ih d hd hF m hm N Q J=>?_
 have aa:=hd
 obtain ⟨t0,t1,r0,r1,a,es,c,rfl,hh,ai,ac⟩:=Tm.is_mk.1 hd
 have hl:=ac.len
 have loop:¬(k=11/\m=1)->yT Q N m a es c es.length 0 (.ag [.lit (.int .i64 k),.lit (.string nm),.lit (.string ot),.lit (.int .i64 n0),t0,t1,r0,r1,.sl a 9 es c]) 0 (bytes []) (bytes []) 0 0 none [] 0 0 none [] 0 none [] 0 N:=λam=>by
  simp only [Tm.cod] at J
  rw [if_neg am] at J
  refine up ac ai (λi xs=>∀ N',N<=N'->(match zh (Tm.stp f) xs (zT k m) with | none=>zh (Tm.stp f) l (zT k m)=none | some (l',r)=>zh (Tm.stp f) l (zT k m)=some (l.take i++l',r)) ->
   yT Q N m a es c es.length i (.ag [.lit (.int .i64 k),.lit (.string nm),.lit (.string ot),.lit (.int .i64 n0),t0,t1,r0,r1,.sl a 9 es c]) 0 (bytes []) (bytes []) 0 0 none [] 0 0 none [] 0 none [] 0 N') ?_ ?_ N (oD _) ?_
  ·intro i ao hi N' aq O
   simp only [zh] at O
   rw [O] at J
   refine sS _ _ _ _ _ _ _ _ _ _ _ _ _ _ _ _ _ _ _ _ _ _ _ _ _ ?_
   rw [ao]
   exact λN2 aj=>J _ _ (by omega) aa
  ·intro i x xs I au aw N' aq O
   have hb:=I.b
   have ak:i<l.length:=(oB.1 I.g).1
   refine sS _ _ _ _ _ _ _ _ _ _ _ _ _ _ _ _ _ _ _ _ _ _ _ _ _ ?_
   rw [I.lt,I.w]
   refine ⟨⟨by omega,by omega⟩,λN1 ax=>zCM hm.b N1 _ λN2 aj _ N3 ay=>?_⟩
   have hr:=I.r
   rw [<-oH i] at hr
   refine ih x I.m _ hr ((hF.mem x I.m).up (by omega)) _ (hm.next (dp_mem I.m)) N3 _ λdx N4 az hx _ _=>Br.of (λY N5 a6=>?_) λY=>?_
   ·simp only [zh] at O
    rw [if_pos Y] at O
    simp only at O
    rw [O] at J
    refine zR6 rt aa hF.z.g hx ak (N0:=N) (λd N=>Q d (x.cod (Tm.stp f) (zT k m)).2.1 true N) λd' N6 a7 ae=>J _ _ (by omega) ?_
    have:l.take i++(x.cod (Tm.stp f) (zT k m)).1::xs=l.set i (x.cod (Tm.stp f) (zT k m)).1:=by
     rw [mu,if_pos ak,au]
    simp only
    rw [this]
    exact ae
   ·refine aw _ (by omega) ?_
    simp only [zh] at O
    rw [if_neg (by rw [Y];decide)] at O
    cases hc:zh (Tm.stp f) xs (zT k m) with
    | none=>rw [hc] at O;exact O
    | some p=>
      obtain ⟨l',r⟩:=p
      rw [hc] at O
      simp only at O ⊢
      rw [O,wS I.g,nY];rfl
  ·cases hc:zh (Tm.stp f) l (zT k m) with
   | none=>rfl
   | some p=>obtain ⟨l',r⟩:=p;simp
 refine zCz N _ m Q λ_=>⟨_,rfl,Br.beq (λh1=>Br.beq (λh2=>?_) λh2=>⟨_,_,_,rfl,loop λh=>h2 h.2⟩) λh1=>⟨_,_,_,rfl,loop λh=>h1 h.1⟩⟩
 have a8:=(wE hF.ok).1 (by omega)
 have al:0<l.length:=by omega
 have ba:=zN al
 have ab:=hF.mem _ ba
 have ah:=yP ac al
 have bg:=ab.c
 simp only [Tm.cod] at J
 rw [if_pos ⟨h1,h2⟩] at J
 unfold zSE at J
 rw [zSX] at J
 refine ⟨_,_,_,rfl,⟨by omega,by omega⟩,λN1 ax=>v8 ah ab.ok (by omega) N1 _ λN2 aj _=>Br.not (λhr N3 ay=>?_) λhr N9 bh=>?_⟩
 ·rw [if_neg (by rw [hr];decide)] at J
  refine hS _ _ ah ab N3 _ λdx N4 az hx _ _=>⟨⟨rfl,rfl⟩,λa1 _ _ N5 a6 hb=>?_⟩
  exact zRc aa hF.z.g hx a8 hb (N0:=N) (λd N=>Q d (Tm.stp f (l.getD 0 tm0)).2 true N) λd' N6 a7 ae=>J _ _ (by omega) ae
 ·rw [if_pos hr] at J
  refine zGI ah ab.ok (by omega) N9 _ λdx bi bb hx _ _=>Br.of (λY bj bc=>?_) λY bm bd=>?_
  ·by_cases U:(l.getD 0 tm0).kd=10
   ·rw [if_pos ⟨U,hr⟩] at hx
    rw [if_pos U] at J
    exact J _ _ (by omega) hx
   ·rw [if_neg (λh=>U h.1)] at Y
    first | exact absurd (show true=false from Y) (by decide) | exact absurd (show false=true from Y) (by decide)
  ·by_cases U:(l.getD 0 tm0).kd=10
   ·rw [if_pos ⟨U,hr⟩] at Y
    first | exact absurd (show true=false from Y) (by decide) | exact absurd (show false=true from Y) (by decide)
   ·rw [if_neg U] at J
    exact J _ _ (by omega) aa
theorem zGd:∀ f,zRZ 34 f
 | 0=>λe d _ J=>absurd (Tm.dp_pos e) (by have:=J.d;omega)
 | f + 1=>λe d hd J N Q hQ=>by
   have ih:=zGd f
   cases e with
   | mk k nm ot n0 ty re l=>
   have O:=hd
   obtain ⟨t0,t1,r0,r1,a,es,c,rfl,hh,bi,U⟩:=Tm.is_mk.1 hd
   have hl:=U.len
   have bj:=J.c
   simp only [Tm.stp] at hQ
   refine zKt N _ Q λ_ N1 au=>v8 O J.ok (by omega) N1 _ λN2 aw _=>Br.of (λhv N3 ax=>?_) λhv=>⟨_,rfl,Br.beq (λac=>?_) λac ai aj=>?_⟩
   ·rw [if_pos hv] at hQ
    exact hQ _ _ (by omega) O
   ·rw [if_neg (by rw [hv];decide),if_pos (show (Tm.mk k nm ot n0 ty re l).kd=10 from ac)] at hQ
    have ay:=(wE J.ok).1 (by omega)
    have ak:=zN (l:=l) (i:=0) (by omega)
    have bm:=dp_mem (k:=k) (nm:=nm) (ot:=ot) (n:=n0) (ty:=ty) (re:=re) ak
    have bn:=J.dp
    refine ⟨_,_,_,rfl,⟨by omega,by omega⟩,λN4 az=>?_⟩
    refine zJi ih _ _ (yP U (j:=0) (by omega)) ((J.mem _ ak).up (by omega)) 1 (by unfold LvIn;omega) N4 _ λdx N5 a6 hx _ _=>⟨⟨rfl,rfl⟩,λa1 _ _ N6 al hb=>?_⟩
    exact zRc O J.z.g hx ay hb (N0:=N) (λd N=>Q d (Tm.cod (Tm.stp f) (l.getD 0 tm0) 1).2.1 N) λd' N6 al ae=>hQ _ _ (by omega) ae
   ·rw [if_neg (by rw [hv];decide),if_neg (show ¬(Tm.mk k nm ot n0 ty re l).kd=10 from ac)] at hQ
    refine zNE ai _ λam ao _=>?_
    have bp:tM k l.length<=l.length:=by
     unfold tM
     split
     ·exact oD _
     ·split
      ·rename_i h
       obtain ⟨b1,b2,b3,_⟩:=wE J.ok
       rcases h with h | h | h | h
       ·have:=b3 h;omega
       ·have:=b2 (.inr h);omega
       ·have:=b1 (by omega);omega
       ·have:=b1 (by omega);omega
      ·omega
    have a7:All2 Tm.Is (l.take (tM k l.length)) (es.take (tM k l.length)):=by
     have:∀ (n:Nat) (l:List Tm) (es:List D),All2 Tm.Is l es->All2 Tm.Is (l.take n) (es.take n):=by
      intro n
      induction n with
      | zero=>intro l es _;simp;rfl
      | succ n a8=>
        intro l es h
        cases l with
        | nil=>cases h;exact rfl
        | cons x xs=>obtain ⟨y,ys,rfl,h1,h2⟩:=h;exact ⟨y,ys.take n,rfl,h1,a8 _ _ h2⟩
     exact this _ _ _ U
    have aq:(es.take (tM k l.length)).length=tM k l.length:=by rw [nF];omega
    rw [hl]
    refine up a7 (by omega) (λi xs=>∀ N',N<=N'->(∀ j x,j<i->(l.take (tM k l.length))[j]?=some x->x.res=true)->(∀ r:Tm × Int,(match goS (Tm.stp f) (Tm.mk k nm ot n0 ty re l) xs i with | some r=>r | none=>(Tm.mk k nm ot n0 ty re l).apl)=r->∀ d N'',N<=N''->r.1.Is d->Q d r.2 N'') ->
     vu Q N (tM k l.length:Nat) i (.ag [.lit (.int .i64 k),.lit (.string nm),.lit (.string ot),.lit (.int .i64 n0),t0,t1,r0,r1,.sl a 9 es c]) 0 (bytes []) (bytes []) 0 0 none [] 0 0 none [] 0 none [] 0 N') ?_ ?_ am (by omega) (λj x h=>absurd h (by omega)) (λr I d N'' h1 h2=>by rw [<-I];rw [<-I] at h2;exact hQ d N'' h1 h2)
    ·intro i Y hi N' ba hk I
     rw [aq] at Y
     refine pq _ _ _ _ _ _ _ _ _ _ _ _ _ _ _ _ _ _ _ _ _ ?_
     rw [Y]
     have I:=I _ rfl
     simp only [goS] at I
     refine λN9 bq=>zSi O J (λbb=>?_) N9 _ λdx ai aj hx _ _ am ao=>I _ _ (by omega) hx
     have bc:tM k l.length=1:=by simp [tM,bb]
     refine hk 0 _ (by omega) ?_
     rw [bc,List.getElem?_take_of_lt (by omega)]
     exact zX (by omega)
    ·intro i x xs aa bt bd N' ba hk I
     have hb:=aa.b
     have Y:=aa.lt
     rw [aq] at Y hb
     have ab:i<l.length:=by omega
     have bg:l[i]?=some x:=by
      have:=aa.g
      rw [List.getElem?_take_of_lt (by omega)] at this
      exact this
     obtain rfl:l.getD i tm0=x:=by rw [oA,bg];rfl
     have ah:=J.mem _ (zN ab)
     have bv:=ah.c
     refine pq _ _ _ _ _ _ _ _ _ _ _ _ _ _ _ _ _ _ _ _ _ ?_
     rw [Y,aa.w]
     refine ⟨_,_,_,rfl,⟨by omega,by omega⟩,λN1 au=>?_⟩
     rw [oH]
     refine v8 (yP U ab) ah.ok (by omega) N1 _ λN2 aw _=>Br.of (λhv=>?_) λhv=>?_
     ·rw [zDH hv] at I
      refine bd _ (by omega) (λj y hj hy=>?_) I
      by_cases bh:j<i
      ·exact hk j y bh hy
      ·have:j=i:=by omega
       subst this
       rw [aa.g] at hy
       rw [<-oT hy];exact hv
     ·have I:=I _ rfl
      simp only [goS] at I
      rw [if_neg (by rw [hv];decide)] at I
      refine ⟨_,_,_,rfl,⟨by omega,by omega⟩,λN3 ax=>?_⟩
      refine ih _ _ (yP U ab) ah N3 _ λdx N4 az hx _ _ N5 a6=>?_
      have:=zR6 rt O J.z.g hx ab (N0:=N) (N:=N5) (λd N=>Q d (Tm.stp f (l.getD i tm0)).2 N) λd' N6 al ae=>I _ _ (by omega) ae
      simpa only [oH] using this
end Go.Proofs.YtfajiphkncipoaaGreatDoor
