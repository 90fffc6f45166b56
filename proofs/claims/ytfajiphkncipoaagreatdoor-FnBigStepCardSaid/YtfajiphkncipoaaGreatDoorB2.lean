/- Steps: the reference's, of all forms; Step. -/
import Derived.Test.YtfajiphkncipoaaGreatDoorB1
set_option linter.unusedVariables false
set_option linter.unusedSimpArgs false
namespace Go.Proofs.YtfajiphkncipoaaGreatDoor
open Go Go.Proofs Go.Proofs.Tryz Go.IntWalk
/-- what a substitution makes is not too great for another -/
theorem zUF {e b:Tm} {x:ByteArray} {f g:Nat} (I:e.F f) (J:b.F g):(e.sb x b).Z:=by
 have U:=zQo e.dp e x b
 have O:=I.vc
 have Y:=J.vc
 have h4:e.vc*(b.vc+1)<=1333333*1333334:=Nat.mul_le_mul O (by omega)
 exact ⟨zPL _ _ _ _ I.z.g J.z.g,by unfold Tm.sb;omega,zRE _ _ _ _ I.z.v J.z.v⟩
theorem zDI {e b:Tm} {d I:D} (J:e.Is d) (O:b.Is I) (x:ByteArray) (U:e.Z) (Y:b.Z):zRU 122 [.dg 9 d,.str x,.dg 9 I] (e.sb x b):=zGB e.dp e d x b I J O (oB _) U Y
/-- the step of a form whose parts are searched -/
def zQ4 (f:Nat):Tm->Nat->Tm × Int
 | .mk k nm ot n ty re l,m=>match goS (Tm.stp f) (.mk k nm ot n ty re l) (l.take m) 0 with
   | some r=>r
   | none=>(Tm.mk k nm ot n ty re l).apl
theorem zP9 {f:Nat} (hS:zQ6 41 f) {n0:Int} {nm ot:ByteArray} {ty re:Ty} {l:List Tm} {d:D} (hd:(Tm.mk 7 nm ot n0 ty re l).Is d) (hF:(Tm.mk 7 nm ot n0 ty re l).F (f+1)) :
  zMM 76 [.dg 9 d] (zQ4 f (Tm.mk 7 nm ot n0 ty re l) l.length):=λN Q hQ=>by
 have ai:=hd
 obtain ⟨t0,t1,r0,r1,a,es,c,rfl,hh,aj,Y⟩:=Tm.is_mk.1 hd
 have hl:=Y.len
 have a7:=(yi hF.ok).2.1 (.inl rfl)
 simp only [zQ4,List.take_length] at hQ
 have e2:(es.length:Int)=2:=by omega
 refine zHV N _ Q λ_=>⟨_,_,_,rfl,⟨by omega,by omega⟩,?_⟩
 refine up Y aj (λi xs=>∀ N',N<=N'->(∀ r:Tm × Int,(match goS (Tm.stp f) (Tm.mk 7 nm ot n0 ty re l) xs i with | some r=>r | none=>(Tm.mk 7 nm ot n0 ty re l).apl)=r->∀ d N'',N<=N''->r.1.Is d->Q d r.2 N'') ->
  wa Q N i (.ag [.j 7,.t nm,.t ot,.j n0,t0,t1,r0,r1,.sl a 9 es c]) 0 (bytes []) (bytes []) 0 0 none [] 0 0 none [] 0 none [] 0 (List.getD es 0 default) N') ?_ ?_ N (oB _) (λr I d N'' h1 h2=>by rw [<-I];rw [<-I] at h2;exact hQ d N'' h1 h2)
 ·intro i aa hi N' am I
  have I:=I _ rfl
  simp only [goS,Tm.apl] at I
  rw [if_neg (by decide),if_neg (by decide),if_pos trivial] at I
  refine qA _ _ _ _ _ _ _ _ _ _ _ _ _ _ _ _ _ _ _ _ _ ?_
  rw [<-e2,aa]
  have ab:=zf Y (j:=0) (by omega)
  have ac:=zf Y (j:=1) (by omega)
  have O:=hF.mem _ (zC (l:=l) (i:=0) (by omega))
  have ae:=hF.mem _ (zC (l:=l) (i:=1) (by omega))
  generalize l.getD 0 tm0=p at ab O I
  generalize l.getD 1 tm0=q at ac ae I
  have ak:=ab
  cases p with
  | mk pk pn po pm pt pr pl=>
  obtain ⟨u0,u1,v0,v1,a2,a8,c2,heq,ba,ao,U⟩:=Tm.is_mk.1 ab
  have bb:=U.len
  rw [heq] at ak ⊢
  have one:(pk=6\/pk=9)->pl.length=1:=λh=>(yi O.ok).1 (by omega)
  have ah:pl.length=1->(pl.getD 0 tm0).F f:=λh=>((O.up (g:=f+1) (by omega)).mem _ (zC (l:=pl) (i:=0) (by omega)))
  refine ⟨_,rfl,Br.beq (λh6=>?_) λh6=>Br.beq (λh9=>?_) λh9 bc ax=>?_⟩
  ·have h1:=one (.inl h6)
   rw [if_pos (show (Tm.mk pk pn po pm pt pr pl).kd=6 from h6)] at I
   refine ⟨_,_,_,rfl,⟨by omega,by omega⟩,_,rfl,_,_,_,rfl,⟨by omega,by omega⟩,λN6 bd=>?_⟩
   exact zDI (zf U (j:=0) (by omega)) ac pn (ah h1).z ae.z N6 _ λdx N7 bg hx _ _ _ N8 bh=>I _ _ (by omega) hx
  ·have h1:=one (.inr h9)
   rw [if_neg (show ¬(Tm.mk pk pn po pm pt pr pl).kd=6 from h6),if_pos (show (Tm.mk pk pn po pm pt pr pl).kd=9 from h9)] at I
   refine ⟨_,_,_,rfl,⟨by omega,by omega⟩,_,rfl,_,rfl,_,_,_,rfl,⟨by omega,by omega⟩,λN9 bi=>?_⟩
   refine zDI (zf U (j:=0) (by omega)) ak pn (ah h1).z O.z N9 _ λdx bj ay hx _ _ _ aq az=>?_
   exact zDI hx ac po (zUF (ah h1) O) ae.z aq _ λdy bm a1 hy _ _ _ bn a6=>I _ _ (by omega) hy
  ·rw [if_neg (show ¬(Tm.mk pk pn po pm pt pr pl).kd=6 from h6),if_neg (show ¬(Tm.mk pk pn po pm pt pr pl).kd=9 from h9)] at I
   exact I _ _ (by omega) ai
 ·intro i x xs J bp au N' am I
  have hb:=J.b
  have aw:i<l.length:=(oC.1 J.g).1
  obtain rfl:l.getD i tm0=x:=by rw [oA,J.g];rfl
  have al:=hF.mem _ J.m
  have aa:=J.lt
  rw [e2] at aa
  refine qA _ _ _ _ _ _ _ _ _ _ _ _ _ _ _ _ _ _ _ _ _ ?_
  rw [aa,oF,J.w]
  refine ⟨_,_,_,rfl,⟨by omega,by omega⟩,λN1 bq=>zR J.r al.ok al.dp N1 _ λN2 bt _=>Br.not (λhv N3 bv=>?_) λhv=>?_⟩
  ·have I:=I _ rfl
   simp only [goS] at I
   rw [if_neg (by rw [hv];decide)] at I
   exact zGt hS ai hF aw N3 _ λdx N4 bw hx _ _ N5 bz=>I _ _ (by omega) hx
  ·rw [pq hv] at I
   exact au _ (by omega) I
theorem zQJ {l:List Tm} (h:0<l.length):l.take 1=[l.getD 0 tm0]:=by
 cases l with
 | nil=>simp at h
 | cons x xs=>rfl
theorem zM3 (k:Int) {p:Tm} {d:D} (h:p.Is d) (hc:p.cnt<=1073741824) (a:Option Addr) (N:Nat) (Q:QT [.ag 9]) (I:∀ d' N',N<=N'->(Tm.nod k [p]).Is d'->Own N N' d'->Q d' N') :
 ACalls prog 87 [.ag 9] [.j k,.sv a 9 [d] 1] N Q:=zDT k (l:=[p]) (es:=[d]) ⟨d,[],rfl,h,rfl⟩ (by simp) (by simpa using hc) a 1 N Q I
/-- a form whose first part is searched -/
theorem zDO {f:Nat} (hS:zQ6 41 f) {k n0:Int} {nm ot:ByteArray} {ty re:Ty} {l:List Tm} {d:D} (hk:k=5\/k=8\/k=12\/k=13) (hd:(Tm.mk k nm ot n0 ty re l).Is d) (hF:(Tm.mk k nm ot n0 ty re l).F (f+1)) :
  zMM 79 [.dg 9 d] (zQ4 f (Tm.mk k nm ot n0 ty re l) 1):=λN Q I=>by
 have aa:=hd
 obtain ⟨t0,t1,r0,r1,a,es,c,rfl,hh,ba,ab⟩:=Tm.is_mk.1 hd
 have hl:=ab.len
 have ac:0<l.length:=by
  obtain ⟨a1,a2,a3,_⟩:=yi hF.ok
  rcases hk with h | h | h | h
  ·have:=a3 h;omega
  ·have:=a2 (.inr h);omega
  ·have:=a1 (by omega);omega
  ·have:=a1 (by omega);omega
 have ae:=zf ab ac
 have J:=hF.mem _ (zC ac)
 simp only [zQ4] at I
 rw [zQJ ac] at I
 simp only [goS] at I
 refine zHf N _ Q λ_=>⟨_,_,_,rfl,⟨by omega,by omega⟩,λN1 bc=>zR ae J.ok J.dp N1 _ λN2 bd _=>Br.not (λhv N3 bg=>?_) λhv=>?_⟩
 ·rw [if_neg (by rw [hv];decide)] at I
  exact zGt hS aa hF ac N3 _ λdx N4 aw hx _ _ N5 ax=>I _ _ (by omega) hx
 rw [if_pos hv] at I
 simp only [Tm.apl] at I
 generalize bh:l.getD 0 tm0=p at ae J hv I
 have ai:=ae
 have am:=λh=>zKb J.ok h
 cases p with
 | mk pk O U pm pt pr Y=>
 obtain ⟨u0,u1,v0,v1,a2,ay,c2,heq,bi,az,ah⟩:=Tm.is_mk.1 ae
 have bj:=ah.len
 simp only [Tm.kd,Tm.no] at am
 rw [heq] at ai ⊢
 have lift:∀ (N:Nat) (a:Option Addr) (N':Nat) (hN:N2<=N) (_:xX N [a]),(∀ d N',N2<=N'->(Tm.nod 10 [Tm.mk pk O U pm pt pr Y]).Is d->Q d 8 N') ->
   ACalls prog 87 [.ag 9] [.j 10,.sv a 9 [.ag [.j pk,.t O,.t U,.j pm,u0,u1,v0,v1,.sl a2 9 ay c2]] 1] N (λx N7=>N<=N7->Off [a] x/\(Bel N7 x->∀ N8,N7<=N8->Q x 8 N8)):=λN3 a N' hN hb hq=>
  zM3 10 ai (by have:=J.c;omega) a N3 _ λdx N4 aw hx ho _=>⟨wQ hb ho,λ_ N5 ax=>hq _ _ (by omega) hx⟩
 rcases hk with rfl | rfl | rfl | rfl
 ·have bm:=(yi hF.ok).2.2.1 rfl
  rw [if_neg (by decide),if_pos rfl] at I
  refine ⟨_,rfl,Br.beq (λ_=>⟨_,rfl,Br.beq (λh3=>?_) λh3=>?_⟩) (λh=>absurd rfl h)⟩
  ·have hn:=am h3
   rw [if_pos (show (Tm.mk pk O U pm pt pr Y).kd=3 from h3)] at I
   have hw:IntKind.i64.wrap (2 - pm)=2 - pm:=i64_in _ (by omega)
   refine ⟨_,_,_,rfl,_,rfl,?_⟩
   rw [hw]
   refine ⟨⟨by omega,by omega⟩,λN6 ao=>?_⟩
   refine zIl vQ (zf ab (j:=(2 - pm).toNat) (by omega)) (za hF.z.g.2.2.2 (zC (by omega))) (N0:=N) (by omega) (λd N=>Q d 2 N) λd' N7 aq aj _=>I _ _ (by omega) aj
  ·rw [if_neg (show ¬(Tm.mk pk O U pm pt pr Y).kd=3 from h3)] at I
   repeat' first | refine ⟨_,rfl,?_⟩ | refine Br.beq (λh=>absurd h (by decide)) λ_=>?_
   all_goals exact λN hN=>I _ _ (by omega) aa
 ·have bn:=(yi hF.ok).2.1 (.inr rfl)
  rw [if_neg (by decide),if_neg (by decide),if_neg (by decide),if_pos rfl] at I
  have a7:=hF.mem _ (zC (l:=l) (i:=1) (by omega))
  have a8:=zf ab (j:=1) (by omega)
  repeat' first | refine ⟨_,rfl,?_⟩ | refine Br.beq (λh=>absurd h (by decide)) λ_=>?_ | refine Br.beq (λ_=>?_) (λh=>absurd rfl h)
  all_goals
   refine ⟨_,_,_,rfl,⟨by omega,by omega⟩,_,rfl,λN6 ao=>?_⟩
   exact zDI a8 ai nm a7.z J.z N6 _ λdx N7 aq hx _ _ _ N8 bp=>I _ _ (by omega) hx
 ·rw [if_neg (by decide),if_neg (by decide),if_neg (by decide),if_neg (by decide),if_pos rfl] at I
  repeat' first | refine ⟨_,rfl,?_⟩ | refine Br.beq (λh=>absurd h (by decide)) λ_=>?_ | refine Br.beq (λ_=>?_) (λh=>absurd rfl h)
  all_goals
   refine Br.beq (λak=>?_) λak=>?_
   ·rw [if_pos (show (Tm.mk pk O U pm pt pr Y).kd=10 from ak)] at I
    have h1:=(yi J.ok).1 (by omega)
    refine ⟨_,_,_,rfl,⟨by omega,by omega⟩,λN6 ao=>?_⟩
    refine zIl vQ (zf ah (j:=0) (by omega)) (za J.z.g.2.2.2 (zC (by omega))) (N0:=N) (by omega) (λd N=>Q d 7 N) λd' N7 aq aj _=>I _ _ (by omega) aj
   ·rw [if_neg (show ¬(Tm.mk pk O U pm pt pr Y).kd=10 from ak)] at I
    repeat' first | refine ⟨_,rfl,?_⟩ | refine Br.beq (λh=>absurd h (by decide)) λ_=>?_
    all_goals exact λN hN=>I _ _ (by omega) aa
 ·rw [if_neg (by decide),if_neg (by decide),if_neg (by decide),if_neg (by decide),if_neg (by decide),if_pos rfl] at I
  repeat' first | refine ⟨_,rfl,?_⟩ | refine Br.beq (λh=>absurd h (by decide)) λ_=>?_ | refine Br.beq (λ_=>?_) (λh=>absurd rfl h)
  all_goals
   refine Br.beq (λh2=>⟨⟨rfl,rfl⟩,λa6 _ al au hb=>?_⟩) λh2=>⟨_,rfl,Br.beq (λh3=>⟨⟨rfl,rfl⟩,λa6 _ al au hb=>?_⟩) λh3 bq bb=>?_⟩
   ·rw [if_pos (show (Tm.mk pk O U pm pt pr Y).kd=2\/(Tm.mk pk O U pm pt pr Y).kd=3 from .inl h2)] at I
    exact lift al a6 0 (by omega) hb λd N' h1 h2=>I _ _ (by omega) h2
   ·rw [if_pos (show (Tm.mk pk O U pm pt pr Y).kd=2\/(Tm.mk pk O U pm pt pr Y).kd=3 from .inr h3)] at I
    exact lift al a6 0 (by omega) hb λd N' h1 h2=>I _ _ (by omega) h2
   ·rw [if_neg (show ¬((Tm.mk pk O U pm pt pr Y).kd=2\/(Tm.mk pk O U pm pt pr Y).kd=3) from λh=>h.elim h2 h3)] at I
    exact I _ _ (by omega) aa
theorem zAI:∀ f,zQ6 41 f
 | 0=>λe d _ U=>absurd (Tm.dp_pos e) (by have:=U.d;omega)
 | f+1=>λe d hd U N Q hQ=>by
   have ih:=zAI f
   cases e with
   | mk k nm ot n0 ty re l=>
   have I:=hd
   obtain ⟨t0,t1,r0,r1,a,es,c,rfl,hh,am,ah⟩:=Tm.is_mk.1 hd
   have hl:=ah.len
   simp only [Tm.stp] at hQ
   refine zFv N _ Q λ_ N1 ay=>zR I U.ok U.dp N1 _ λN2 az _=>Br.of (λhv N3 a1=>?_) λhv=>⟨_,rfl,?_⟩
   ·rw [if_pos hv] at hQ
    exact hQ _ _ (by omega) I
   rw [if_neg (by rw [hv];decide)] at hQ
   have other:k≠10->∀ m,xA k l.length=m->∀ d N',N<=N'->(zQ4 f (Tm.mk k nm ot n0 ty re l) m).1.Is d->Q d (zQ4 f (Tm.mk k nm ot n0 ty re l) m).2 N':=λhk m hm=>by
    rw [if_neg (show ¬(Tm.mk k nm ot n0 ty re l).kd=10 from hk),hm] at hQ
    exact hQ
   refine Br.beq (λh4 N4 Y=>?_) λh4=>Br.beq (λh7 N4 Y=>?_) λh7=>Br.beq (λO=>?_) λO=>Br.beq (λh5 N4 Y=>?_) λh5=>Br.beq (λh8 N4 Y=>?_) λh8=>Br.beq (λaa N4 Y=>?_) λaa=>Br.beq (λab N4 Y=>?_) λab N4 Y=>?_
   ·subst h4
    have J:=other (by decide) l.length (by simp [xA])
    simp only [zQ4,List.take_length,Tm.apl,mm] at J
    exact zRT ih I U rfl N4 _ λx N5 ac hx _ _ N6 ae=>J _ _ (by omega) hx
   ·subst h7
    have J:=other (by decide) l.length (by simp [xA])
    exact zP9 ih I U N4 _ λx N5 ac hx _ _ N6 ae=>J _ _ (by omega) hx
   ·rw [if_pos (by exact O)] at hQ
    have a6:=(yi U.ok).1 (by omega)
    have ai:=zC (l:=l) (i:=0) (by omega)
    refine ⟨_,_,_,rfl,⟨by omega,by omega⟩,λaj ao=>?_⟩
    have a7:=dp_mem (k:=k) (nm:=nm) (ot:=ot) (n:=n0) (ty:=ty) (re:=re) ai
    have a8:=U.dp
    refine zOe ih _ _ (zf ah (j:=0) (by omega)) ((U.mem _ ai).up (by omega)) 1 (by unfold LvIn;omega) aj _ λdx ba aq hx _ _ ak au=>?_
    exact zED I U.z.g hx (i:=0) (by simp only [Tm.as];omega) ak _ λd' bb aw al _ _ bc ax=>hQ _ _ (by omega) al
   ·have J:=other O 1 (by simp [xA,h4,h7,h5])
    exact zDO ih (.inl h5) I U N4 _ λx N5 ac hx _ _ N6 ae=>J _ _ (by omega) hx
   ·have J:=other O 1 (by simp [xA,h4,h7,h8])
    exact zDO ih (.inr (.inl h8)) I U N4 _ λx N5 ac hx _ _ N6 ae=>J _ _ (by omega) hx
   ·have J:=other O 1 (by simp [xA,h4,h7,aa])
    exact zDO ih (.inr (.inr (.inl aa))) I U N4 _ λx N5 ac hx _ _ N6 ae=>J _ _ (by omega) hx
   ·have J:=other O 1 (by simp [xA,h4,h7,ab])
    exact zDO ih (.inr (.inr (.inr ab))) I U N4 _ λx N5 ac hx _ _ N6 ae=>J _ _ (by omega) hx
   ·have J:=other O 0 (by simp [xA,h4,h7,h5,h8,aa,ab])
    simp only [zQ4,mN,goS,Tm.apl] at J
    rw [if_neg h4,if_neg h5,if_neg h7,if_neg h8,if_neg aa,if_neg ab] at J
    exact J _ _ (by omega) I
theorem zLu {s:ByteArray} (h:0<zDB s):s=bytes [43]\/s=bytes [45]\/s=bytes [42]\/s=bytes [61]\/s=bytes [60]\/s=bytes [38]\/s=bytes [124]\/s=bytes [33]:=by
 unfold zDB at h
 (repeat' split at h)<;>first | exact absurd h (by decide) | simp [*]
theorem zMg {s:ByteArray} (h:0<zDB s) {a b:Int} (I:0<=a/\a<=10006) (J:0<=b/\b<=10006):(zx s a b).2=true:=by
 have:=zLu h
 unfold zx
 rw [if_pos (yQ.2 I),if_pos (yQ.2 J)]
 (repeat' split)<;>first | rfl | (rcases this with h | h | h | h | h | h | h | h<;>contradiction)
def rK (s:ByteArray):Bool:=vX s||(decide (s=bytes [61])||decide (s=bytes [60]))
theorem zNU {s:ByteArray} (h:0<zDB s):zFo s=if rK s then 3 else 2:=by
 rcases zLu h with h | h | h | h | h | h | h | h<;>subst h<;>decide +kernel
theorem zF9 (s:ByteArray):uo 141 [.str s] (vX s):=λN Q J=>
 zEY N s Q (Br.str (λe1 N1 I=>Qb (J _ I) (by simp [vX,e1])) λe1=>Br.str (λO N1 I=>Qb (J _ I) (by simp [vX,O])) λO N1 I=>Qb (J _ I) (by simp [vX,e1,O,vV]))
theorem zJ3 (s:ByteArray):uo 144 [.str s] (rK s):=λN Q J=>
 zC0 N s Q λN1 O=>zF9 s N1 _ λN2 U _=>Br.of (λe0 N3 I=>Qb (J _ (by omega)) (by simp [rK,e0])) λe0=>Br.str (λe1 N3 I=>Qb (J _ (by omega)) (by simp [rK,e1])) λe1 N3 I=>Qb (J _ (by omega)) (by simp [rK,e0,e1,vV])
theorem zN4 (n:Int) (b:Bool) (N:Nat) (Q:QT [.ag 9]) (J:∀ d N',N<=N'->(zMT (if b then 3 else 2) n).Is d->Q d N'):ACalls prog 143 [.ag 9] [.j n,.bool b] N Q:=by
 refine zFF N n b Q (Br.of (λh N1 I=>J _ _ I (by rw [h];exact zHe)) λh N2 O=>zIe N2 n _ λN3 U _ _ N4 Y=>J _ _ (by omega) (by rw [h];exact zHe))
def zP0 (f:FuncId) (args:List PV) (r:Tm × Bool):Prop:=∀ (N:Nat) (Q:QT [.ag 9,.bool]),(∀ d N',N<=N'->r.1.Is d->Q d r.2 N')->ACalls prog f [.ag 9,.bool] args N Q
theorem rP:tm0.Is (.ag [.j 0,.t (bytes []),.t (bytes []),.j 0,.j 0,.sl none 2 [] 0,.j 0,.sl none 2 [] 0,.sl none 9 [] 0]):=
 Tm.is_mk.2 ⟨_,_,_,_,_,_,_,rfl,⟨by decide,by decide,xQ _,xQ _⟩,by simp,rfl⟩
theorem zTZ {n0:Int} {nm ot:ByteArray} {ty re:Ty} {l:List Tm} (h:(Tm.mk 4 nm ot n0 ty re l).ok=true):0<zDB nm:=by
 simp only [Tm.ok,oJ,zM,xF] at h
 have:=h.2.1.2.2.2.2.2
 rw [if_pos trivial,oJ] at this
 simpa using this.1
theorem zN2 {e:Tm} (h:e.ok=true) (I:e.kd=2\/e.kd=3):0<=e.no/\e.no<=10006:=by
 cases e with
 | mk k nm ot n ty re l=>
 simp only [Tm.kd] at I
 simp only [Tm.ok,oJ,zM,inB] at h
 simp only [Tm.no]
 rcases I with rfl | rfl
 ·have:=h.2.1.2.2.2.2.1
  simp at this;omega
 ·have:=h.2.1.2.2.2.2.1
  simp at this;omega
theorem zJe (s:ByteArray):yK s=2\/yK s=3:=by unfold yK;split<;>simp
/-- what an operation of literals gives -/
def zPQ (nm:ByteArray) (l:List Tm):Tm × Bool:=if l.all (λx=>x.kd==yK nm) then (zMT (zFo nm) (zx nm (l.getD 0 tm0).no (l.getD 1 tm0).no).1,true) else (tm0,false)
theorem zMh {n0:Int} {nm ot:ByteArray} {ty re:Ty} {l:List Tm} {d:D} (hd:(Tm.mk 4 nm ot n0 ty re l).Is d) (aa:0<zDB nm) (ae:l.length<=2) (ah:∀ x∈l,x.kd=2\/x.kd=3->0<=x.no/\x.no<=10006):zP0 104 [.dg 9 d] (zPQ nm l):=λN Q hQ=>by
 obtain ⟨t0,t1,r0,r1,a,es,c,rfl,hh,ab,ac⟩:=Tm.is_mk.1 hd
 have hl:=ac.len
 have loop:∀ N',N<=N'->yZ Q N (yK nm) 2 2 a es c es.length 0 (.ag [.j 4,.t nm,.t ot,.j n0,t0,t1,r0,r1,.sl a 9 es c]) 0 (bytes []) (bytes []) 0 0 none [] 0 0 none [] 0 none [] 0 [.j 0,.j 0] 2 N':=λN' J=>by
  refine up ac ab (λi xs=>∀ N',N<=N'->(∀ j x,j<i->l[j]?=some x->x.kd=yK nm)->yZ Q N (yK nm) 2 2 a es c es.length i (.ag [.j 4,.t nm,.t ot,.j n0,t0,t1,r0,r1,.sl a 9 es c]) 0 (bytes []) (bytes []) 0 0 none [] 0 0 none [] 0 none [] 0 (zFP l i) 2 N') ?_ ?_ N' J (λj x h=>absurd h (by omega))
  ·intro i ai hi N' J hk
   have O:∀ x∈l,x.kd=yK nm:=λx U=>by
    obtain ⟨j,hj⟩:=oO.1 U
    exact hk j x (by have:=(oC.1 hj).1;omega) hj
   have aj:i=l.length:=by omega
   have hr:∀ j,0<=(l.getD j tm0).no/\(l.getD j tm0).no<=10006:=λj=>by
    by_cases hj:j<l.length
    ·have hm:=zC hj
     refine ah _ hm ?_
     rw [O _ hm];exact zJe nm
    ·rw [zDS (by omega)];decide
   have hq:zPQ nm l=(zMT (zFo nm) (zx nm (l.getD 0 tm0).no (l.getD 1 tm0).no).1,true):=by
    unfold zPQ
    rw [if_pos (oW.2 λx U=>by rw [O x U];exact beq_self_eq_true _)]
   rw [hq] at hQ
   refine sX _ _ _ _ _ _ _ _ _ _ _ _ _ _ _ _ _ _ _ _ _ _ _ _ _ _ _ _ _ ?_
   rw [ai,aj,zK0 ae]
   refine ⟨_,rfl,⟨⟨by omega,by omega,by simp⟩,by simp,_,rfl,⟨by omega,by omega,by simp⟩,by simp,_,rfl,λN2 ak=>zFR _ _ _ N2 _ λN3 ay _=>⟨_,rfl,λN4 az=>zJ3 _ N4 _ λN5 a1 _ N6 a6=>zN4 _ _ N6 _ λx N7 a7 U _ _ N8 a8=>?_⟩⟩⟩
   rw [zMg aa (hr 0) (hr 1)]
   rw [<-zNU aa] at U
   exact hQ _ _ (by omega) U
  ·intro i x xs I ba al N' J hk
   have hb:=I.b
   have U:=I.r
   have am:l.getD i tm0=x:=by rw [oA,I.g];rfl
   refine sX _ _ _ _ _ _ _ _ _ _ _ _ _ _ _ _ _ _ _ _ _ _ _ _ _ _ _ _ _ ?_
   rw [I.lt,oF,I.w]
   cases x with
   | mk pk pn po pm pt pr pl=>
   obtain ⟨u0,u1,v0,v1,a2,bb,c2,heq,bc,ao,ax⟩:=Tm.is_mk.1 U
   rw [heq]
   refine ⟨⟨by omega,by omega⟩,_,rfl,Br.bne (λaq N1 au=>?_) λhe=>⟨_,rfl,⟨by omega,by omega,by simp only [zFP,oN,oZ];omega⟩,by simp only [zFP,oN,oZ];omega,?_⟩⟩
   ·have hq:zPQ nm l=(tm0,false):=by
     unfold zPQ
     rw [if_neg λhc=>aq (by have:=oW.1 hc _ I.m;exact (by simpa using this:(Tm.mk pk pn po pm pt pr pl).kd=yK nm))]
    rw [hq] at hQ
    exact hQ _ _ (by omega) rP
   ·rw [oe]
    have Y:=zLP (l:=l) (i:=i) (by omega)
    rw [am] at Y
    simp only [Tm.no] at Y
    rw [Y]
    refine al _ J λj y hj hy=>?_
    by_cases aw:j<i
    ·exact hk j y aw hy
    ·have:j=i:=by omega
     subst this
     rw [I.g] at hy
     rw [<-oS hy];exact he
 refine zFW N _ Q λ_=>⟨_,rfl,λN1 au=>zF9 nm N1 _ λN2 ak _=>Br.of (λh=>⟨_,_,_,rfl,?_⟩) λh=>⟨_,_,_,rfl,?_⟩⟩
 ·have:=loop N2 (by omega)
  rw [show yK nm=3 by unfold yK;rw [if_pos h]] at this
  exact this
 ·have:=loop N2 (by omega)
  rw [show yK nm=2 by unfold yK;rw [if_neg (by rw [h];decide)]] at this
  exact this
theorem zND {n0:Int} {nm ot:ByteArray} {ty re:Ty} {l:List Tm} {d:D} (hd:(Tm.mk 4 nm ot n0 ty re l).Is d) (I:(Tm.mk 4 nm ot n0 ty re l).ok=true):zP0 104 [.dg 9 d] (zPQ nm l):=by
 have O:l.length<=2:=by
  have h1:=(yi I).2.2.2.2 rfl
  have h2:=zOv nm
  omega
 have J:∀ x∈l,x.ok=true:=by
  simp only [Tm.ok,oJ] at I
  have U:∀ {l:List Tm},th l=true->∀ x∈l,x.ok=true:=λ{l}=>by
   induction l with
   | nil=>intro _ x hx;simp at hx
   | cons t ts Y=>
     intro h x hx
     simp only [th,oJ] at h
     rcases oI.1 hx with rfl | hx
     ·exact h.1
     ·exact Y h.2 x hx
  exact U I.1
 exact zMh hd (zTZ I) O λx hx h=>zN2 (J x hx) h
theorem zD6 {k n m:Int} {O U Y c5 c6 c7 c8:D}:uo 140 [.dg 9 (.ag [.j k,O,U,.j n,Y,c5,c6,c7,c8]),.j m] (!(k==11&&m==1)):=λN Q J=>
 qo N _ m Q λ_=>⟨_,rfl,Br.bne (λh N1 I=>Qb (J _ I) (by simp [h])) λh N1 I=>Qb (J _ I) (by rw [h];simp [bne])⟩
theorem zMy:∀ (t:Tm) (d:D),t.Is d->∀ m:Int,LvIn m t.dp->uo 59 [.dg 9 d,.j m,.fn 140 []] (t.made m):=by
 refine Tm.ind λk nm ot n ty re l ih d hd m hm N Q hQ=>?_
 obtain ⟨t0,t1,r0,r1,a,es,c,rfl,hh,O,U⟩:=Tm.is_mk.1 hd
 have hl:=U.len
 refine zBc N _ m Q λ_ N1 ae=>zD6 N1 _ λN2 ah _=>Br.not (λY N3 ai=>Qb (hQ _ (by omega)) (by simp only [Tm.made,Y,Bool.false_and])) λY=>⟨_,_,_,rfl,?_⟩
 refine up U O (λi xs=>∀ (N':Nat),N<=N'->(∀ N'',N'<=N''->Q (yk xs (zL k m)) N'')->wG Q N m a es c es.length i (.ag [.j k,.t nm,.t ot,.j n,t0,t1,r0,r1,.sl a 9 es c]) N') ?_ ?_ N2 (by omega) λN'' h=>Qb (hQ N'' (by omega)) (by simp only [Tm.made,Y,Bool.true_and])
 ·intro i aa _ N' ab J
  refine sn _ _ _ _ _ _ _ _ _ _ ?_
  repeat' first|with_reducible intro _|simp only[aa,Y1,Y2,Y3,Y4]|with_reducible refine X ?_ ?_|refine⟨_,_,_,rfl,?_⟩|refine⟨_,rfl,?_⟩|refine And.intro (by first|omega|trivial|(show _=_;rfl)|(with_reducible constructor)<;>first|omega|trivial|rfl) ?_|fail
  exact Qb (J _ (by omega)) (by simp [yk])
 ·intro i x xs I _ ac N' ab J
  have aj:=I.b
  refine sn _ _ _ _ _ _ _ _ _ _ ?_
  repeat' first|with_reducible intro _|simp only[I.lt,I.w,oF,Y1,Y2,Y3,Y4]|with_reducible refine X ?_ ?_|refine⟨_,_,_,rfl,?_⟩|refine⟨_,rfl,?_⟩|refine And.intro (by first|omega|trivial|(show _=_;rfl)|(with_reducible constructor)<;>first|omega|trivial|rfl) ?_|refine (tK hm.b) _ _ ?_|refine (ih x I.m _ I.r _ (hm.next (dp_mem I.m))) _ _ ?_|fail
  ·refine Qb (J _ (by omega)) ?_;simp [yk, *]
  ·exact ac _ (by omega) λN'' h=>Qb (J N'' (by omega)) (by simp [yk, *])
theorem zHL {t:Tm} {d:D} (hd:t.Is d) (hc:t.cnt<=1073741824) {m:Int} (U:LvIn m t.dp):uo 101 [.dg 9 d,.j m] (pW t m&&t.made m):=λN Q O=>
 pw N _ m Q λ_ N1 Y=>ui t d hd hc m N1 _ λN2 aa _=>Br.of (λI N3 J=>zMy t d hd m U N3 _ λN4 ab _ N5 ac=>Qb (O _ (by omega)) (by rw [I];simp)) λI N3 J=>Qb (O _ (by omega)) (by rw [I];simp)
theorem xm {e:Tm} {d:D} (he:e.Is d) (J:e.ok=true) (hc:e.cnt<=1073741824):uo 62 [.dg 9 d] e.res:=λN Q hQ=>by
 cases e with
 | mk k nm ot n0 ty re l=>
 have hI:=sC _ d he hc
 rw [J] at hI
 obtain ⟨t0,t1,r0,r1,a,es,c,rfl,hh,ae,aa⟩:=Tm.is_mk.1 he
 have hl:=aa.len
 refine zEk N _ Q λ_=>⟨_,rfl,?_⟩
 refine Br.beq (λh2 N1 I=>hI N1 _ λN2 O _ N3 U=>Qb (hQ _ (by omega)) (by simp [Tm.res,zKg,Tm.kd,h2])) λh2=>?_
 refine Br.beq (λh3 N1 I=>hI N1 _ λN2 O _ N3 U=>Qb (hQ _ (by omega)) (by simp [Tm.res,zKg,Tm.kd,h3])) λh3=>?_
 refine Br.beq (λh6 N1 I=>hI N1 _ λN2 O _ N3 U=>Qb (hQ _ (by omega)) (by simp [Tm.res,zKg,Tm.kd,h6])) λh6=>?_
 refine Br.beq (λh9 N1 I=>hI N1 _ λN2 O _ N3 U=>Qb (hQ _ (by omega)) (by simp [Tm.res,zKg,Tm.kd,h9])) λh9=>?_
 refine Br.beq (λY N1 I=>?_) λY N1 I=>Qb (hQ _ I) (by simp [Tm.res,zKg,Tm.kd,h2,h3,h6,h9,Y])
 subst Y
 have ab:=(yi J).1 (by omega)
 refine hI N1 _ λN2 O _=>Br.of (λ_=>?_) λh=>absurd h (by decide)
 cases l with
 | nil=>simp at ab
 | cons p ls=>
 cases ls with
 | cons _ _=>simp at ab
 | nil=>
 have ah:=Tm.dp_cnt p
 have ac:p.ok=true:=by
  simp only [Tm.ok,th,oJ] at J
  exact J.1.1
 simp only [Tm.cnt,zN] at hc
 refine ⟨_,_,_,rfl,⟨by omega,by omega⟩,λN3 U=>?_⟩
 refine zHL (zf aa (j:=0) (by simp)) (by simp only [mw];omega) (m:=1) (by unfold LvIn;simp only [mw];omega) N3 _ λN4 ai _ N5 aj=>Qb (hQ _ (by omega)) ?_
 simp only [mw,Tm.res,zKg,Tm.kd,Tm.lev,rO,zL,Tm.pt,pW,ac]
 simp [inB]
theorem qR {e:Tm} {d:D} (he:e.Is d) (O:e.ok=true) (hc:e.cnt<=1073741824):zP0 102 [.dg 9 d] (if e.kd=10/\e.res=true then (e.pt 0,true) else (tm0,false)):=λN Q J=>by
 cases e with
 | mk k nm ot n0 ty re l=>
 have hR:=xm he O hc
 have hG:=Tm.G_cnt _ hc
 obtain ⟨t0,t1,r0,r1,a,es,c,rfl,hh,ab,U⟩:=Tm.is_mk.1 he
 have hl:=U.len
 refine zEi N _ Q λ_=>⟨_,rfl,Br.bne (λI N1 Y=>?_) λI N2 ac=>hR N2 _ λN3 ae _=>Br.not (λhv N4 ah=>?_) λhv=>?_⟩
 ·rw [if_neg (λh=>I h.1)] at J
  exact J _ _ Y rP
 ·rw [if_neg (λh=>by rw [hv] at h;exact absurd h.2 (by decide))] at J
  exact J _ _ (by omega) rP
 ·rw [if_pos ⟨I,hv⟩] at J
  have ai:=(yi O).1 (by omega)
  refine ⟨_,_,_,rfl,⟨by omega,by omega⟩,λN5 aj=>?_⟩
  exact zIl uh (zf U (j:=0) (by omega)) (za hG.2.2.2 (zC (by omega))) (N0:=N) (by omega) (λd N=>Q d true N) λd' N7 ak aa _=>J _ _ (by omega) aa
theorem zQF {e:Tm} {d:D} (he:e.Is d) (hok:e.ok=true) (hc:e.cnt<=1073741824):zP0 106 [.dg 9 d] (if e.kd=2\/e.kd=3 then (Tm.nod 10 [e],true) else (tm0,false)):=fun N Q hQ=>by
 cases e with
 | mk k nm ot n0 ty re l=>
 have hI:=sC _ d he hc
 rw [hok] at hI
 have hG:=Tm.G_cnt _ hc
 have he0:=he
 obtain ⟨t0,t1,r0,r1,a,es,c,rfl,hh,hlen,hes⟩:=Tm.is_mk.1 he
 have hl:=hes.len
 have fin:(Tm.mk k nm ot n0 ty re l).kd=2\/(Tm.mk k nm ot n0 ty re l).kd=3->∀ N2,N<=N2->∀ N3,N2<=N3->ACalls prog 33 [.pk,.i,.str,.str,.i,.dc,.dc,.dc,.dc,.row 29 9] [.dg 9 (.ag [.j k,.t nm,.t ot,.j n0,t0,t1,r0,r1,.sl a 9 es c])] N3
   (fun n s s_1 n_1 x x_1 x_2 x_3 es c N4=>N3<=N4->Bel N4 (D.ag es)->(es.length=es.length/\c=c)/\∀ a N5,N4<=N5->Fresh N N5 a [D.ag es]->(1=([D.ag [D.j n,D.t s,D.t s_1,D.j n_1,x,x_1,x_2,x_3,D.sl a 9 es c]]).length/\1=1) /\
    ∀ a_1 N6,N5<=N6->Fresh N N6 a_1 [D.ag [D.ag [D.j n,D.t s,D.t s_1,D.j n_1,x,x_1,x_2,x_3,D.sl a 9 es c]]]->∀ N7,N6<=N7->ACalls prog 150 [.ag 9] [.j 10,.sv a_1 9 [D.ag [D.j n,D.t s,D.t s_1,D.j n_1,x,x_1,x_2,x_3,D.sl a 9 es c]] 1] N7
      (fun x_4 N8=>N7<=N8->Bel N8 x_4->∀ N9,N8<=N9->Q x_4 true N9)):=fun hk N2 hN2 N3 hN3=>by
  rw [if_pos hk] at hQ
  refine uh _ _ he0 hG N3 _ ?_
  intro x4 x5 x6 x7 es' c' N4 hN4 hh' hes' ho' _ _
  have hl':=hes'.len
  have hgl:=hG.2.2.1
  refine ⟨⟨rfl,rfl⟩,fun a1 N5 hN5 _=>⟨⟨rfl,rfl⟩,fun a2 N6 hN6 _ N7 hN7=>zAC N7 10 a2 _ 1 _ fun _ N8 hN8 _ _ N9 hN9=>hQ _ _ (by omega) ?_⟩⟩
  exact Tm.is_mk.2 ⟨_,_,_,_,_,_,_,rfl,⟨by decide,by decide,xQ _,xQ _⟩,by simp,_,[],rfl,Tm.is_mk.2 ⟨_,_,_,_,_,_,_,rfl,hh',by omega,hes'⟩,rfl⟩
 refine zID N _ Q fun _=>⟨_,rfl,Br.bne (fun h2=>⟨_,rfl,Br.bne (fun h3 N1 hN1=>?_) fun h3 N2 hN2=>hI N2 _ fun N3 hN3 _=>Br.not (fun h=>absurd h (by decide)) fun _=>fin (.inr h3) N3 (by omega)⟩) fun h2 N2 hN2=>hI N2 _ fun N3 hN3 _=>Br.not (fun h=>absurd h (by decide)) fun _=>fin (.inl h2) N3 (by omega)⟩
 rw [if_neg (fun h=>h.elim h2 h3)] at hQ
 exact hQ _ _ hN1 rP
theorem zDN {e b:Tm} {d I:D} (J:e.Is d) (O:b.Is I) (x:ByteArray) (U:e.Z) (Y:b.Z):zRU 105 [.dg 9 d,.str x,.dg 9 I] (e.sb x b):=zGM e.dp e d x b I J O (oB _) U Y
theorem zPo {n0:Int} {nm ot:ByteArray} {ty re:Ty} {l:List Tm}:(Tm.mk 4 nm ot n0 ty re l).opr l=if (zPQ nm l).2=true then ((zPQ nm l).1,1) else (Tm.mk 4 nm ot n0 ty re l,0):=by
 unfold Tm.opr zPQ
 by_cases hc:(l.all λx=>x.kd==yK nm)=true
 ·rw [if_pos hc,if_pos (show (l.all λx=>x.kd==yK (Tm.mk 4 nm ot n0 ty re l).nm)=true from hc),if_pos rfl];rfl
 ·rw [if_neg hc,if_neg (show ¬(l.all λx=>x.kd==yK (Tm.mk 4 nm ot n0 ty re l).nm)=true from hc),if_neg (by decide)]
/-- the rule of a form whose parts are results -/
theorem zOr {k n0:Int} {nm ot:ByteArray} {ty re:Ty} {l:List Tm} {d:D} {f:Nat} (hd:(Tm.mk k nm ot n0 ty re l).Is d) (hF:(Tm.mk k nm ot n0 ty re l).F (f+1)) (ak:k=12->(l.getD 0 tm0).res=true) :
  zMM 66 [.dg 9 d] (Tm.mk k nm ot n0 ty re l).apl:=λN Q I=>by
 have U:=hd
 obtain ⟨t0,t1,r0,r1,a,es,c,rfl,hh,bm,ab⟩:=Tm.is_mk.1 hd
 have hl:=ab.len
 have ac:=hF.ok
 have al:k=4->∀ N1,N<=N1->ACalls prog 104 [.ag 9,.bool] [.dg 9 (.ag [.j k,.t nm,.t ot,.j n0,t0,t1,r0,r1,.sl a 9 es c])] N1 (λx b N2=>N1<=N2->Bel N2 x->Br b (∀ N3,N2<=N3->Q x 1 N3) (∀ N4,N2<=N4->Q (.ag [.j k,.t nm,.t ot,.j n0,t0,t1,r0,r1,.sl a 9 es c]) 0 N4)):=λh4 N1 b9=>by
  subst h4
  simp only [Tm.apl] at I
  rw [if_pos trivial,zPo] at I
  refine zND U ac N1 _ λdx N2 ca hx _ _=>Br.of (λO N3 cc=>?_) λO N4 cd=>?_
  ·rw [if_pos O] at I;exact I _ _ (by omega) hx
  ·rw [if_neg (by rw [O];decide)] at I;exact I _ _ (by omega) U
 refine zJR N _ Q λ_=>⟨_,_,_,rfl,Br.dec (λbn=>⟨_,_,_,rfl,⟨by omega,by omega⟩,_,rfl,?_⟩) λbp=>⟨_,rfl,?_⟩⟩
 ·have aq:0<l.length:=by omega
  have am:=zf ab aq
  have J:=hF.mem _ (zC aq)
  have a7:=J.c
  refine Br.beq (λh4=>al h4) λh4=>?_
  simp only [Tm.apl] at I
  rw [if_neg h4] at I
  generalize ce:l.getD 0 tm0=p at am J I ak a7
  have ai:=am
  have au:=λh=>zKb J.ok h
  have aw:=qR ai J.ok (by omega)
  have ax:=zQF ai J.ok (by omega)
  cases p with
  | mk pk pn po pm pt pr Y=>
  obtain ⟨u0,u1,v0,v1,a2,cf,c2,heq,cg,a8,aj⟩:=Tm.is_mk.1 am
  have ch:=aj.len
  simp only [Tm.kd,Tm.no] at au
  rw [heq] at ai aw ax ⊢
  have one:(pk=6\/pk=9)->Y.length=1:=λh=>(yi J.ok).1 (by omega)
  have ao:Y.length=1->(Y.getD 0 tm0).F f:=λh=>((J.up (g:=f+1) (by omega)).mem _ (zC (l:=Y) (i:=0) (by omega)))
  refine Br.beq (λh5=>⟨_,rfl,Br.beq (λh3=>?_) λh3 N9 ba=>?_⟩) λh5=>Br.beq (λh7=>⟨_,rfl,Br.beq (λh6=>?_) λh6=>Br.beq (λh9=>?_) λh9 cj bq=>?_⟩) λh7=>Br.beq (λh8=>?_) λh8=>Br.beq (λaa bb bt=>?_) λaa=>Br.beq (λae bc bv=>?_) λae bd ay=>?_
  ·rw [if_pos h5,if_pos (show (Tm.mk pk pn po pm pt pr Y).kd=3 from h3)] at I
   have ck:=(yi ac).2.2.1 h5
   have hn:=au h3
   have hw:IntKind.i64.wrap (2 - pm)=2 - pm:=i64_in _ (by omega)
   refine ⟨_,_,_,rfl,_,rfl,?_⟩
   rw [hw]
   refine ⟨⟨by omega,by omega⟩,λN6 az=>?_⟩
   exact zIl uh (zf ab (j:=(2 - pm).toNat) (by omega)) (za hF.z.g.2.2.2 (zC (by omega))) (N0:=N) (by omega) (λd N=>Q d 2 N) λd' N7 a6 bg _=>I _ _ (by omega) bg
  ·rw [if_pos h5,if_neg (show ¬(Tm.mk pk pn po pm pt pr Y).kd=3 from h3)] at I
   exact I _ _ (by omega) U
  ·have bh:=(yi ac).2.1 (.inl h7)
   have h1:=one (.inl h6)
   rw [if_neg h5,if_pos h7,if_pos (show (Tm.mk pk pn po pm pt pr Y).kd=6 from h6)] at I
   refine ⟨_,_,_,rfl,⟨by omega,by omega⟩,_,rfl,_,_,_,rfl,⟨by omega,by omega⟩,λN6 az=>?_⟩
   exact zDN (zf aj (j:=0) (by omega)) (zf ab (j:=1) (by omega)) pn (ao h1).z (hF.mem _ (zC (i:=1) (by omega))).z N6 _ λdx N7 a6 hx _ _ _ N8 bi=>I _ _ (by omega) hx
  ·have bh:=(yi ac).2.1 (.inl h7)
   have h1:=one (.inr h9)
   rw [if_neg h5,if_pos h7,if_neg (show ¬(Tm.mk pk pn po pm pt pr Y).kd=6 from h6),if_pos (show (Tm.mk pk pn po pm pt pr Y).kd=9 from h9)] at I
   refine ⟨_,_,_,rfl,⟨by omega,by omega⟩,_,rfl,_,rfl,_,_,_,rfl,⟨by omega,by omega⟩,λN9 ba=>?_⟩
   refine zDN (zf aj (j:=0) (by omega)) ai pn (ao h1).z J.z N9 _ λdx cm bw hx _ _ _ bj bz=>?_
   exact zDN hx (zf ab (j:=1) (by omega)) po (zUF (ao h1) J) (hF.mem _ (zC (i:=1) (by omega))).z bj _ λdy cn b1 hy _ _ _ co b2=>I _ _ (by omega) hy
  ·rw [if_neg h5,if_pos h7,if_neg (show ¬(Tm.mk pk pn po pm pt pr Y).kd=6 from h6),if_neg (show ¬(Tm.mk pk pn po pm pt pr Y).kd=9 from h9)] at I
   exact I _ _ (by omega) U
  ·have cp:=(yi ac).2.1 (.inr h8)
   rw [if_neg h5,if_neg h7,if_pos h8] at I
   refine ⟨_,_,_,rfl,⟨by omega,by omega⟩,_,rfl,λN6 az=>?_⟩
   exact zDN (zf ab (j:=1) (by omega)) ai nm (hF.mem _ (zC (i:=1) (by omega))).z J.z N6 _ λdx N7 a6 hx _ _ _ N8 bi=>I _ _ (by omega) hx
  ·rw [if_neg h5,if_neg h7,if_neg h8,if_pos aa] at I
   have hr:=ak aa
   refine aw bb _ λdx cq b3 hx _ _=>Br.of (λO cr b4=>?_) λO ct b5=>?_
   ·by_cases ah:(Tm.mk pk pn po pm pt pr Y).kd=10
    ·rw [if_pos ⟨ah,hr⟩] at hx
     rw [if_pos ah] at I
     exact I _ _ (by omega) hx
    ·rw [if_neg (λh=>ah h.1)] at O
     first | exact absurd (show true=false from O) (by decide) | exact absurd (show false=true from O) (by decide)
   ·by_cases ah:(Tm.mk pk pn po pm pt pr Y).kd=10
    ·rw [if_pos ⟨ah,hr⟩] at O
     first | exact absurd (show true=false from O) (by decide) | exact absurd (show false=true from O) (by decide)
    ·rw [if_neg ah] at I
     exact I _ _ (by omega) U
  ·rw [if_neg h5,if_neg h7,if_neg h8,if_neg aa,if_pos ae] at I
   refine ax bc _ λdx cw b6 hx _ _=>Br.of (λO cx b7=>?_) λO cy b8=>?_
   ·by_cases h2:(Tm.mk pk pn po pm pt pr Y).kd=2\/(Tm.mk pk pn po pm pt pr Y).kd=3
    ·rw [if_pos h2] at hx I
     exact I _ _ (by omega) hx
    ·rw [if_neg h2] at O
     first | exact absurd (show true=false from O) (by decide) | exact absurd (show false=true from O) (by decide)
   ·by_cases h2:(Tm.mk pk pn po pm pt pr Y).kd=2\/(Tm.mk pk pn po pm pt pr Y).kd=3
    ·rw [if_pos h2] at O
     first | exact absurd (show true=false from O) (by decide) | exact absurd (show false=true from O) (by decide)
    ·rw [if_neg h2] at I
     exact I _ _ (by omega) U
  ·rw [if_neg h5,if_neg h7,if_neg h8,if_neg aa,if_neg ae] at I
   exact I _ _ (by omega) U
 ·have cz:l.length=0:=by omega
  obtain ⟨a1,a2,a3,_,_⟩:=yi ac
  refine Br.beq (λh4=>al h4) λh4=>Br.beq (λh5=>by have:=a3 h5;omega) λh5=>Br.beq (λh7=>by have:=a2 (.inl h7);omega) λh7=>Br.beq (λh8=>by have:=a2 (.inr h8);omega) λh8=>Br.beq (λaa=>by have:=a1 (by omega);omega) λaa=>Br.beq (λae=>by have:=a1 (by omega);omega) λae bd ay=>?_
  simp only [Tm.apl] at I
  rw [if_neg h4,if_neg h5,if_neg h7,if_neg h8,if_neg aa,if_neg ae] at I
  exact I _ _ (by omega) U
theorem zGZ {k n0:Int} {nm ot:ByteArray} {t0 t1 r0 r1:D} {a:Option Addr} {es:List D} {c:Nat}:zBL 65 [.dg 9 (.ag [.j k,.t nm,.t ot,.j n0,t0,t1,r0,r1,.sl a 9 es c])] (xA k es.length:Nat):=λN Q J=>by
 refine zEF N _ Q λ_=>⟨_,rfl,Br.beq (λY=>⟨_,_,_,rfl,λN1 I=>Qi (J _ I) (by simp [xA,Y])⟩) λY=>Br.beq (λh7=>⟨_,_,_,rfl,λN1 I=>Qi (J _ I) (by simp [xA,h7])⟩) λh7=>?_⟩
 refine Br.beq (λh5 N1 I=>Qi (J _ I) (by simp [xA,h5])) λh5=>Br.beq (λh8 N1 I=>Qi (J _ I) (by simp [xA,h8])) λh8=>Br.beq (λO N1 I=>Qi (J _ I) (by simp [xA,O])) λO=>Br.beq (λU N1 I=>Qi (J _ I) (by simp [xA,U])) λU N1 I=>Qi (J _ I) (by simp [xA,Y,h7,h5,h8,O,U])
/-- a node with one other part -/
theorem zO4 {t y:Tm} {d dy:D} (h:t.Is d) (hG:t.G) (hy:y.Is dy) (h1:t.as.length=1) {N0 N:Nat} {I:Option Addr} (hb:xX N [I]) (Q':D->Nat->Prop) (hq:∀ d' N',N<=N'->(t.wth 0 y).Is d'->Q' d' N') :
  ACalls prog 64 [.pk,.i,.str,.str,.i,.dc,.dc,.dc,.dc,.bk 1] [.dg 9 d,.sv I 9 [dy] 1] N (λn s ac ae J O U Y ah N7=>N<=N7->ah=D.sl I 9 [dy] 1/\Off [I] J/\Off [I] O/\Off [I] U/\Off [I] Y/\(1=([dy]).length/\1=1)/\(1=([dy]).length/\1=1)/\(1=([dy]).length/\1=1) /\
   ∀ aa N8,N7<=N8->Fresh N0 N8 aa [D.ag [dy],J,O,U,Y]->∀ N9,N8<=N9->Q' (D.ag [D.j n,D.t s,D.t ac,D.j ae,J,O,U,Y,D.sl aa 9 [dy] 1]) N9):=by
 cases t with
 | mk k nm ot n0 ty re l=>
 obtain ⟨t0,t1,r0,r1,a,es,c,rfl,hh,am,ao⟩:=Tm.is_mk.1 h
 simp only [Tm.as] at h1
 obtain ⟨g1,g2,g3,g4⟩:=hG
 refine zG2 hh g1 g2 I [dy] 1 N _ λx4 x5 x6 x7 N5 aq ai aj _=>⟨rfl,?_⟩
 have off:∀ y∈[x4,x5,x6,x7],Off [I] y:=λy hy a' ak ad al hc=>by
  have h1:=hb a' ak ad al
  have h2:=aj.lo _ (zG.2 ⟨y,hy,hc⟩)
  omega
 refine ⟨off x4 (by simp),off x5 (by simp),off x6 (by simp),off x7 (by simp),⟨rfl,rfl⟩,⟨rfl,rfl⟩,⟨rfl,rfl⟩,λa2 N8 au _ N9 aw=>hq _ _ (by omega) ?_⟩
 have ab:l.set 0 y=[y]:=by
  cases l with
  | nil=>simp at h1
  | cons p ls=>cases ls with
    | nil=>rfl
    | cons _ _=>simp at h1
 simp only [Tm.wth]
 rw [ab]
 exact Tm.is_mk.2 ⟨_,_,_,_,_,_,_,rfl,ai,by simp,dy,[],rfl,hy,rfl⟩
/-- the first splice of level 1, by steps -/
theorem zCR {f:Nat} (hS:zQ6 34 f):∀ (t:Tm) (d:D),t.Is d->t.F (f+1)->∀ m:Int,LvIn m t.dp->zQv 63 [.dg 9 d,.j m,.fn 34 []] (t.cod (Tm.stp f) m):=by
 refine Tm.ind λk nm ot n0 ty re l ih d hd hF m hm N Q J=>?_
 have aa:=hd
 obtain ⟨t0,t1,r0,r1,a,es,c,rfl,hh,ai,ac⟩:=Tm.is_mk.1 hd
 have hl:=ac.len
 have loop:¬(k=11/\m=1)->yX Q N m a es c es.length 0 (.ag [.j k,.t nm,.t ot,.j n0,t0,t1,r0,r1,.sl a 9 es c]) 0 (bytes []) (bytes []) 0 0 none [] 0 0 none [] 0 none [] 0 N:=λam=>by
  simp only [Tm.cod] at J
  rw [if_neg am] at J
  refine up ac ai (λi xs=>∀ N',N<=N'->(match zK (Tm.stp f) xs (zL k m) with | none=>zK (Tm.stp f) l (zL k m)=none | some (l',r)=>zK (Tm.stp f) l (zL k m)=some (l.take i++l',r)) ->
   yX Q N m a es c es.length i (.ag [.j k,.t nm,.t ot,.j n0,t0,t1,r0,r1,.sl a 9 es c]) 0 (bytes []) (bytes []) 0 0 none [] 0 0 none [] 0 none [] 0 N') ?_ ?_ N (oB _) ?_
  ·intro i ao hi N' aq O
   simp only [zK] at O
   rw [O] at J
   refine sP _ _ _ _ _ _ _ _ _ _ _ _ _ _ _ _ _ _ _ _ _ _ _ _ _ ?_
   rw [ao]
   exact λN2 aj=>J _ _ (by omega) aa
  ·intro i x xs I au aw N' aq O
   have hb:=I.b
   have ak:i<l.length:=(oC.1 I.g).1
   refine sP _ _ _ _ _ _ _ _ _ _ _ _ _ _ _ _ _ _ _ _ _ _ _ _ _ ?_
   rw [I.lt,I.w]
   refine ⟨⟨by omega,by omega⟩,λN1 ax=>tK hm.b N1 _ λN2 aj _ N3 ay=>?_⟩
   have hr:=I.r
   rw [<-oF i] at hr
   refine ih x I.m _ hr ((hF.mem x I.m).up (by omega)) _ (hm.next (dp_mem I.m)) N3 _ λdx N4 az hx _ _=>Br.of (λY N5 a6=>?_) λY=>?_
   ·simp only [zK] at O
    rw [if_pos Y] at O
    simp only at O
    rw [O] at J
    refine zRW uh aa hF.z.g hx ak (N0:=N) (λd N=>Q d (x.cod (Tm.stp f) (zL k m)).2.1 true N) λd' N6 a7 ae=>J _ _ (by omega) ?_
    have:l.take i++(x.cod (Tm.stp f) (zL k m)).1::xs=l.set i (x.cod (Tm.stp f) (zL k m)).1:=by
     rw [md,if_pos ak,au]
    simp only
    rw [this]
    exact ae
   ·refine aw _ (by omega) ?_
    simp only [zK] at O
    rw [if_neg (by rw [Y];decide)] at O
    cases hc:zK (Tm.stp f) xs (zL k m) with
    | none=>rw [hc] at O;exact O
    | some p=>
      obtain ⟨l',r⟩:=p
      rw [hc] at O
      simp only at O ⊢
      rw [O,xN I.g,nO];rfl
  ·cases hc:zK (Tm.stp f) l (zL k m) with
   | none=>rfl
   | some p=>obtain ⟨l',r⟩:=p;simp
 refine zC4 N _ m Q λ_=>⟨_,rfl,Br.beq (λh1=>Br.beq (λh2=>?_) λh2=>⟨_,_,_,rfl,loop λh=>h2 h.2⟩) λh1=>⟨_,_,_,rfl,loop λh=>h1 h.1⟩⟩
 have a8:=(yi hF.ok).1 (by omega)
 have al:0<l.length:=by omega
 have ba:=zC al
 have ab:=hF.mem _ ba
 have ah:=zf ac al
 have bg:=ab.c
 simp only [Tm.cod] at J
 rw [if_pos ⟨h1,h2⟩] at J
 unfold zJs at J
 rw [zOE] at J
 refine ⟨_,_,_,rfl,⟨by omega,by omega⟩,λN1 ax=>xm ah ab.ok (by omega) N1 _ λN2 aj _=>Br.not (λhr N3 ay=>?_) λhr N9 bh=>?_⟩
 ·rw [if_neg (by rw [hr];decide)] at J
  refine hS _ _ ah ab N3 _ λdx N4 az hx _ _=>⟨⟨rfl,rfl⟩,λa1 _ _ N5 a6 hb=>?_⟩
  exact zO4 aa hF.z.g hx a8 hb (N0:=N) (λd N=>Q d (Tm.stp f (l.getD 0 tm0)).2 true N) λd' N6 a7 ae=>J _ _ (by omega) ae
 ·rw [if_pos hr] at J
  refine qR ah ab.ok (by omega) N9 _ λdx bi bb hx _ _=>Br.of (λY bj bc=>?_) λY bm bd=>?_
  ·by_cases U:(l.getD 0 tm0).kd=10
   ·rw [if_pos ⟨U,hr⟩] at hx
    rw [if_pos U] at J
    exact J _ _ (by omega) hx
   ·rw [if_neg (λh=>U h.1)] at Y
    first | exact absurd (show true=false from Y) (by decide) | exact absurd (show false=true from Y) (by decide)
  ·by_cases U:(l.getD 0 tm0).kd=10
   ·rw [if_pos ⟨U,hr⟩] at Y
    first | exact absurd (show true=false from Y) (by decide) | exact absurd (show false=true from Y) (by decide)
   ·rw [if_neg U] at J
    exact J _ _ (by omega) aa
theorem zBz:∀ f,zQ6 34 f
 | 0=>λe d _ J=>absurd (Tm.dp_pos e) (by have:=J.d;omega)
 | f + 1=>λe d hd J N Q hQ=>by
   have ih:=zBz f
   cases e with
   | mk k nm ot n0 ty re l=>
   have O:=hd
   obtain ⟨t0,t1,r0,r1,a,es,c,rfl,hh,bi,U⟩:=Tm.is_mk.1 hd
   have hl:=U.len
   have bj:=J.c
   simp only [Tm.stp] at hQ
   refine zKF N _ Q λ_ N1 au=>xm O J.ok (by omega) N1 _ λN2 aw _=>Br.of (λhv N3 ax=>?_) λhv=>⟨_,rfl,Br.beq (λac=>?_) λac ai aj=>?_⟩
   ·rw [if_pos hv] at hQ
    exact hQ _ _ (by omega) O
   ·rw [if_neg (by rw [hv];decide),if_pos (show (Tm.mk k nm ot n0 ty re l).kd=10 from ac)] at hQ
    have ay:=(yi J.ok).1 (by omega)
    have ak:=zC (l:=l) (i:=0) (by omega)
    have bm:=dp_mem (k:=k) (nm:=nm) (ot:=ot) (n:=n0) (ty:=ty) (re:=re) ak
    have bn:=J.dp
    refine ⟨_,_,_,rfl,⟨by omega,by omega⟩,λN4 az=>?_⟩
    refine zCR ih _ _ (zf U (j:=0) (by omega)) ((J.mem _ ak).up (by omega)) 1 (by unfold LvIn;omega) N4 _ λdx N5 a6 hx _ _=>⟨⟨rfl,rfl⟩,λa1 _ _ N6 al hb=>?_⟩
    exact zO4 O J.z.g hx ay hb (N0:=N) (λd N=>Q d (Tm.cod (Tm.stp f) (l.getD 0 tm0) 1).2.1 N) λd' N6 al ae=>hQ _ _ (by omega) ae
   ·rw [if_neg (by rw [hv];decide),if_neg (show ¬(Tm.mk k nm ot n0 ty re l).kd=10 from ac)] at hQ
    refine zGZ ai _ λam ao _=>?_
    have bp:xA k l.length<=l.length:=by
     unfold xA
     split
     ·exact oB _
     ·split
      ·rename_i h
       obtain ⟨b1,b2,b3,_⟩:=yi J.ok
       rcases h with h | h | h | h
       ·have:=b3 h;omega
       ·have:=b2 (.inr h);omega
       ·have:=b1 (by omega);omega
       ·have:=b1 (by omega);omega
      ·omega
    have a7:All2 Tm.Is (l.take (xA k l.length)) (es.take (xA k l.length)):=by
     have:∀ (n:Nat) (l:List Tm) (es:List D),All2 Tm.Is l es->All2 Tm.Is (l.take n) (es.take n):=by
      intro n
      induction n with
      | zero=>intro l es _;simp;rfl
      | succ n a8=>
        intro l es h
        cases l with
        | nil=>cases h;exact rfl
        | cons x xs=>obtain ⟨y,ys,rfl,h1,h2⟩:=h;exact ⟨y,ys.take n,rfl,h1,a8 _ _ h2⟩
     exact this _ _ _ U
    have aq:(es.take (xA k l.length)).length=xA k l.length:=by rw [ou];omega
    rw [hl]
    refine up a7 (by omega) (λi xs=>∀ N',N<=N'->(∀ j x,j<i->(l.take (xA k l.length))[j]?=some x->x.res=true)->(∀ r:Tm × Int,(match goS (Tm.stp f) (Tm.mk k nm ot n0 ty re l) xs i with | some r=>r | none=>(Tm.mk k nm ot n0 ty re l).apl)=r->∀ d N'',N<=N''->r.1.Is d->Q d r.2 N'') ->
     uE Q N (xA k l.length:Nat) i (.ag [.j k,.t nm,.t ot,.j n0,t0,t1,r0,r1,.sl a 9 es c]) 0 (bytes []) (bytes []) 0 0 none [] 0 0 none [] 0 none [] 0 N') ?_ ?_ am (by omega) (λj x h=>absurd h (by omega)) (λr I d N'' h1 h2=>by rw [<-I];rw [<-I] at h2;exact hQ d N'' h1 h2)
    ·intro i Y hi N' ba hk I
     rw [aq] at Y
     refine pz _ _ _ _ _ _ _ _ _ _ _ _ _ _ _ _ _ _ _ _ _ ?_
     rw [Y]
     have I:=I _ rfl
     simp only [goS] at I
     refine λN9 bq=>zOr O J (λbb=>?_) N9 _ λdx ai aj hx _ _ am ao=>I _ _ (by omega) hx
     have bc:xA k l.length=1:=by simp [xA,bb]
     refine hk 0 _ (by omega) ?_
     rw [bc,List.getElem?_take_of_lt (by omega)]
     exact zY (by omega)
    ·intro i x xs aa bt bd N' ba hk I
     have hb:=aa.b
     have Y:=aa.lt
     rw [aq] at Y hb
     have ab:i<l.length:=by omega
     have bg:l[i]?=some x:=by
      have:=aa.g
      rw [List.getElem?_take_of_lt (by omega)] at this
      exact this
     obtain rfl:l.getD i tm0=x:=by rw [oA,bg];rfl
     have ah:=J.mem _ (zC ab)
     have bv:=ah.c
     refine pz _ _ _ _ _ _ _ _ _ _ _ _ _ _ _ _ _ _ _ _ _ ?_
     rw [Y,aa.w]
     refine ⟨_,_,_,rfl,⟨by omega,by omega⟩,λN1 au=>?_⟩
     rw [oF]
     refine xm (zf U ab) ah.ok (by omega) N1 _ λN2 aw _=>Br.of (λhv=>?_) λhv=>?_
     ·rw [pq hv] at I
      refine bd _ (by omega) (λj y hj hy=>?_) I
      by_cases bh:j<i
      ·exact hk j y bh hy
      ·have:j=i:=by omega
       subst this
       rw [aa.g] at hy
       rw [<-oS hy];exact hv
     ·have I:=I _ rfl
      simp only [goS] at I
      rw [if_neg (by rw [hv];decide)] at I
      refine ⟨_,_,_,rfl,⟨by omega,by omega⟩,λN3 ax=>?_⟩
      refine ih _ _ (zf U ab) ah N3 _ λdx N4 az hx _ _ N5 a6=>?_
      have:=zRW uh O J.z.g hx ab (N0:=N) (N:=N5) (λd N=>Q d (Tm.stp f (l.getD i tm0)).2 N) λd' N6 al ae=>I _ _ (by omega) ae
      simpa only [oF] using this
end Go.Proofs.YtfajiphkncipoaaGreatDoor
