/- Drawing: programs, mostly: terms of a type. -/
import Derived.Test.YtfajiphkncipoaaGreatDoorC2
import Derived.Test.YtfajiphkncipoaaGreatDoorC3
import Derived.Test.YtfajiphkncipoaaGreatDoorKd
set_option linter.unusedVariables false
set_option linter.unusedSimpArgs false
set_option maxRecDepth 100000
namespace Go.Proofs.YtfajiphkncipoaaGreatDoor
open Go Go.Proofs Go.Proofs.Tryz Go.IntWalk
/-- some type of at most this many nodes, by its form -/
def WfD (m:Nat) (d:D):Prop:=∃ t:Ty,Wf t/\t.Is d/\t.cnt<=m
theorem WfD.mono {m n:Nat} {d:D} (h:WfD m d) (O:m<=n):WfD n d:=by obtain ⟨t,I,J,U⟩:=h;exact ⟨t,I,J,by omega⟩
theorem zQ2 (n:Int) {es:List D} {i:Int} (O:Cu es i) (a:Option Addr) (c:Nat) (h:Int) (N:Nat) (Q:QT [.ag 2,.sl 0,.i,.i])
  (hQ:∀ d' a' ai c' i' h' N',N<=N'->Cu ai i'->WfD 3 d'->Q d' a' ai c' i' h' N'):BCalls prog 159 [.ag 2,.sl 0,.i,.i] [.pb 0 0 0 0,.j n] [.var [.sv a 0 es c,.j i,.j h]] N Q:=by
 refine zCa N n a es c i h Q λE _ N1 a6=>xU N1 _ λx N2 a7 hx _ _ _=>?_
 have i3:WfD 3 x:=⟨_,.int,hx,by decide⟩
 have fn:∀ N3,ACalls prog 94 [.ag 2] [.dg 2 x,.dg 2 x] N3 (λy N4=>N3<=N4->Bel N4 y->zT E [.var [.sv none 0 [] 0,.j 0,.j 0]]/\∀ U,N4<=U->WfD 3 y/\N3<=U):=λN3=>
  xT tInt tInt x x hx hx (by decide) (by decide) N3 _ λy N4 aj hy _ _ _=>⟨ze,λU aa=>⟨⟨_,.fn .int .int,hy,by decide⟩,by omega⟩⟩
 have last:∀ {es:List D} {i:Int} (_:Cu es i) a c h N3,N2<=N3->BCalls prog 29 [.bool,.sl 0,.i,.i] [.pb 0 0 0 0,.j 3] [.var [.sv a 0 es c,.j i,.j h]] N3 (λax ab I ac ak al Y=>N3<=Y->Bel Y (D.sl ab 0 I ac)->Br ax (∀ ae,Y
  <= ae->ACalls prog 94 [.ag 2] [.dg 2 x,.dg 2 x] ae (λam ah=>ae<=ah->Bel ah am->zT E [.var [.sv none 0 [] 0,.j 0,.j 0]]
  /\ ∀ ao,ah<=ao->Q am ab I ac ak al ao)) (zT E [.var [.sv none 0 [] 0,.j 0,.j 0]]/\∀ aq,Y<=aq->Q x ab I ac ak
  al aq)):=λ{es i} O a c h N3 au=>qM O 3 (by omega) a c h N3 _ λb a1 ay c1 i1 h1 N4 aj J _ _=>Br.of (λ_ U aa=>xT tInt tInt x x hx hx (by decide) (by decide) U _ λy N6 az hy _ _ _=>⟨ze,λN7 aw=>hQ _ _ _ _ _ _ _ (by omega) J ⟨_,.fn .int .int,hy,by decide⟩⟩) λ_=>⟨ze,λN7 aw=>hQ _ _ _ _ _ _ _ (by omega) J i3⟩
 refine Br.of (λ_ N3 au=>?_) λ_ N3 au=>last O a c h N3 (by omega)
 exact qM O 2 (by omega) a c h N3 _ λb a1 ay c1 i1 h1 N4 aj J _ _=>Br.of (λ_ U aa=>xe tInt x hx (by decide) U _ λy N6 az hy _ _ _=>⟨ze,λN7 aw=>hQ _ _ _ _ _ _ _ (by omega) J ⟨_,.code .int,hy,by decide⟩⟩) λ_ U aa=>last J a1 c1 h1 U (by omega)
/-- what l9Gen does at this depth: terms of at most S nodes -/
def zMN (k S:Nat):Prop:=∀ (t:Ty) (_:Wf t) (_:t.cnt+k<=10) {d:D} (_:t.Is d) {g:List Tg} {I:List D} (_:Ctx g I) (_:g.length+k<=1000) (_:∀ x∈g,x.ty.cnt<=1000) (n:Int) (a0:Option Addr) (c0:Nat) {es:List D} {i:Int} (_:Cu es i) (a:Option Addr) (c:Nat) (h:Int) (N:Nat) (Q:QT [.ag 9,.sl 0,.i,.i])
    (_:∀ d' O J U i' Y N',N<=N'->Cu J i'->Some S d'->Q d' O J U i' Y N'),
    BCalls prog 97 [.ag 9,.sl 0,.i,.i] [.pb 0 0 0 0,.sv a0 4 I c0,.dg 2 d,.j n,.j k] [.var [.sv a 0 es c,.j i,.j h]] N Q
theorem zLb {m:Nat} {x y:D} (I:Some m x) (J:Some m y):∀ d∈[x,y],Some m d:=λd hd=>by
 simp only [oF,oc,mA] at hd
 rcases hd with rfl | rfl<;>assumption
theorem zDE {m:Nat} {x:D} (I:Some m x):∀ d∈[x],Some m d:=λd hd=>by rw [oZ] at hd;subst hd;exact I
theorem tv {l:List ByteArray} {s:ByteArray} (h:s∈l) (I:(l.all λs=>decide (s.size<=1000))=true):s.size<=1000:=by
 have:=oV.1 I s h
 simpa using this
theorem zTY {k S:Nat} (hk:k<=5) (hS:S<=100000000) (hG:zMN k S) {t:Ty} {d:D} (hd:t.Is d) {g:List Tg} {U:List D} (am:Ctx g U) (hg:g.length+k<=1000) (ao:∀ x∈g,x.ty.cnt<=1000) (n:Int) (a0:Option Addr) (c0:Nat) {es:List D} {i:Int} (ac:Cu es i) (a:Option Addr) (c:Nat) (h:Int) (N:Nat) (Q:QT [.ag 9,.sl 0,.i,.i])
  (hQ:∀ d' a' a6 c' i' h' N',N<=N'->Cu a6 i'->Some (3+2*S) d'->Q d' a' a6 c' i' h' N') :
  BCalls prog 131 [.ag 9,.sl 0,.i,.i] [.pb 0 0 0 0,.sv a0 4 U c0,.dg 2 d,.j n,.j ((k+1:Nat):Int)] [.var [.sv a 0 es c,.j i,.j h]] N Q:=by
 obtain ⟨kt,l,rfl⟩:∃ k l,t=Ty.mk k l:=by cases t;exact ⟨_,_,rfl⟩
 obtain ⟨ta,b1,tc,rfl,_,_⟩:=Ty.is_mk.1 hd
 have ek:IntKind.i64.wrap (((k+1:Nat):Int) - 1)=(k:Int):=by rw [i64_in _ (by omega)];omega
 have ci:tInt.cnt+k<=10:=by have:tInt.cnt=1:=rfl;omega
 have cb:tBool.cnt+k<=10:=by have:tBool.cnt=1:=rfl;omega
 refine zC1 N a0 U c0 _ n _ a es c i h Q λE _ _ _ N1 b2=>xU N1 _ λx N2 b3 hx _ _ _ N3 b4=>xb N3 _ λy N4 b5 hy _ _ _=>⟨kt,rfl,?_⟩
 rw [ek]
 have bin:∀ {u:Ty} {z:D} (_:Wf u) (_:u.cnt+k<=10) (_:u.Is z) {s:ByteArray} (_:s.size<=1000) {es:List D} {i:Int} (_:Cu es i) a c h N5,N4<=N5->BCalls prog 97 [.ag 9,.sl 0,.i,.i] [.pb 0 0 0 0,.sv a0 4 U c0,.dg 2 z,.j n,.j k] [.var [.sv a 0 es c,.j i,.j h]] N5 (λae a7 ak a8 bm bp N8=>N5<=N8->Bel N8 ae->Bel N8 (D.sl a7 0 ak a8)->∀ Y,N8<=Y->BCalls prog 97 [.ag 9,.sl 0,.i,.i] [.pb 0 0 0 0,.sv
   a0 4 U c0,.dg 2 z,.j n,.j k] [Bx.var [.sv a7 0 ak a8,.j bm,.j bp]] Y (λah ba al bb bq
   bt J=>Y<=J->Bel J ah->Bel J (D.sl ba 0 al bb)->(2=([ae,ah]).length/\2=2)/\∀ ai,ApA ai [ae,ah]->∀ O,J<=O->wU
   O [ai]->ACalls prog 162 [.ag 9] [.str s,.sv ai 9 [ae,ah] 2] O (λaq au=>O<=au->Off [ai] aq/\(Bel au aq->zT E [.var [.sv none
   0 [] 0,.j 0,.j 0]]/\∀ bc,au<=bc->Q aq ba al bb bq bt bc)))):=λ{u z} hw hc hz {s} hs {es i} ac a c h N5 bg=>
  hG _ hw hc hz am hg ao n a0 c0 ac a c h N5 _ λx2 a2 aw c2 i2 h2 N6 bh I ax _ _ _ N7 aj=>hG _ hw hc hz am hg ao n a0 c0 I a2 c2 h2 N7 _ λx3 a3 b6 c3 i3 h3 N8 ay bv bw _ _ _=>⟨⟨rfl,rfl⟩,λa4 _ Y az aa=>zUr (by omega) (by omega) (zLb ax bw) (by simp) a4 2 Y _ λw J bi hw ho _=>⟨vP aa ho,λ_=>⟨ze,λO bj=>hQ _ _ _ _ _ _ _ (by omega) bv (hw.mono (by simp))⟩⟩⟩
 refine Br.of (λ_ N5 bg=>?_) λ_ N5 bg=>?_
 ·exact ti (l:=[bytes [43],bytes [42],bytes [45],bytes [43]]) ac (by decide) (by decide) a c h 4 4 N5 _ λs a1 bz c1 i1 h1 N6 bh ab hs _ _ _ N7 aj=>bin .int ci hx (tv hs (by decide)) ab a1 c1 h1 N7 (by omega)
 ·refine yp ac 4 (by omega) a c h N5 _ λr a1 bz c1 i1 h1 N6 bh ab _ _ _ _ _=>Br.of (λ_ N7 aj=>?_) λ_=>Br.of (λ_ N7 aj=>?_) λ_ N7 aj=>?_
  ·exact hG _ .bool cb hy am hg ao n a0 c0 ab a1 c1 h1 N7 _ λx2 a2 aw c2 i2 h2 N8 ay I ax _ _ _=>⟨⟨rfl,rfl⟩,λa4 _ Y az aa=>zUr (by decide) (by omega) (zDE ax) (by simp) a4 1 Y _ λw J bi hw ho _=>⟨vP aa ho,λ_=>⟨ze,λO bj=>hQ _ _ _ _ _ _ _ (by omega) I (hw.mono (by simp;omega))⟩⟩⟩
  ·exact ti (l:=[bytes [38],bytes [124]]) ab (by decide) (by decide) a1 c1 h1 2 2 N7 _ λs a2 aw c2 i2 h2 N8 ay I hs _ _ _ Y az=>bin .bool cb hy (tv hs (by decide)) I a2 c2 h2 Y (by omega)
  ·exact ti (l:=[bytes [61],bytes [60]]) ab (by decide) (by decide) a1 c1 h1 2 2 N7 _ λs a2 aw c2 i2 h2 N8 ay I hs _ _ _ Y az=>bin .int ci hx (tv hs (by decide)) I a2 c2 h2 Y (by omega)
theorem zTo {t:Ty} (O:Wf t):∀ {d:D} (_:t.Is d) (N:Nat) (Q:QT [.i]) (_:∀ r N',N<=N'->Q r N'),ACalls prog 161 [.i] [.dg 2 d] N Q:=by
 have yG:∀ {k:Int} {l:List Ty} {d:D} (_:(Ty.mk k l).Is d) (_:k≠4) (N:Nat) (Q:QT [.i]) (_:∀ r N',N<=N'->Q r N'),ACalls prog 161 [.i] [.dg 2 d] N Q:=λ{k l d} hd U N Q I=>by
  obtain ⟨b,fs,c,rfl,_,_⟩:=Ty.is_mk.1 hd
  exact zA7 N _ Q λ_=>⟨k,rfl,Br.beq (λh=>absurd h U) λ_ N4 J=>I _ _ J⟩
 induction O with
 | int=>exact λhd=>yG hd (by decide)
 | bool=>exact λhd=>yG hd (by decide)
 | fn _ _ _ _=>exact λhd=>yG hd (by decide)
 | @code u _ Y=>
   intro d hd N Q I
   obtain ⟨b,fs,c,rfl,_,d1,_,rfl,h3,rfl⟩:=Ty.is_mk.1 hd
   exact zA7 N _ Q λ_=>⟨4,rfl,Br.beq (λ_=>⟨_,_,_,rfl,⟨by simp,by simp⟩,λN1 aa=>Y h3 N1 _ λr N2 ab _ N3 ac=>I _ _ (by omega)⟩) λh=>absurd rfl h⟩
theorem zPU {g:List Tg} {m M:Nat} (O:g.length+m<=M) (I:∀ x∈g,x.ty.cnt<=1000) (n:Int):(te g n).length+m<=M/\∀ x∈te g n,x.ty.cnt<=1000:=by
 have h:=zBe g n g 0
 exact ⟨by have U:=h.2;show (vH g n g 0).length+m<=M;omega,λx J=>I x (h.1 x J)⟩
theorem zHb {g:List Tg} {k:Nat} (O:g.length+(k+1)<=1000) (I:∀ x∈g,x.ty.cnt<=1000) {y:Tg} (J:y.ty.cnt<=1000):(g++[y]).length+k<=1000/\∀ x∈g++[y],x.ty.cnt<=1000:=by
 refine ⟨by simp;omega,λx hx=>?_⟩
 rcases oK.1 hx with hx | hx
 ·exact I x hx
 ·rw [oZ] at hx;subst hx;exact J
theorem zUj {k S:Nat} (hk:k<=5) (cr:1600<=S) (hS:S<=100000000) (hG:zMN k S) {t:Ty} (hw:Wf t) (hc:t.cnt+(k+1)<=10) {d:D} (hd:t.Is d) {g:List Tg} {bq:List D} (J:Ctx g bq) (hg:g.length+(k+1)<=1000) (I:∀ x∈g,x.ty.cnt<=1000) (n:Int) (a0:Option Addr) (c0:Nat) {es:List D} {i:Int} (bt:Cu es i) (a:Option Addr) (c:Nat) (h:Int) (N:Nat) (Q:QT [.ag 9,.sl 0,.i,.i])
  (hQ:∀ d' a' b1 c' i' h' N',N<=N'->Cu b1 i'->Some (5*S) d'->Q d' a' b1 c' i' h' N') :
  BCalls prog 130 [.ag 9,.sl 0,.i,.i] [.pb 0 0 0 0,.sv a0 4 bq c0,.dg 2 d,.j n,.j ((k+1:Nat):Int)] [.var [.sv a 0 es c,.j i,.j h]] N Q:=by
 have ek:IntKind.i64.wrap (((k+1:Nat):Int) - 1)=(k:Int):=by rw [i64_in _ (by omega)];omega
 have cb:tBool.cnt+k<=10:=by have:tBool.cnt=1:=rfl;omega
 have cc:(xA t).cnt+k<=10:=by have:(xA t).cnt=1+(t.cnt+0):=rfl;omega
 have aa:g.length+k<=1000:=by omega
 have e3:∀ x y z:D,∀ {m:Nat},Some m x->Some m y->Some m z->∀ d∈[x,y,z],Some m d:=λx y z m hx hy hz d hd=>by
  simp only [oF,oc,mA] at hd
  rcases hd with rfl | rfl | rfl<;>assumption
 refine zEE N a0 bq c0 d n _ a es c i h Q λE _ _ _ N1 cx=>ti (l:=[bytes [120],bytes [121],bytes [122]]) bt (by decide) (by decide) a c h 3 3 N1 _ λs a1 cy c1 i1 h1 N2 cz b8 hs _ _ _ N3 c8=>yp b8 5 (by omega) a1 c1 h1 N3 _ λr a2 b9 c2 i2 h2 N4 c9 al _ _ _ _ _=>?_
 have hs:=tv hs (by decide)
 rw [ek]
 have ax:∀ O,N4<=O->BCalls prog 129 [.ag 9,.sl 0,.i,.i] [.pb 0 0 0 0,.dg 2 d,.j n] [.var [.sv a2 0 b9 c2,.j i2,.j h2]] O (λx a es c ca cd N6=>O<=N6->Bel N6 x->Bel N6 (D.sl a 0 es c)->zT E [.var [.sv none 0 [] 0,.j 0,.j 0]]/\∀ U,N6<=U->Q x a es c ca cd U):=λO ab=>
  zKP hw (by omega) hd n al a2 c2 h2 O _ λx a3 bb c3 i3 h3 N6 ay am hx _ _ _=>⟨ze,λU ao=>hQ _ _ _ _ _ _ _ (by omega) am (hx.mono (by omega))⟩
 have nod:∀ (kk:Int) (_:bn kk=0) {x:D} (_:Some S x) {es:List D} {i:Int} (_:Cu es i) a c h O,N4<=O->(1=([x]).length/\1=1)/\∀ bc,ApA bc [x]->∀ N6,O<=N6->wU N6 [bc]->ACalls prog 87 [.ag 9] [.j kk,.sv bc 9 [x] 1] N6 (λbv U=>N6<=U->Off [bc] bv/\(Bel U bv->zT E [.var [.sv none 0 [] 0,.j 0,.j 0]]/\∀ N8,U<=N8->Q bv a es c i h N8)):=λkk ce {x} hx {es i} bt a c h O ab=>
  ⟨⟨rfl,rfl⟩,λa4 _ N9 az ac=>zFq kk (by omega) (zDE hx) (by simp) a4 1 N9 _ (λw bg aq hw ho _=>⟨vP ac ho,λ_=>⟨ze,λae au=>hQ _ _ _ _ _ _ _ (by omega) bt (hw.mono (by simp;omega))⟩⟩) ce⟩
 refine Br.of (λ_ O ab=>?_) λ_=>Br.of (λ_ O ab=>?_) λ_=>Br.of (λ_ O ab=>?_) λ_=>Br.of (λ_ O ab=>?_) λ_=>Br.of (λ_ O ab=>?_) λ_ O ab=>ax O ab
 ·refine xb O _ λy N6 ay hy _ _ _ U ao=>hG _ .bool cb hy J aa I n a0 c0 al a2 c2 h2 U _ λx1 a3 bb c3 i3 h3 N8 bh am cf _ _ _ N9 az=>hG _ hw (by omega) hd J aa I n a0 c0 am a3 c3 h3 N9 _ λx2 a4 bi c4 i4 h4 bg aq Y cg _ _ _ ae au=>hG _ hw (by omega) hd J aa I n a0 c0 Y a4 c4 h4 ae _ λx3 a5 b2 c5 i5 h5 ah ai ch cj _ _ _=>⟨⟨rfl,rfl⟩,λa6 _ ba bj ac=>?_⟩
  exact zFq 5 (by omega) (e3 x1 x2 x3 cf cg cj) (by simp) a6 3 ba _ λw b3 bm hw ho _=>⟨vP ac ho,λ_=>⟨ze,λbw bp=>hQ _ _ _ _ _ _ _ (by omega) ch (hw.mono (by simp;omega))⟩⟩
 ·refine zQ2 n al a2 c2 h2 O _ λy a3 bb c3 i3 h3 N6 ay am hy _ _ _ U ao=>?_
  obtain ⟨u,hu,aw,ck⟩:=hy
  refine hG _ hu (by omega) aw J aa I n a0 c0 am a3 c3 h3 U _ λx6 a4 bi c4 i4 h4 N8 bh Y cm _ _ _ N9 az=>?_
  refine yJ J (by omega) a0 c0 (s:=s) (by omega) aw n N9 _ λa5 b2 c5 bg aq aj _ _ ae au=>?_
  obtain ⟨g2,g3⟩:=zHb hg I (y:=⟨s,u,n⟩) (by show u.cnt<=1000;omega)
  exact hG _ hw (by omega) hd aj g2 g3 n a5 c5 Y a4 c4 h4 ae _ λx7 a6 cn c6 i6 h6 ah ai bz co _ _ _ ba bj=>zUA (by omega) (by omega) cm co ba _ λx8 b3 bm cp _ _=>⟨ze,λbw bp=>hQ _ _ _ _ _ _ _ (by omega) bz (cp.mono (by omega))⟩
 ·refine zQ2 n al a2 c2 h2 O _ λy a3 bb c3 i3 h3 N6 ay am hy _ _ _ U ao=>?_
  obtain ⟨u,hu,aw,ck⟩:=hy
  refine yJ J (by omega) a0 c0 (s:=s) (by omega) aw n U _ λa5 b2 c5 N8 bh aj _ _ N9 az=>?_
  obtain ⟨g2,g3⟩:=zHb hg I (y:=⟨s,u,n⟩) (by show u.cnt<=1000;omega)
  refine hG _ hw (by omega) hd aj g2 g3 n a5 c5 am a3 c3 h3 N9 _ λda a6 cn c6 i6 h6 bg aq bz b4 _ _ _ ae au=>zRb (by omega) aw (by omega) (by omega) b4 ae _ λdb ah ai b5 _ _ ba bj=>?_
  exact hG _ hu (by omega) aw J aa I n a0 c0 bz a6 c6 h6 ba _ λde a7 df c7 i7 h7 b3 bm cq b6 _ _ _=>⟨⟨rfl,rfl⟩,λa8 _ bw bp ac=>zFq 7 (m:=5+2*S) (by omega) (zLb (b5.mono (by omega)) (b6.mono (by omega))) (by simp) a8 2 bw _ λw dh ct hw ho _=>⟨vP ac ho,λ_=>⟨ze,λdi cw=>hQ _ _ _ _ _ _ _ (by omega) cq (hw.mono (by simp;omega))⟩⟩⟩
 ·refine zTo hw hd O _ λr2 N6 ay _=>Br.of (λ_ U ao=>?_) λ_=>Br.of (λ_ U ao=>?_) λ_ U ao=>ax U (by omega)
  ·refine tP J (by omega) (λx hx=>oO (I x hx) (by omega)) a0 c0 n U _ λa3 bb c3 N8 bh aj _ _ N9 az=>?_
   obtain ⟨g2,g3⟩:=zPU aa I n
   refine xe t d hd (by omega) N9 _ λy bg aq hy _ _ _ ae au=>?_
   exact hG _ (.code hw) cc hy aj g2 g3 n a3 c3 al a2 c2 h2 ae _ λb7 a4 bi c4 i4 h4 ah ai Y ak _ _ _=>nod 12 rfl ak Y a4 c4 h4 ah (by omega)
  ·refine xe t d hd (by omega) U _ λy N8 bh hy _ _ _ N9 az=>?_
   exact hG _ (.code hw) cc hy J aa I _ a0 c0 al a2 c2 h2 N9 _ λb7 a4 bi c4 i4 h4 ah ai Y ak _ _ _=>nod 11 rfl ak Y a4 c4 h4 ah (by omega)
 ·refine xe t d hd (by omega) O _ λy N6 ay hy _ _ _ U ao=>?_
  exact hG _ (.code hw) cc hy J aa I _ a0 c0 al a2 c2 h2 U _ λb7 a4 bi c4 i4 h4 ah ai Y ak _ _ _=>nod 11 rfl ak Y a4 c4 h4 ah (by omega)
theorem zSH (k:Nat) (hk:k=1):zMN k 1600:=by
 intro t hw hc d hd g J Y hg ac n a0 c0 es i I a c h N Q hQ
 refine r7 N a0 J c0 d n _ a es c i h Q λE _ _ _ N1 ae=>?_
 have L5:∀ {es:List D} {i:Int} (_:Cu es i) a c h N',N<=N'->xn E Q N a0 J c0 n k a es c i h d 0 (bytes []) (bytes []) 0 0 none [] 0 0 none [] 0 none [] 0 N':=λ{es i} I a c h N' ah=>by
  refine qz _ _ _ _ _ _ _ _ _ _ _ _ _ _ _ _ _ _ _ _ _ _ _ _ _ _ _ _ _ _ (Br.dec (λ_ N2 aa=>?_) λh=>by omega)
  exact zKP hw (by omega) hd n I a c h N2 _ λx a3 ai c3 i3 h3 N6 aj ab hx _ _ _=>⟨ze,λN7 ak=>hQ _ _ _ _ _ _ _ (by omega) ab (hx.mono (by omega))⟩
 exact qM I 3 (by omega) a c h N1 _ λb a1 al c1 i1 h1 N2 aa O _ _=>Br.of (λ_ N3 am=>zOg Y (by omega) hd n a0 c0 O a1 c1 h1 N3 _ λx b2 a2 ao c2 i2 h2 N4 aq U hx _ _ _=>Br.of (λ_=>⟨ze,λN5 au=>hQ _ _ _ _ _ _ _ (by omega) U (hx.mono (by omega))⟩) λ_=>L5 U a2 c2 h2 N4 (by omega)) λ_=>L5 O a1 c1 h1 N2 (by omega)
theorem zLN {k S:Nat} (hk:k<=5) (ax:1600<=S) (hS:S<=100000000) (hG:zMN k S):zMN (k+1) (5*S):=by
 intro t hw hc d hd g ai aa hg ac n a0 c0 es i U a c h N Q hQ
 have ek:IntKind.i64.wrap (((k+1:Nat):Int) - 1)=(k:Int):=by rw [i64_in _ (by omega)];omega
 have au:g.length+k<=1000:=by omega
 refine r7 N a0 ai c0 d n _ a es c i h Q λE _ _ _ N1 b4=>?_
 have ay:∀ {u:Ty} (_:t=xA u) {es:List D} {i:Int} (_:Cu es i) a c h N',N<=N'->wi E Q N a0 ai c0 n ((k+1:Nat):Int) a es c i h d 0 (bytes []) (bytes []) 0 0 none [] 0 0 none [] 0 none [] 0 N':=λ{u} hu {es i} U a c h N' bp=>by
  subst hu
  obtain ⟨b,fs,kk,rfl,az,d1,_,rfl,h3,rfl⟩:=Ty.is_mk.1 hd
  have a7:(xA u).cnt=1+(u.cnt+0):=rfl
  have bq:Wf u:=by cases hw;assumption
  refine zD6 _ _ _ _ _ _ _ _ _ _ _ _ _ _ _ _ _ _ _ _ _ _ _ _ _ _ _ _ _ _ ⟨_,_,_,rfl,⟨by simp,by simp⟩,λN2 aw=>?_⟩
  rw [ek]
  exact hG _ bq (by omega) h3 aa au ac _ a0 c0 U a c h N2 _ λx a3 aj c3 i3 h3 N3 a8 I hx _ _ _=>⟨⟨rfl,rfl⟩,λa4 _ N4 ab ae=>zFq 10 (by omega) (zDE hx) (by simp) a4 1 N4 _ λw N5 ak hw ho _=>⟨vP ae ho,λ_=>⟨ze,λN6 al=>hQ _ _ _ _ _ _ _ (by omega) I (hw.mono (by simp;omega))⟩⟩⟩
 have L5:∀ {es:List D} {i:Int} (_:Cu es i) a c h N',N<=N'->xn E Q N a0 ai c0 n ((k+1:Nat):Int) a es c i h d 0 (bytes []) (bytes []) 0 0 none [] 0 0 none [] 0 none [] 0 N':=λ{es i} U a c h N' bp=>by
  have base:∀ {es:List D} {i:Int} (_:Cu es i) a c h N9,N<=N9->BCalls prog 131 [.ag 9,.sl 0,.i,.i] [.pb 0 0 0 0,.sv a0 4 ai c0,.dg 2 d,.j n,.j ((k+1:Nat):Int)] [.var [.sv a 0 es c,.j i,.j h]] N9 (λba bb am bc bt bv J=>N9<=J->Bel J ba->Bel J (D.sl bb 0 am bc)->zT E [.var [.sv none 0 [] 0,.j 0,.j 0]]/\∀ ah,J<=ah->Q ba bb am bc bt bv ah):=λ{es i} U a c h N9 bg=>
   zTY hk hS hG hd aa au ac n a0 c0 U a c h N9 _ λx a3 aj c3 i3 h3 J ao I hx _ _ _=>⟨ze,λah aq=>hQ _ _ _ _ _ _ _ (by omega) I (hx.mono (by omega))⟩
  refine qz _ _ _ _ _ _ _ _ _ _ _ _ _ _ _ _ _ _ _ _ _ _ _ _ _ _ _ _ _ _ (Br.of (λ_ N2 aw=>?_) λ_ N2 aw=>qM U 3 (by omega) a c h N2 _ λb a1 bw c1 i1 h1 N3 a8 O _ _=>Br.of (λ_ N4 ab=>?_) λ_=>?_)
  ·exact zKP hw (by omega) hd n U a c h N2 _ λx a3 aj c3 i3 h3 N6 al I hx _ _ _=>⟨ze,λN7 bh=>hQ _ _ _ _ _ _ _ (by omega) I (hx.mono (by omega))⟩
  ·exact zUj hk ax hS hG hw hc hd aa hg ac n a0 c0 O a1 c1 h1 N4 _ λx a3 aj c3 i3 h3 N5 ak I hx _ _ _=>⟨ze,λN6 al=>hQ _ _ _ _ _ _ _ (by omega) I hx⟩
  ·cases hw with
   | int=>
     obtain ⟨b,fs,kk,rfl,_,_⟩:=Ty.is_mk.1 hd
     exact ⟨1,rfl,Br.of (λ_ N4 ab=>base O a1 c1 h1 N4 (by omega)) λh=>by cases h⟩
   | bool=>
     obtain ⟨b,fs,kk,rfl,_,_⟩:=Ty.is_mk.1 hd
     exact ⟨2,rfl,Br.beq (λh=>absurd h (by decide)) λ_=>Br.of (λ_ N4 ab=>base O a1 c1 h1 N4 (by omega)) λh=>by cases h⟩
   | @fn u v hu hv=>
     obtain ⟨b,fs,kk,rfl,az,d1,_,rfl,h3,d2,_,rfl,h4,rfl⟩:=Ty.is_mk.1 hd
     have a7:(wR u v).cnt=1+(u.cnt+(v.cnt+0)):=rfl
     refine ⟨3,rfl,Br.beq (λh=>absurd h (by decide)) λ_=>Br.beq (λh=>absurd h (by decide)) λ_=>Br.beq (λ_ N4 ab=>?_) λh=>absurd rfl h⟩
     refine ti (l:=[bytes [120],bytes [121]]) O (by decide) (by decide) a1 c1 h1 2 2 N4 _ λs a2 bi c2 i2 h2 N5 ak Y hs _ _ _=>⟨_,_,_,rfl,⟨by simp,by simp⟩,_,_,_,rfl,⟨by simp,by simp⟩,_,_,_,rfl,⟨by simp,by simp⟩,λN6 al=>?_⟩
     have hs:=tv hs (by decide)
     rw [ek]
     refine yJ aa (by omega) a0 c0 (s:=s) (by omega) h3 n N6 _ λa5 b5 c5 N7 bh bj _ _ N8 bz=>?_
     obtain ⟨g2,g3⟩:=zHb hg ac (y:=⟨s,u,n⟩) (by show u.cnt<=1000;omega)
     exact hG _ hv (by omega) h4 bj g2 g3 n a5 c5 Y a2 c2 h2 N8 _ λx a6 b6 c6 i6 h6 N9 bg b1 hx _ _ _ J ao=>zRb (by omega) h3 (by omega) (by omega) hx J _ λy ah aq hy _ _=>⟨ze,λb3 bm=>hQ _ _ _ _ _ _ _ (by omega) b1 (hy.mono (by omega))⟩
   | @code u hu=>
     obtain ⟨b,fs,kk,rfl,az,d1,_,rfl,h3,rfl⟩:=Ty.is_mk.1 hd
     have a7:(xA u).cnt=1+(u.cnt+0):=rfl
     refine ⟨4,rfl,Br.beq (λh=>absurd h (by decide)) λ_=>Br.beq (λh=>absurd h (by decide)) λ_=>Br.beq (λh=>absurd h (by decide)) λ_=>⟨_,_,_,rfl,⟨by simp,by simp⟩,λN4 ab=>?_⟩⟩
     refine sa u _ h3 N4 _ λN5 ak _=>Br.of (λ_ N6 al=>?_) λ_=>ay rfl O a1 c1 h1 N5 (by omega)
     refine qM O 4 (by omega) a1 c1 h1 N6 _ λb2 a2 bi c2 i2 h2 N7 bh Y _ _=>Br.of (λ_=>⟨_,_,_,rfl,⟨by simp,by simp⟩,λN8 bz=>?_⟩) λ_=>ay rfl Y a2 c2 h2 N7 (by omega)
     rw [ek]
     exact hG _ hu (by omega) h3 aa au ac n a0 c0 Y a2 c2 h2 N8 _ λx a3 aj c3 i3 h3 N9 bg I hx _ _ _=>⟨⟨rfl,rfl⟩,λa4 _ J ao ae=>zFq 13 (by omega) (zDE hx) (by simp) a4 1 J _ λw ah aq hw ho _=>⟨vP ae ho,λ_=>⟨ze,λb3 bm=>hQ _ _ _ _ _ _ _ (by omega) I (hw.mono (by simp;omega))⟩⟩⟩
 exact qM U 3 (by omega) a c h N1 _ λb a1 bw c1 i1 h1 N2 aw O _ _=>Br.of (λ_ N3 a8=>zOg aa (by omega) hd n a0 c0 O a1 c1 h1 N3 _ λx b2 a2 bi c2 i2 h2 N4 ab Y hx _ _ _=>Br.of (λ_=>⟨ze,λN5 ak=>hQ _ _ _ _ _ _ _ (by omega) Y (hx.mono (by omega))⟩) λ_=>L5 Y a2 c2 h2 N4 (by omega)) λ_=>L5 O a1 c1 h1 N2 (by omega)
/-- terms of at most this depth -/
theorem zUb {k:Nat} (hk:1<=k) (ah:k<=5):zMN k 1000000:=by
 have up:∀ {k S T:Nat},zMN k S->S<=T->zMN k T:=λh U=>λt hw hc {d} hd {g ai} Y hg aa n a0 c0 {es i} ab a c h' N Q hQ=>h t hw hc hd Y hg aa n a0 c0 ab a c h' N Q λd' a' ac c' i' ae N' I J O=>hQ d' a' ac c' i' ae N' I J (O.mono U)
 have I:zMN 1 1600:=zSH 1 (by omega)
 have J:zMN 2 8000:=zLN (by omega) (by omega) (by omega) I
 have O:zMN 3 40000:=zLN (by omega) (by omega) (by omega) J
 have h4:zMN 4 200000:=zLN (by omega) (by omega) (by omega) O
 have h5:zMN 5 1000000:=zLN (by omega) (by omega) (by omega) h4
 rcases (by omega:k=1\/k=2\/k=3\/k=4\/k=5) with rfl | rfl | rfl | rfl | rfl
 ·exact up (k:=1) (S:=1600) (T:=1000000) I (by omega)
 ·exact up (k:=2) (S:=8000) (T:=1000000) J (by omega)
 ·exact up (k:=3) (S:=40000) (T:=1000000) O (by omega)
 ·exact up (k:=4) (S:=200000) (T:=1000000) h4 (by omega)
 ·exact up (k:=5) (S:=1000000) (T:=1000000) h5 (by omega)
end Go.Proofs.YtfajiphkncipoaaGreatDoor
set_option maxRecDepth 100000
namespace Go.Proofs.YtfajiphkncipoaaGreatDoor
open Go Go.Proofs Go.Proofs.Tryz Go.IntWalk
theorem zQN {l:List ByteArray} {s:ByteArray} (h:s∈l) (I:(l.all λs=>decide (1<=s.size/\s.size<=104))=true):1<=s.size/\s.size<=104:=by
 have:=oV.1 I s h
 simpa using this
theorem zPL {es:List D} {i:Int} (J:Cu es i) (a:Option Addr) (c:Nat) (h:Int) (N:Nat) (Q:QT [.ag 9,.sl 0,.i,.i])
  (U:∀ d' Y I c' i' h' N',N<=N'->Cu I i'->SomB 2100000 d'->Q d' Y I c' i' h' N'):BCalls prog 95 [.ag 9,.sl 0,.i,.i] [.pb 0 0 0 0] [.var [.sv a 0 es c,.j i,.j h]] N Q:=by
 refine zBA N a es c i h Q λE _ N1 aa=>ti (l:=[_,_,_,_,_,_,_,_,_,_,_]) J (by simp) (by simp) a c h 11 11 N1 _ λs a1 ab c1 i1 h1 N2 ac O hs _ _ _ N3 ae=>?_
 have hs:=zQN hs (by decide)
 exact zSQ hs.1 hs.2 N3 _ λd b N4 ah hd _ _=>⟨ze,λN5 ai=>U _ _ _ _ _ _ _ (by omega) O hd⟩
theorem zUZ {l:List D} (h:∀ d∈l,WfD 5 d) {j:Nat} (I:j<l.length):WfD 5 (l.getD j default):=h _ (zID I)
theorem zPp {es:List D} {i:Int} (ac:Cu es i) (a:Option Addr) (c:Nat) (h:Int) (N:Nat) (Q:QT [.ag 9,.sl 0,.i,.i])
  (hQ:∀ d' a' Y c' i' h' N',N<=N'->Cu Y i'->SomB 2100000 d'->Q d' a' Y c' i' h' N'):BCalls prog 57 [.ag 9,.sl 0,.i,.i] [.pb 0 0 0 0] [.var [.sv a 0 es c,.j i,.j h]] N Q:=by
 refine zAm N a es c i h Q λE _ N1 b3=>qM ac 4 (by omega) a c h N1 _ λb a1 b4 c1 i1 h1 N2 b5 aa _ _=>Br.of (λ_ N3 ae=>zPL aa a1 c1 h1 N3 _ λd a2 ah c2 i2 h2 N4 ai O hd _ _ _=>⟨ze,λN5 aj=>hQ _ _ _ _ _ _ _ (by omega) O hd⟩) λ_ N3 ae=>?_
 have cd:∀ {t:Ty} {d:D} (_:t.Is d) (_:t.cnt<=100) (N:Nat) (Q:QT [.ag 2]) (_:∀ d' N',N<=N'->(xA t).Is d'->Q d' N'),ACalls prog 93 [.ag 2] [.dg 2 d] N Q:=λ{t d} ht hc N Q hQ=>xe t d ht (by omega) N _ λe N' h he _=>hQ e N' h he
 have ii:(wR tInt tInt).cnt<=100:=by decide
 refine xU N3 _ λJ N4 ai I _ _ _ N5 aj=>xb N5 _ λx2 N6 b6 k2 _ _ _ N7 b7=>cd I (by decide) N7 _ λx3 N8 b8 k3 _ _ N9 b9=>xT tInt tInt J J I I (by decide) (by decide) N9 _ λx4 ca a6 k4 _ _ _ ak a7=>cd k4 ii ak _ λx5 cc a8 k5 _ _ al ba=>xT tInt tInt J J I I (by decide) (by decide) al _ λx6 ce bb k6 _ _ _ am bc=>cd I (by decide) am _ λx7 cf bg k7 _ _ ao bh=>cd k7 (by decide) ao _ λx8 cg bi k8 _ _ aq bj=>cd I (by decide) aq _ λx9 ch bm k9 _ _ au bp=>?_
 refine yp aa 8 (by omega) a1 c1 h1 au _ λr a2 ah c2 i2 h2 cj bq O r0 r8 _ _ _=>?_
 have r8:=r8 (by omega)
 have ab:∀ d∈[J,x2,x3,x5,x6,x8,J,x9],WfD 5 d:=λd hd=>by
  simp only [oF,oc,mA] at hd
  rcases hd with rfl | rfl | rfl | rfl | rfl | rfl | rfl | rfl
  ·exact ⟨_,.int,I,by decide⟩
  ·exact ⟨_,.bool,k2,by decide⟩
  ·exact ⟨_,.code .int,k3,by decide⟩
  ·exact ⟨_,.code (.fn .int .int),k5,by decide⟩
  ·exact ⟨_,.fn .int .int,k6,by decide⟩
  ·exact ⟨_,.code (.code .int),k8,by decide⟩
  ·exact ⟨_,.int,I,by decide⟩
  ·exact ⟨_,.code .int,k9,by decide⟩
 have U:0+r.toNat<[J,x2,x3,x5,x6,x8,J,x9].length:=by simp;omega
 refine ⟨⟨r0,r8,U⟩,U,λaw bt=>yp O 3 (by omega) a2 c2 h2 aw _ λq a3 ck c3 i3 h3 cm bv ax q0 q3 _ _ _=>⟨⟨rfl,rfl⟩,λa4 cn bw _ ay bz=>?_⟩⟩
 have q3:=q3 (by omega)
 obtain ⟨t,hw,ht,co⟩:=zUZ ab U
 have e:IntKind.i64.wrap (3+q)=((3+q).toNat:Int):=by rw [i64_in _ (by omega)];omega
 rw [e]
 exact zUb (k:=(3+q).toNat) (by omega) (by omega) t hw (by omega) ht (g:=[]) ⟨by simp,rfl⟩ (by simp;omega) (by simp) 0 a4 0 ax a3 c3 h3 ay _ λd a5 cp c5 i5 h5 cq b1 az hd _ _ _=>⟨ze,λcr b2=>hQ _ _ _ _ _ _ _ (by omega) az ((hd.b (by omega)).mono (by omega))⟩
end Go.Proofs.YtfajiphkncipoaaGreatDoor
