/- Drawing: programs, mostly: terms of a type. -/
import Derived.Test.YtnmnahkkcfghjaaGreatC2
import Derived.Test.YtnmnahkkcfghjaaGreatC3
import Derived.Test.YtnmnahkkcfghjaaGreatKd
import Derived.Test.YtnmnahkkcfghjaaGreatKr
set_option linter.unusedVariables false
set_option linter.unusedSimpArgs false
set_option maxRecDepth 100000
namespace Go.Proofs.YtnmnahkkcfghjaaGreat
open Go Go.Proofs Go.Proofs.Tryz Go.IntWalk
/-- some type of at most this many nodes, by its form -/
def WfD (m:Nat) (d:D):Prop:=∃ t:Ty,Wf t/\t.Is d/\t.cnt<=m
theorem WfD.mono {m n:Nat} {d:D} (h:WfD m d) (O:m<=n):WfD n d:=by obtain ⟨t,I,J,U⟩:=h;exact ⟨t,I,J,by omega⟩
theorem zOg {k:Int} (h:k∈[1,1,(2:Int)]):WfD 1 (.ag [.j k,.sl none 2 [] 0]):=by
 simp only [oF,od,nl] at h
 have h:k=1\/k=2:=by omega
 rcases h with rfl | rfl
 ·exact ⟨tInt,.int,yz 1,by decide⟩
 ·exact ⟨tBool,.bool,yz 2,by decide⟩
def zRG (b:Int) (X:Nat):Prop:=∀ (n:Int),n<=b->∀ {es:List D} {i:Int} (_:Cu es i) (a:Option Addr) (c:Nat) (h:Int) (N:Nat) (Q:QT [.ag 2,.sl 0,.i,.i])
    (_:∀ d' J I O i' U N',N<=N'->Cu I i'->WfD X d'->Q d' J I O i' U N'),BCalls prog 38 [.ag 2,.sl 0,.i,.i] [.pb 0 0 0 0,.j n] [.var [.sv a 0 es c,.j i,.j h]] N Q
theorem zPK:zRG 1 1:=λn hn es i I a c h N Q O=>by
 refine xc N n a es c i h Q λE _=>Br.dec (λ_ N1 U=>?_) λg=>absurd (by omega) g
 exact vC (l:=[1,1,2]) I (by decide) (by decide) a c h 3 3 N1 _ λk a' Y c' i' h' N2 aa J hk _ _ _=>⟨zV,λN3 ab=>O _ _ _ _ _ _ _ (by omega) J (zOg hk)⟩
theorem zRw:zRG 2 3:=λn hn es i I a c h N Q hQ=>by
 have pk:∀ (E:Env) {es:List D} {i:Int} (_:Cu es i) a c h N1,N<=N1->BCalls prog 47 [.i,.sl 0,.i,.i,.sl 0] [.pb 0 0 0 0,.sb 1 0 0 3 3] [.var [.sv a 0 es c,.j i,.j h],.arr 3 0 (zG0 [1,1,2]) 3] N1
   (λn a es c ac ae ah U ai N2=>N1<=N2->Bel N2 (D.sl a 0 es c)->Bel N2 (D.sl ah 0 U ai)->zR E [.var [.sv none 0 [] 0,.j 0,.j 0]]/\∀ N3,N2<=N3->Q (D.ag [D.j n,D.sl Option.none 2 [] 0]) a es c ac ae N3):=λE es i I a c h N1 J=>
  vC (l:=[1,1,2]) I (by decide) (by decide) a c h 3 3 N1 _ λk a' a9 c' i' h' N2 aj ak hk _ _ _=>⟨zV,λN3 Y=>hQ _ _ _ _ _ _ _ (by omega) ak ((zOg hk).mono (by omega))⟩
 refine xc N n a es c i h Q λE _=>Br.dec (λ_ N1 J=>pk E I _ _ _ N1 J) λba N1 J=>vW I 2 (by omega) a c h N1 _ λb1 a1 bb c1 i1 h1 N2 aj aa _ _=>Br.of (λ_ N3 Y=>pk E aa _ _ _ N3 (by omega)) λ_ N3 Y=>?_
 refine vW aa 2 (by omega) a1 c1 h1 N3 _ λb2 a2 bc c2 i2 h2 N4 bg ab _ _=>Br.of (λ_ N5 al=>?_) λ_ N5 al=>?_
 ·rw [i64_in (n - 1) (by omega)]
  refine zPK (n - 1) (by omega) ab a2 c2 h2 N5 _ λd a3 am c3 i3 h3 N6 ao O hd _ _ _ N7 aq=>?_
  obtain ⟨t,hw,ht,hc⟩:=hd
  exact yf t d ht (by omega) N7 _ λe N8 au he _ _ _=>⟨zV,λN9 aw=>hQ _ _ _ _ _ _ _ (by omega) O ⟨_,.code hw,he,by simp only [yd,Ty.cnt,zG];omega⟩⟩
 ·rw [i64_in (n - 1) (by omega)]
  refine zPK (n - 1) (by omega) ab a2 c2 h2 N5 _ λd a3 am c3 i3 h3 N6 ao O hd _ _ _ N7 aq=>?_
  obtain ⟨t,hw,ht,hc⟩:=hd
  refine zPK (n - 1) (by omega) O a3 c3 h3 N7 _ λd2 a4 bh c4 i4 h4 N8 au ax ay _ _ _ N9 aw=>?_
  obtain ⟨u,az,a5,a6⟩:=ay
  exact ye t u d d2 ht a5 (by omega) (by omega) N9 _ λe bi a7 he _ _ _=>⟨zV,λbj a8=>hQ _ _ _ _ _ _ _ (by omega) ax ⟨_,.fn hw az,he,by simp only [wA,Ty.cnt,zG];omega⟩⟩
theorem zLr (n:Int) {es:List D} {i:Int} (O:Cu es i) (a:Option Addr) (c:Nat) (h:Int) (N:Nat) (Q:QT [.ag 2,.sl 0,.i,.i])
  (hQ:∀ d' a' ai c' i' h' N',N<=N'->Cu ai i'->WfD 3 d'->Q d' a' ai c' i' h' N'):BCalls prog 36 [.ag 2,.sl 0,.i,.i] [.pb 0 0 0 0,.j n] [.var [.sv a 0 es c,.j i,.j h]] N Q:=by
 refine zBI N n a es c i h Q λE _ N1 a2=>xG N1 _ λx N2 a3 hx _ _ _=>?_
 have i3:WfD 3 x:=⟨_,.int,hx,by decide⟩
 have fn:∀ N3,ACalls prog 55 [.ag 2] [.dg 2 x,.dg 2 x] N3 (λy N4=>N3<=N4->Bel N4 y->zR E [.var [.sv none 0 [] 0,.j 0,.j 0]]/\∀ U,N4<=U->WfD 3 y/\N3<=U):=λN3=>
  ye tInt tInt x x hx hx (by decide) (by decide) N3 _ λy N4 aj hy _ _ _=>⟨zV,λU aa=>⟨⟨_,.fn .int .int,hy,by decide⟩,by omega⟩⟩
 have last:∀ {es:List D} {i:Int} (_:Cu es i) a c h N3,N2<=N3->BCalls prog 24 [.bool,.sl 0,.i,.i] [.pb 0 0 0 0,.j 3] [.var [.sv a 0 es c,.j i,.j h]] N3 (λax ab I ac ak al Y=>N3<=Y->Bel Y (D.sl ab 0 I ac)->Br ax (∀ ae,Y
  <= ae->ACalls prog 55 [.ag 2] [.dg 2 x,.dg 2 x] ae (λam ah=>ae<=ah->Bel ah am->zR E [.var [.sv none 0 [] 0,.j 0,.j 0]]
  /\ ∀ ao,ah<=ao->Q am ab I ac ak al ao)) (zR E [.var [.sv none 0 [] 0,.j 0,.j 0]]/\∀ aq,Y<=aq->Q x ab I ac ak
  al aq)):=λ{es i} O a c h N3 au=>vW O 3 (by omega) a c h N3 _ λb a1 ay c1 i1 h1 N4 aj J _ _=>Br.of (λ_ U aa=>ye tInt tInt x x hx hx (by decide) (by decide) U _ λy N6 az hy _ _ _=>⟨zV,λN7 aw=>hQ _ _ _ _ _ _ _ (by omega) J ⟨_,.fn .int .int,hy,by decide⟩⟩) λ_=>⟨zV,λN7 aw=>hQ _ _ _ _ _ _ _ (by omega) J i3⟩
 refine Br.of (λ_ N3 au=>?_) λ_ N3 au=>last O a c h N3 (by omega)
 exact vW O 2 (by omega) a c h N3 _ λb a1 ay c1 i1 h1 N4 aj J _ _=>Br.of (λ_ U aa=>yf tInt x hx (by decide) U _ λy N6 az hy _ _ _=>⟨zV,λN7 aw=>hQ _ _ _ _ _ _ _ (by omega) J ⟨_,.code .int,hy,by decide⟩⟩) λ_ U aa=>last J a1 c1 h1 U (by omega)
/-- what l9Gen does at this depth: terms of at most S nodes -/
def zJ6 (k S:Nat):Prop:=∀ (t:Ty) (_:Wf t) (_:t.cnt+k<=10) {d:D} (_:t.Is d) {g:List Tg} {I:List D} (_:Ctx g I) (_:g.length+k<=1000) (_:∀ x∈g,x.ty.cnt<=1000) (n:Int) (a0:Option Addr) (c0:Nat) {es:List D} {i:Int} (_:Cu es i) (a:Option Addr) (c:Nat) (h:Int) (N:Nat) (Q:QT [.ag 9,.sl 0,.i,.i])
    (_:∀ d' O J U i' Y N',N<=N'->Cu J i'->Some S d'->Q d' O J U i' Y N'),
    BCalls prog 37 [.ag 9,.sl 0,.i,.i] [.pb 0 0 0 0,.sv a0 4 I c0,.dg 2 d,.j n,.j k] [.var [.sv a 0 es c,.j i,.j h]] N Q
theorem zJI {m:Nat} {x y:D} (I:Some m x) (J:Some m y):∀ d∈[x,y],Some m d:=λd hd=>by
 simp only [oF,od,nl] at hd
 rcases hd with rfl | rfl<;>assumption
theorem zBs {m:Nat} {x:D} (I:Some m x):∀ d∈[x],Some m d:=λd hd=>by rw [oY] at hd;subst hd;exact I
theorem vi {l:List ByteArray} {s:ByteArray} (h:s∈l) (I:(l.all λs=>decide (s.size<=1000))=true):s.size<=1000:=by
 have:=oZ.1 I s h
 simpa using this
theorem zRi {k S:Nat} (hk:k<=5) (hS:S<=100000000) (hG:zJ6 k S) {t:Ty} {d:D} (hd:t.Is d) {g:List Tg} {U:List D} (am:Ctx g U) (hg:g.length+k<=1000) (ao:∀ x∈g,x.ty.cnt<=1000) (n:Int) (a0:Option Addr) (c0:Nat) {es:List D} {i:Int} (ac:Cu es i) (a:Option Addr) (c:Nat) (h:Int) (N:Nat) (Q:QT [.ag 9,.sl 0,.i,.i])
  (hQ:∀ d' a' a5 c' i' h' N',N<=N'->Cu a5 i'->Some (3+2*S) d'->Q d' a' a5 c' i' h' N') :
  BCalls prog 63 [.ag 9,.sl 0,.i,.i] [.pb 0 0 0 0,.sv a0 4 U c0,.dg 2 d,.j n,.j ((k+1:Nat):Int)] [.var [.sv a 0 es c,.j i,.j h]] N Q:=by
 obtain ⟨kt,l,rfl⟩:∃ k l,t=Ty.mk k l:=by cases t;exact ⟨_,_,rfl⟩
 obtain ⟨ta,bw,tc,rfl,_,_⟩:=Ty.is_mk.1 hd
 have ek:IntKind.i64.wrap (((k+1:Nat):Int) - 1)=(k:Int):=by rw [i64_in _ (by omega)];omega
 have ci:tInt.cnt+k<=10:=by have:tInt.cnt=1:=rfl;omega
 have cb:tBool.cnt+k<=10:=by have:tBool.cnt=1:=rfl;omega
 refine zBh N a0 U c0 _ n _ a es c i h Q λE _ _ _ N1 bz=>xG N1 _ λx N2 b1 hx _ _ _ N3 b2=>xO N3 _ λy N4 b3 hy _ _ _=>⟨kt,rfl,?_⟩
 rw [ek]
 have bin:∀ {u:Ty} {z:D} (_:Wf u) (_:u.cnt+k<=10) (_:u.Is z) {s:ByteArray} (_:s.size<=1000) {es:List D} {i:Int} (_:Cu es i) a c h N5,N4<=N5->BCalls prog 37 [.ag 9,.sl 0,.i,.i] [.pb 0 0 0 0,.sv a0 4 U c0,.dg 2 z,.j n,.j k] [.var [.sv a 0 es c,.j i,.j h]] N5 (λae a6 ak a7 bi bj N8=>N5<=N8->Bel N8 ae->Bel N8 (D.sl a6 0 ak a7)->∀ Y,N8<=Y->BCalls prog 37 [.ag 9,.sl 0,.i,.i] [.pb 0 0 0 0,.sv
   a0 4 U c0,.dg 2 z,.j n,.j k] [Bx.var [.sv a6 0 ak a7,.j bi,.j bj]] Y (λah a8 al a9 bm
   bp J=>Y<=J->Bel J ah->Bel J (D.sl a8 0 al a9)->(2=([ae,ah]).length/\2=2)/\∀ ai,ApA ai [ae,ah]->∀ O,J<=O->ux
   O [ai]->ACalls prog 90 [.ag 9] [.str s,.sv ai 9 [ae,ah] 2] O (λaq au=>O<=au->Off [ai] aq/\(Bel au aq->zR E [.var [.sv none
   0 [] 0,.j 0,.j 0]]/\∀ ba,au<=ba->Q aq a8 al a9 bm bp ba)))):=λ{u z} hw hc hz {s} hs {es i} ac a c h N5 bb=>
  hG _ hw hc hz am hg ao n a0 c0 ac a c h N5 _ λx2 a2 aw c2 i2 h2 N6 bc I ax _ _ _ N7 aj=>hG _ hw hc hz am hg ao n a0 c0 I a2 c2 h2 N7 _ λx3 a3 b4 c3 i3 h3 N8 ay bq bt _ _ _=>⟨⟨rfl,rfl⟩,λa4 _ Y az aa=>zTD (by omega) (by omega) (zJI ax bt) (by simp) a4 2 Y _ λw J bg hw ho _=>⟨uD aa ho,λ_=>⟨zV,λO bh=>hQ _ _ _ _ _ _ _ (by omega) bq (hw.mono (by simp))⟩⟩⟩
 refine Br.of (λ_ N5 bb=>?_) λ_ N5 bb=>?_
 ·exact uV (l:=[bytes [43],bytes [42],bytes [45],bytes [43]]) ac (by decide) (by decide) a c h 4 4 N5 _ λs a1 bv c1 i1 h1 N6 bc ab hs _ _ _ N7 aj=>bin .int ci hx (vi hs (by decide)) ab a1 c1 h1 N7 (by omega)
 ·refine zw ac 4 (by omega) a c h N5 _ λr a1 bv c1 i1 h1 N6 bc ab _ _ _ _ _=>Br.of (λ_ N7 aj=>?_) λ_=>Br.of (λ_ N7 aj=>?_) λ_ N7 aj=>?_
  ·exact hG _ .bool cb hy am hg ao n a0 c0 ab a1 c1 h1 N7 _ λx2 a2 aw c2 i2 h2 N8 ay I ax _ _ _=>⟨⟨rfl,rfl⟩,λa4 _ Y az aa=>zTD (by decide) (by omega) (zBs ax) (by simp) a4 1 Y _ λw J bg hw ho _=>⟨uD aa ho,λ_=>⟨zV,λO bh=>hQ _ _ _ _ _ _ _ (by omega) I (hw.mono (by simp;omega))⟩⟩⟩
  ·exact uV (l:=[bytes [38],bytes [124]]) ab (by decide) (by decide) a1 c1 h1 2 2 N7 _ λs a2 aw c2 i2 h2 N8 ay I hs _ _ _ Y az=>bin .bool cb hy (vi hs (by decide)) I a2 c2 h2 Y (by omega)
  ·exact uV (l:=[bytes [61],bytes [60]]) ab (by decide) (by decide) a1 c1 h1 2 2 N7 _ λs a2 aw c2 i2 h2 N8 ay I hs _ _ _ Y az=>bin .int ci hx (vi hs (by decide)) I a2 c2 h2 Y (by omega)
theorem zRz {t:Ty} (O:Wf t):∀ {d:D} (_:t.Is d) (N:Nat) (Q:QT [.i]) (_:∀ r N',N<=N'->Q r N'),ACalls prog 88 [.i] [.dg 2 d] N Q:=by
 have z9:∀ {k:Int} {l:List Ty} {d:D} (_:(Ty.mk k l).Is d) (_:k≠4) (N:Nat) (Q:QT [.i]) (_:∀ r N',N<=N'->Q r N'),ACalls prog 88 [.i] [.dg 2 d] N Q:=λ{k l d} hd U N Q I=>by
  obtain ⟨b,fs,c,rfl,_,_⟩:=Ty.is_mk.1 hd
  exact pp N _ Q λ_=>⟨k,rfl,Br.beq (λh=>absurd h U) λ_ N4 J=>I _ _ J⟩
 induction O with
 | int=>exact λhd=>z9 hd (by decide)
 | bool=>exact λhd=>z9 hd (by decide)
 | fn _ _ _ _=>exact λhd=>z9 hd (by decide)
 | @code u _ Y=>
   intro d hd N Q I
   obtain ⟨b,fs,c,rfl,_,d1,_,rfl,h3,rfl⟩:=Ty.is_mk.1 hd
   exact pp N _ Q λ_=>⟨4,rfl,Br.beq (λ_=>⟨_,_,_,rfl,⟨by simp,by simp⟩,λN1 aa=>Y h3 N1 _ λr N2 ab _ N3 ac=>I _ _ (by omega)⟩) λh=>absurd rfl h⟩
theorem zNK {g:List Tg} {m M:Nat} (O:g.length+m<=M) (I:∀ x∈g,x.ty.cnt<=1000) (n:Int):(uy g n).length+m<=M/\∀ x∈uy g n,x.ty.cnt<=1000:=by
 have h:=zAT g n g 0
 exact ⟨by have U:=h.2;show (wi g n g 0).length+m<=M;omega,λx J=>I x (h.1 x J)⟩
theorem zFs {g:List Tg} {k:Nat} (O:g.length+(k+1)<=1000) (I:∀ x∈g,x.ty.cnt<=1000) {y:Tg} (J:y.ty.cnt<=1000):(g++[y]).length+k<=1000/\∀ x∈g++[y],x.ty.cnt<=1000:=by
 refine ⟨by simp;omega,λx hx=>?_⟩
 rcases oJ.1 hx with hx | hx
 ·exact I x hx
 ·rw [oY] at hx;subst hx;exact J
theorem zS4 {k S:Nat} (hk:k<=5) (cq:1600<=S) (hS:S<=100000000) (hG:zJ6 k S) {t:Ty} (hw:Wf t) (hc:t.cnt+(k+1)<=10) {d:D} (hd:t.Is d) {g:List Tg} {bp:List D} (J:Ctx g bp) (hg:g.length+(k+1)<=1000) (I:∀ x∈g,x.ty.cnt<=1000) (n:Int) (a0:Option Addr) (c0:Nat) {es:List D} {i:Int} (bq:Cu es i) (a:Option Addr) (c:Nat) (h:Int) (N:Nat) (Q:QT [.ag 9,.sl 0,.i,.i])
  (hQ:∀ d' a' bz c' i' h' N',N<=N'->Cu bz i'->Some (5*S) d'->Q d' a' bz c' i' h' N') :
  BCalls prog 62 [.ag 9,.sl 0,.i,.i] [.pb 0 0 0 0,.sv a0 4 bp c0,.dg 2 d,.j n,.j ((k+1:Nat):Int)] [.var [.sv a 0 es c,.j i,.j h]] N Q:=by
 have ek:IntKind.i64.wrap (((k+1:Nat):Int) - 1)=(k:Int):=by rw [i64_in _ (by omega)];omega
 have cb:tBool.cnt+k<=10:=by have:tBool.cnt=1:=rfl;omega
 have cc:(yd t).cnt+k<=10:=by have:(yd t).cnt=1+(t.cnt+0):=rfl;omega
 have aa:g.length+k<=1000:=by omega
 have e3:∀ x y z:D,∀ {m:Nat},Some m x->Some m y->Some m z->∀ d∈[x,y,z],Some m d:=λx y z m hx hy hz d hd=>by
  simp only [oF,od,nl] at hd
  rcases hd with rfl | rfl | rfl<;>assumption
 refine zCk N a0 bp c0 d n _ a es c i h Q λE _ _ _ N1 cw=>uV (l:=[bytes [120],bytes [121],bytes [122]]) bq (by decide) (by decide) a c h 3 3 N1 _ λs a1 cx c1 i1 h1 N2 cy b7 hs _ _ _ N3 cz=>zw b7 5 (by omega) a1 c1 h1 N3 _ λr a2 b8 c2 i2 h2 N4 c8 al _ _ _ _ _=>?_
 have hs:=vi hs (by decide)
 rw [ek]
 have ax:∀ O,N4<=O->BCalls prog 61 [.ag 9,.sl 0,.i,.i] [.pb 0 0 0 0,.dg 2 d,.j n] [.var [.sv a2 0 b8 c2,.j i2,.j h2]] O (λx a es c b9 ca N6=>O<=N6->Bel N6 x->Bel N6 (D.sl a 0 es c)->zR E [.var [.sv none 0 [] 0,.j 0,.j 0]]/\∀ U,N6<=U->Q x a es c b9 ca U):=λO ab=>
  zIG hw (by omega) hd n al a2 c2 h2 O _ λx a3 ba c3 i3 h3 N6 ay am hx _ _ _=>⟨zV,λU ao=>hQ _ _ _ _ _ _ _ (by omega) am (hx.mono (by omega))⟩
 have nod:∀ (kk:Int) (_:bn kk=0) {x:D} (_:Some S x) {es:List D} {i:Int} (_:Cu es i) a c h O,N4<=O->(1=([x]).length/\1=1)/\∀ bb,ApA bb [x]->∀ N6,O<=N6->ux N6 [bb]->ACalls prog 67 [.ag 9] [.j kk,.sv bb 9 [x] 1] N6 (λbt U=>N6<=U->Off [bb] bt/\(Bel U bt->zR E [.var [.sv none 0 [] 0,.j 0,.j 0]]/\∀ N8,U<=N8->Q bt a es c i h N8)):=λkk cd {x} hx {es i} bq a c h O ab=>
  ⟨⟨rfl,rfl⟩,λa4 _ N9 az ac=>zD5 kk (by omega) (zBs hx) (by simp) a4 1 N9 _ (λw bc aq hw ho _=>⟨uD ac ho,λ_=>⟨zV,λae au=>hQ _ _ _ _ _ _ _ (by omega) bq (hw.mono (by simp;omega))⟩⟩) cd⟩
 refine Br.of (λ_ O ab=>?_) λ_=>Br.of (λ_ O ab=>?_) λ_=>Br.of (λ_ O ab=>?_) λ_=>Br.of (λ_ O ab=>?_) λ_=>Br.of (λ_ O ab=>?_) λ_ O ab=>ax O ab
 ·refine xO O _ λy N6 ay hy _ _ _ U ao=>hG _ .bool cb hy J aa I n a0 c0 al a2 c2 h2 U _ λx1 a3 ba c3 i3 h3 N8 bg am ce _ _ _ N9 az=>hG _ hw (by omega) hd J aa I n a0 c0 am a3 c3 h3 N9 _ λx2 a4 bh c4 i4 h4 bc aq Y cf _ _ _ ae au=>hG _ hw (by omega) hd J aa I n a0 c0 Y a4 c4 h4 ae _ λx3 a5 b1 c5 i5 h5 ah ai cg ch _ _ _=>⟨⟨rfl,rfl⟩,λa6 _ a9 bi ac=>?_⟩
  exact zD5 5 (by omega) (e3 x1 x2 x3 ce cf ch) (by simp) a6 3 a9 _ λw b2 bj hw ho _=>⟨uD ac ho,λ_=>⟨zV,λbv bm=>hQ _ _ _ _ _ _ _ (by omega) cg (hw.mono (by simp;omega))⟩⟩
 ·refine zLr n al a2 c2 h2 O _ λy a3 ba c3 i3 h3 N6 ay am hy _ _ _ U ao=>?_
  obtain ⟨u,hu,aw,cj⟩:=hy
  refine hG _ hu (by omega) aw J aa I n a0 c0 am a3 c3 h3 U _ λx6 a4 bh c4 i4 h4 N8 bg Y ck _ _ _ N9 az=>?_
  refine yC J (by omega) a0 c0 (s:=s) (by omega) aw n N9 _ λa5 b1 c5 bc aq aj _ _ ae au=>?_
  obtain ⟨g2,g3⟩:=zFs hg I (y:=⟨s,u,n⟩) (by show u.cnt<=1000;omega)
  exact hG _ hw (by omega) hd aj g2 g3 n a5 c5 Y a4 c4 h4 ae _ λx7 a6 cm c6 i6 h6 ah ai bw cn _ _ _ a9 bi=>zSS (by omega) (by omega) ck cn a9 _ λx8 b2 bj co _ _=>⟨zV,λbv bm=>hQ _ _ _ _ _ _ _ (by omega) bw (co.mono (by omega))⟩
 ·refine zLr n al a2 c2 h2 O _ λy a3 ba c3 i3 h3 N6 ay am hy _ _ _ U ao=>?_
  obtain ⟨u,hu,aw,cj⟩:=hy
  refine yC J (by omega) a0 c0 (s:=s) (by omega) aw n U _ λa5 b1 c5 N8 bg aj _ _ N9 az=>?_
  obtain ⟨g2,g3⟩:=zFs hg I (y:=⟨s,u,n⟩) (by show u.cnt<=1000;omega)
  refine hG _ hw (by omega) hd aj g2 g3 n a5 c5 am a3 c3 h3 N9 _ λc9 a6 cm c6 i6 h6 bc aq bw b3 _ _ _ ae au=>zPc (by omega) aw (by omega) (by omega) b3 ae _ λda ah ai b4 _ _ a9 bi=>?_
  exact hG _ hu (by omega) aw J aa I n a0 c0 bw a6 c6 h6 a9 _ λdb a7 de c7 i7 h7 b2 bj cp b5 _ _ _=>⟨⟨rfl,rfl⟩,λa8 _ bv bm ac=>zD5 7 (m:=5+2*S) (by omega) (zJI (b4.mono (by omega)) (b5.mono (by omega))) (by simp) a8 2 bv _ λw df cr hw ho _=>⟨uD ac ho,λ_=>⟨zV,λdh ct=>hQ _ _ _ _ _ _ _ (by omega) cp (hw.mono (by simp;omega))⟩⟩⟩
 ·refine zRz hw hd O _ λr2 N6 ay _=>Br.of (λ_ U ao=>?_) λ_=>Br.of (λ_ U ao=>?_) λ_ U ao=>ax U (by omega)
  ·refine uk J (by omega) (λx hx=>oN (I x hx) (by omega)) a0 c0 n U _ λa3 ba c3 N8 bg aj _ _ N9 az=>?_
   obtain ⟨g2,g3⟩:=zNK aa I n
   refine yf t d hd (by omega) N9 _ λy bc aq hy _ _ _ ae au=>?_
   exact hG _ (.code hw) cc hy aj g2 g3 n a3 c3 al a2 c2 h2 ae _ λb6 a4 bh c4 i4 h4 ah ai Y ak _ _ _=>nod 12 rfl ak Y a4 c4 h4 ah (by omega)
  ·refine yf t d hd (by omega) U _ λy N8 bg hy _ _ _ N9 az=>?_
   exact hG _ (.code hw) cc hy J aa I _ a0 c0 al a2 c2 h2 N9 _ λb6 a4 bh c4 i4 h4 ah ai Y ak _ _ _=>nod 11 rfl ak Y a4 c4 h4 ah (by omega)
 ·refine yf t d hd (by omega) O _ λy N6 ay hy _ _ _ U ao=>?_
  exact hG _ (.code hw) cc hy J aa I _ a0 c0 al a2 c2 h2 U _ λb6 a4 bh c4 i4 h4 ah ai Y ak _ _ _=>nod 11 rfl ak Y a4 c4 h4 ah (by omega)
theorem zQH (k:Nat) (hk:k=1):zJ6 k 1600:=by
 intro t hw hc d hd g J Y hg ac n a0 c0 es i I a c h N Q hQ
 refine sm N a0 J c0 d n _ a es c i h Q λE _ _ _ N1 ae=>?_
 have L5:∀ {es:List D} {i:Int} (_:Cu es i) a c h N',N<=N'->xW E Q N a0 J c0 n k a es c i h d 0 (bytes []) (bytes []) 0 0 none [] 0 0 none [] 0 none [] 0 N':=λ{es i} I a c h N' ah=>by
  refine r6 _ _ _ _ _ _ _ _ _ _ _ _ _ _ _ _ _ _ _ _ _ _ _ _ _ _ _ _ _ _ (Br.dec (λ_ N2 aa=>?_) λh=>by omega)
  exact zIG hw (by omega) hd n I a c h N2 _ λx a3 ai c3 i3 h3 N6 aj ab hx _ _ _=>⟨zV,λN7 ak=>hQ _ _ _ _ _ _ _ (by omega) ab (hx.mono (by omega))⟩
 exact vW I 3 (by omega) a c h N1 _ λb a1 al c1 i1 h1 N2 aa O _ _=>Br.of (λ_ N3 am=>zMW Y (by omega) hd n a0 c0 O a1 c1 h1 N3 _ λx b2 a2 ao c2 i2 h2 N4 aq U hx _ _ _=>Br.of (λ_=>⟨zV,λN5 au=>hQ _ _ _ _ _ _ _ (by omega) U (hx.mono (by omega))⟩) λ_=>L5 U a2 c2 h2 N4 (by omega)) λ_=>L5 O a1 c1 h1 N2 (by omega)
theorem zI6 {k S:Nat} (hk:k<=5) (ax:1600<=S) (hS:S<=100000000) (hG:zJ6 k S):zJ6 (k+1) (5*S):=by
 intro t hw hc d hd g ai aa hg ac n a0 c0 es i U a c h N Q hQ
 have ek:IntKind.i64.wrap (((k+1:Nat):Int) - 1)=(k:Int):=by rw [i64_in _ (by omega)];omega
 have au:g.length+k<=1000:=by omega
 refine sm N a0 ai c0 d n _ a es c i h Q λE _ _ _ N1 b3=>?_
 have ay:∀ {u:Ty} (_:t=yd u) {es:List D} {i:Int} (_:Cu es i) a c h N',N<=N'->wI E Q N a0 ai c0 n ((k+1:Nat):Int) a es c i h d 0 (bytes []) (bytes []) 0 0 none [] 0 0 none [] 0 none [] 0 N':=λ{u} hu {es i} U a c h N' bm=>by
  subst hu
  obtain ⟨b,fs,kk,rfl,az,d1,_,rfl,h3,rfl⟩:=Ty.is_mk.1 hd
  have a7:(yd u).cnt=1+(u.cnt+0):=rfl
  have bp:Wf u:=by cases hw;assumption
  refine zCb _ _ _ _ _ _ _ _ _ _ _ _ _ _ _ _ _ _ _ _ _ _ _ _ _ _ _ _ _ _ ⟨_,_,_,rfl,⟨by simp,by simp⟩,λN2 aw=>?_⟩
  rw [ek]
  exact hG _ bp (by omega) h3 aa au ac _ a0 c0 U a c h N2 _ λx a3 aj c3 i3 h3 N3 a8 I hx _ _ _=>⟨⟨rfl,rfl⟩,λa4 _ N4 ab ae=>zD5 10 (by omega) (zBs hx) (by simp) a4 1 N4 _ λw N5 ak hw ho _=>⟨uD ae ho,λ_=>⟨zV,λN6 al=>hQ _ _ _ _ _ _ _ (by omega) I (hw.mono (by simp;omega))⟩⟩⟩
 have L5:∀ {es:List D} {i:Int} (_:Cu es i) a c h N',N<=N'->xW E Q N a0 ai c0 n ((k+1:Nat):Int) a es c i h d 0 (bytes []) (bytes []) 0 0 none [] 0 0 none [] 0 none [] 0 N':=λ{es i} U a c h N' bm=>by
  have base:∀ {es:List D} {i:Int} (_:Cu es i) a c h N9,N<=N9->BCalls prog 63 [.ag 9,.sl 0,.i,.i] [.pb 0 0 0 0,.sv a0 4 ai c0,.dg 2 d,.j n,.j ((k+1:Nat):Int)] [.var [.sv a 0 es c,.j i,.j h]] N9 (λa9 ba am bb bq bt J=>N9<=J->Bel J a9->Bel J (D.sl ba 0 am bb)->zR E [.var [.sv none 0 [] 0,.j 0,.j 0]]/\∀ ah,J<=ah->Q a9 ba am bb bq bt ah):=λ{es i} U a c h N9 bc=>
   zRi hk hS hG hd aa au ac n a0 c0 U a c h N9 _ λx a3 aj c3 i3 h3 J ao I hx _ _ _=>⟨zV,λah aq=>hQ _ _ _ _ _ _ _ (by omega) I (hx.mono (by omega))⟩
  refine r6 _ _ _ _ _ _ _ _ _ _ _ _ _ _ _ _ _ _ _ _ _ _ _ _ _ _ _ _ _ _ (Br.of (λ_ N2 aw=>?_) λ_ N2 aw=>vW U 3 (by omega) a c h N2 _ λb a1 bv c1 i1 h1 N3 a8 O _ _=>Br.of (λ_ N4 ab=>?_) λ_=>?_)
  ·exact zIG hw (by omega) hd n U a c h N2 _ λx a3 aj c3 i3 h3 N6 al I hx _ _ _=>⟨zV,λN7 bg=>hQ _ _ _ _ _ _ _ (by omega) I (hx.mono (by omega))⟩
  ·exact zS4 hk ax hS hG hw hc hd aa hg ac n a0 c0 O a1 c1 h1 N4 _ λx a3 aj c3 i3 h3 N5 ak I hx _ _ _=>⟨zV,λN6 al=>hQ _ _ _ _ _ _ _ (by omega) I hx⟩
  ·cases hw with
   | int=>
     obtain ⟨b,fs,kk,rfl,_,_⟩:=Ty.is_mk.1 hd
     exact ⟨1,rfl,Br.of (λ_ N4 ab=>base O a1 c1 h1 N4 (by omega)) λh=>by cases h⟩
   | bool=>
     obtain ⟨b,fs,kk,rfl,_,_⟩:=Ty.is_mk.1 hd
     exact ⟨2,rfl,Br.beq (λh=>absurd h (by decide)) λ_=>Br.of (λ_ N4 ab=>base O a1 c1 h1 N4 (by omega)) λh=>by cases h⟩
   | @fn u v hu hv=>
     obtain ⟨b,fs,kk,rfl,az,d1,_,rfl,h3,d2,_,rfl,h4,rfl⟩:=Ty.is_mk.1 hd
     have a7:(wA u v).cnt=1+(u.cnt+(v.cnt+0)):=rfl
     refine ⟨3,rfl,Br.beq (λh=>absurd h (by decide)) λ_=>Br.beq (λh=>absurd h (by decide)) λ_=>Br.beq (λ_ N4 ab=>?_) λh=>absurd rfl h⟩
     refine uV (l:=[bytes [120],bytes [121]]) O (by decide) (by decide) a1 c1 h1 2 2 N4 _ λs a2 bh c2 i2 h2 N5 ak Y hs _ _ _=>⟨_,_,_,rfl,⟨by simp,by simp⟩,_,_,_,rfl,⟨by simp,by simp⟩,_,_,_,rfl,⟨by simp,by simp⟩,λN6 al=>?_⟩
     have hs:=vi hs (by decide)
     rw [ek]
     refine yC aa (by omega) a0 c0 (s:=s) (by omega) h3 n N6 _ λa5 b4 c5 N7 bg bi _ _ N8 bw=>?_
     obtain ⟨g2,g3⟩:=zFs hg ac (y:=⟨s,u,n⟩) (by show u.cnt<=1000;omega)
     exact hG _ hv (by omega) h4 bi g2 g3 n a5 c5 Y a2 c2 h2 N8 _ λx a6 b5 c6 i6 h6 N9 bc bz hx _ _ _ J ao=>zPc (by omega) h3 (by omega) (by omega) hx J _ λy ah aq hy _ _=>⟨zV,λb1 bj=>hQ _ _ _ _ _ _ _ (by omega) bz (hy.mono (by omega))⟩
   | @code u hu=>
     obtain ⟨b,fs,kk,rfl,az,d1,_,rfl,h3,rfl⟩:=Ty.is_mk.1 hd
     have a7:(yd u).cnt=1+(u.cnt+0):=rfl
     refine ⟨4,rfl,Br.beq (λh=>absurd h (by decide)) λ_=>Br.beq (λh=>absurd h (by decide)) λ_=>Br.beq (λh=>absurd h (by decide)) λ_=>⟨_,_,_,rfl,⟨by simp,by simp⟩,λN4 ab=>?_⟩⟩
     refine tg u _ h3 N4 _ λN5 ak _=>Br.of (λ_ N6 al=>?_) λ_=>ay rfl O a1 c1 h1 N5 (by omega)
     refine vW O 4 (by omega) a1 c1 h1 N6 _ λb2 a2 bh c2 i2 h2 N7 bg Y _ _=>Br.of (λ_=>⟨_,_,_,rfl,⟨by simp,by simp⟩,λN8 bw=>?_⟩) λ_=>ay rfl Y a2 c2 h2 N7 (by omega)
     rw [ek]
     exact hG _ hu (by omega) h3 aa au ac n a0 c0 Y a2 c2 h2 N8 _ λx a3 aj c3 i3 h3 N9 bc I hx _ _ _=>⟨⟨rfl,rfl⟩,λa4 _ J ao ae=>zD5 13 (by omega) (zBs hx) (by simp) a4 1 J _ λw ah aq hw ho _=>⟨uD ae ho,λ_=>⟨zV,λb1 bj=>hQ _ _ _ _ _ _ _ (by omega) I (hw.mono (by simp;omega))⟩⟩⟩
 exact vW U 3 (by omega) a c h N1 _ λb a1 bv c1 i1 h1 N2 aw O _ _=>Br.of (λ_ N3 a8=>zMW aa (by omega) hd n a0 c0 O a1 c1 h1 N3 _ λx b2 a2 bh c2 i2 h2 N4 ab Y hx _ _ _=>Br.of (λ_=>⟨zV,λN5 ak=>hQ _ _ _ _ _ _ _ (by omega) Y (hx.mono (by omega))⟩) λ_=>L5 Y a2 c2 h2 N4 (by omega)) λ_=>L5 O a1 c1 h1 N2 (by omega)
/-- terms of at most this depth -/
theorem zRx {k:Nat} (hk:1<=k) (ah:k<=5):zJ6 k 1000000:=by
 have up:∀ {k S T:Nat},zJ6 k S->S<=T->zJ6 k T:=λh U=>λt hw hc {d} hd {g ai} Y hg aa n a0 c0 {es i} ab a c h' N Q hQ=>h t hw hc hd Y hg aa n a0 c0 ab a c h' N Q λd' a' ac c' i' ae N' I J O=>hQ d' a' ac c' i' ae N' I J (O.mono U)
 have I:zJ6 1 1600:=zQH 1 (by omega)
 have J:zJ6 2 8000:=zI6 (by omega) (by omega) (by omega) I
 have O:zJ6 3 40000:=zI6 (by omega) (by omega) (by omega) J
 have h4:zJ6 4 200000:=zI6 (by omega) (by omega) (by omega) O
 have h5:zJ6 5 1000000:=zI6 (by omega) (by omega) (by omega) h4
 rcases (by omega:k=1\/k=2\/k=3\/k=4\/k=5) with rfl | rfl | rfl | rfl | rfl
 ·exact up (k:=1) (S:=1600) (T:=1000000) I (by omega)
 ·exact up (k:=2) (S:=8000) (T:=1000000) J (by omega)
 ·exact up (k:=3) (S:=40000) (T:=1000000) O (by omega)
 ·exact up (k:=4) (S:=200000) (T:=1000000) h4 (by omega)
 ·exact up (k:=5) (S:=1000000) (T:=1000000) h5 (by omega)
end Go.Proofs.YtnmnahkkcfghjaaGreat
set_option maxRecDepth 100000
namespace Go.Proofs.YtnmnahkkcfghjaaGreat
open Go Go.Proofs Go.Proofs.Tryz Go.IntWalk
theorem zOE {l:List ByteArray} {s:ByteArray} (h:s∈l) (I:(l.all λs=>decide (1<=s.size/\s.size<=104))=true):1<=s.size/\s.size<=104:=by
 have:=oZ.1 I s h
 simpa using this
theorem zNC {es:List D} {i:Int} (J:Cu es i) (a:Option Addr) (c:Nat) (h:Int) (N:Nat) (Q:QT [.ag 9,.sl 0,.i,.i])
  (U:∀ d' Y I c' i' h' N',N<=N'->Cu I i'->SomB 2100000 d'->Q d' Y I c' i' h' N'):BCalls prog 51 [.ag 9,.sl 0,.i,.i] [.pb 0 0 0 0] [.var [.sv a 0 es c,.j i,.j h]] N Q:=by
 refine pu N a es c i h Q λE _ N1 aa=>uV (l:=[_,_,_,_,_,_,_,_,_,_,_]) J (by simp) (by simp) a c h 11 11 N1 _ λs a1 ab c1 i1 h1 N2 ac O hs _ _ _ N3 ae=>?_
 have hs:=zOE hs (by decide)
 exact zQP hs.1 hs.2 N3 _ λd b N4 ah hd _ _=>⟨zV,λN5 ai=>U _ _ _ _ _ _ _ (by omega) O hd⟩
theorem zSu {l:List D} (h:∀ d∈l,WfD 5 d) {j:Nat} (I:j<l.length):WfD 5 (l.getD j default):=h _ (zGN I)
theorem zI8 {es:List D} {i:Int} (ac:Cu es i) (a:Option Addr) (c:Nat) (h:Int) (N:Nat) (Q:QT [.ag 9,.sl 0,.i,.i])
  (hQ:∀ d' a' Y c' i' h' N',N<=N'->Cu Y i'->SomB 2100000 d'->Q d' a' Y c' i' h' N'):BCalls prog 26 [.ag 9,.sl 0,.i,.i] [.pb 0 0 0 0] [.var [.sv a 0 es c,.j i,.j h]] N Q:=by
 refine pO N a es c i h Q λE _ N1 b2=>vW ac 4 (by omega) a c h N1 _ λb a1 b3 c1 i1 h1 N2 b4 aa _ _=>Br.of (λ_ N3 ae=>zNC aa a1 c1 h1 N3 _ λd a2 ah c2 i2 h2 N4 ai O hd _ _ _=>⟨zV,λN5 aj=>hQ _ _ _ _ _ _ _ (by omega) O hd⟩) λ_ N3 ae=>?_
 have cd:∀ {t:Ty} {d:D} (_:t.Is d) (_:t.cnt<=100) (N:Nat) (Q:QT [.ag 2]) (_:∀ d' N',N<=N'->(yd t).Is d'->Q d' N'),ACalls prog 54 [.ag 2] [.dg 2 d] N Q:=λ{t d} ht hc N Q hQ=>yf t d ht (by omega) N _ λe N' h he _=>hQ e N' h he
 have ii:(wA tInt tInt).cnt<=100:=by decide
 refine xG N3 _ λJ N4 ai I _ _ _ N5 aj=>xO N5 _ λx2 N6 b5 k2 _ _ _ N7 b6=>cd I (by decide) N7 _ λx3 N8 b7 k3 _ _ N9 b8=>ye tInt tInt J J I I (by decide) (by decide) N9 _ λx4 b9 a6 k4 _ _ _ ak a7=>cd k4 ii ak _ λx5 ca a8 k5 _ _ al a9=>ye tInt tInt J J I I (by decide) (by decide) al _ λx6 cc ba k6 _ _ _ am bb=>cd I (by decide) am _ λx7 ce bc k7 _ _ ao bg=>cd k7 (by decide) ao _ λx8 cf bh k8 _ _ aq bi=>cd I (by decide) aq _ λx9 cg bj k9 _ _ au bm=>?_
 refine zw aa 8 (by omega) a1 c1 h1 au _ λr a2 ah c2 i2 h2 ch bp O r0 r8 _ _ _=>?_
 have r8:=r8 (by omega)
 have ab:∀ d∈[J,x2,x3,x5,x6,x8,J,x9],WfD 5 d:=λd hd=>by
  simp only [oF,od,nl] at hd
  rcases hd with rfl | rfl | rfl | rfl | rfl | rfl | rfl | rfl
  ·exact ⟨_,.int,I,by decide⟩
  ·exact ⟨_,.bool,k2,by decide⟩
  ·exact ⟨_,.code .int,k3,by decide⟩
  ·exact ⟨_,.code (.fn .int .int),k5,by decide⟩
  ·exact ⟨_,.fn .int .int,k6,by decide⟩
  ·exact ⟨_,.code (.code .int),k8,by decide⟩
  ·exact ⟨_,.int,I,by decide⟩
  ·exact ⟨_,.code .int,k9,by decide⟩
 have U:0+r.toNat<[J,x2,x3,x5,x6,x8,J,x9].length:=by simp;omega
 refine ⟨⟨r0,r8,U⟩,U,λaw bq=>zw O 3 (by omega) a2 c2 h2 aw _ λq a3 cj c3 i3 h3 ck bt ax q0 q3 _ _ _=>⟨⟨rfl,rfl⟩,λa4 cm bv _ ay bw=>?_⟩⟩
 have q3:=q3 (by omega)
 obtain ⟨t,hw,ht,cn⟩:=zSu ab U
 have e:IntKind.i64.wrap (3+q)=((3+q).toNat:Int):=by rw [i64_in _ (by omega)];omega
 rw [e]
 exact zRx (k:=(3+q).toNat) (by omega) (by omega) t hw (by omega) ht (g:=[]) ⟨by simp,rfl⟩ (by simp;omega) (by simp) 0 a4 0 ax a3 c3 h3 ay _ λd a5 co c5 i5 h5 cp bz az hd _ _ _=>⟨zV,λcq b1=>hQ _ _ _ _ _ _ _ (by omega) az ((hd.b (by omega)).mono (by omega))⟩
end Go.Proofs.YtnmnahkkcfghjaaGreat
set_option maxRecDepth 100000
namespace Go.Proofs.YtnmnahkkcfghjaaGreat
open Go Go.Proofs Go.Proofs.Tryz Go.IntWalk
/-- some context of few typings of small types -/
def zQw (es:List D):Prop:=∃ g:List Tg,Ctx g es/\g.length<=13/\∀ x∈g,x.ty.cnt<=3
theorem zOf {es:List D} {i:Int} (I:Cu es i) (a:Option Addr) (c:Nat) (h:Int) (N:Nat) (Q:QT [.sl 4,.sl 0,.i,.i])
  (hQ:∀ a1 e1 c1 a' aj c' i' h' N',N<=N'->Cu aj i'->zQw e1->Q a1 e1 c1 a' aj c' i' h' N'):BCalls prog 30 [.sl 4,.sl 0,.i,.i] [.pb 0 0 0 0] [.var [.sv a 0 es c,.j i,.j h]] N Q:=by
 refine zBX N a es c i h Q λE _ N1 ba=>zw I 5 (by omega) a c h N1 _ λn a1 bb c1 i1 h1 N2 bc aw n0 n5 _ _ _ N3 bg=>vW aw 16 (by omega) a1 c1 h1 N3 _ λb a2 bh c2 i2 h2 N4 bi ak _ _=>?_
 have n5:=n5 (by omega)
 have ac:∀ (n:Int) (g:List Tg) (r:List D) (q:Nat) {es:List D} {i:Int} (_:Cu es i) a c h N',N<=N'->All2 Tg.Is g r->g.length<=13->(∀ x∈g,x.ty.cnt<=3)->(0<n->0<g.length)->yj E Q N r.length q n a es c i h r q N':=λn g r q {es i} I a c h N' ae hg O J hn=>by
  have ax:=hg.len
  have out:zQw r:=⟨g,⟨by omega,hg⟩,O,J⟩
  refine zBZ _ _ _ _ _ _ _ _ _ _ _ _ _ _ (Br.dec (λh0 N5 al=>vW I 8 (by omega) a c h N5 _ λb a3 am c3 i3 h3 N6 ao U _ _=>Br.of (λ_=>?_) λ_=>⟨⟨rfl,rfl⟩,⟨rfl,rfl⟩,⟨rfl,rfl⟩,λa4 N7 aa _=>⟨zV,λN8 ab=>hQ _ _ _ _ _ _ _ _ _ (by omega) U out⟩⟩) λ_=>⟨⟨rfl,rfl⟩,⟨rfl,rfl⟩,⟨rfl,rfl⟩,λa4 N7 aa _=>⟨zV,λN8 ab=>hQ _ _ _ _ _ _ _ _ _ (by omega) I out⟩⟩)
  have hp:=hn h0
  obtain ⟨y,g',rfl⟩:∃ y g',g=y::g':=by
   cases g with
   | nil=>simp at hp
   | cons y g'=>exact ⟨y,g',rfl⟩
  obtain ⟨d,ds,rfl,⟨t0,t1,rfl,aq,ah⟩,Y⟩:=hg
  have au:zQw (D.ag [.t (bytes [108,101,116]),t0,t1,.j y.lv]::ds):=⟨⟨bytes [108,101,116],y.ty,y.lv⟩::g',⟨by have:=Y.len;simp at O ⊢;omega,⟨_,_,rfl,⟨t0,t1,rfl,by show (bytes [108,101,116]).size<=_;decide,ah⟩,Y⟩⟩,by simpa using O,by simpa using J⟩
  refine ⟨⟨by omega,by simp,by simp⟩,by simp,⟨by simp,rfl⟩,⟨by simp,rfl⟩,⟨by simp,rfl⟩,⟨by simp,rfl⟩,λa4 N7 aa _=>⟨zV,λN8 ab=>?_⟩⟩
  exact hQ _ _ _ _ _ _ _ _ _ (by omega) U (by simpa [zHV,D.cells] using au)
 have L6:∀ (n:Int),0<=n->n<=13->∀ (m:Nat) (k:Int) (g:List Tg) (r:List D) (q:Nat) {es:List D} {i:Int} (_:Cu es i) a c h N',k+m=n->0<=k->N<=N'->All2 Tg.Is g r->(g.length:Int)=k->(∀ x∈g,x.ty.cnt<=3)->xK E Q N r.length q n k a es c i h r q N':=by
  intro n bj hn m
  induction m with
  | zero=>
    intro k g r q es i I a c h N' hk ay ae hg O J
    refine sn _ _ _ _ _ _ _ _ _ _ _ _ _ _ _ (Br.dec (λh=>by omega) λ_=>Br.dec (λh0 N5 al=>vW I 8 (by omega) a c h N5 _ λb a3 am c3 i3 h3 N6 ao U _ _=>Br.of (λ_ N7 aa=>?_) λ_=>ac n g r q U a3 c3 h3 N6 (by omega) hg (by omega) J (by omega)) λh0=>ac n g r q I a c h N' ae hg (by omega) J (by omega))
    refine vC (l:=[-1,3]) U (by decide) (by decide) a3 c3 h3 2 2 N7 _ λw a4 az c4 i4 h4 N8 ab ai _ _ _ _=>?_
    obtain ⟨y,g',rfl⟩:∃ y g',g=y::g':=by
     cases g with
     | nil=>simp at O;omega
     | cons y g'=>exact ⟨y,g',rfl⟩
    obtain ⟨d,ds,rfl,⟨t0,t1,rfl,aq,ah⟩,Y⟩:=hg
    refine ⟨⟨by omega,by simp,by simp⟩,by simp,?_⟩
    have:=ac n (⟨y.nm,y.ty,w⟩::g') (D.ag [.t y.nm,t0,t1,.j w]::ds) q ai a4 c4 h4 N8 (by omega) ⟨_,_,rfl,⟨t0,t1,rfl,aq,ah⟩,Y⟩ (by simp at O ⊢;omega) (by simpa using J) (by simp)
    simpa [zHV,D.cells] using this
  | succ m ih=>
    intro k g r q es i I a c h N' hk ay ae hg O J
    have ax:=hg.len
    refine sn _ _ _ _ _ _ _ _ _ _ _ _ _ _ _ (Br.dec (λ_ N5 al=>?_) λh=>by omega)
    refine uV (l:=[bytes [120],bytes [121],bytes [102],bytes [120]]) I (by decide) (by decide) a c h 4 4 N5 _ λs a3 am c3 i3 h3 N6 ao U hs _ _ _ N7 aa=>?_
    have hs:=vi hs (by decide)
    refine zRw 2 (by omega) U a3 c3 h3 N7 _ λx a4 az c4 i4 h4 N8 ab ai hx _ _ _ N9 bm=>zw ai 3 (by omega) a4 c4 h4 N9 _ λv a5 bp c5 i5 h5 a6 a9 a7 _ _ _ _ _=>⟨⟨rfl,rfl⟩,by unfold zA;rw [oI];simp only [oO,oX];omega,λc6=>?_⟩
    obtain ⟨t,hw,ht,a8⟩:=hx
    rw [i64_in (k+1) (by omega)]
    exact ih (k+1) (g++[⟨s,t,v⟩]) _ c6 a7 a5 c5 h5 a6 (by omega) (by omega) (by omega) (hg.snoc (t:=(⟨s,t,v⟩:Tg)) ⟨_,_,rfl,by show s.size<=_;omega,Ty.is_cells ht⟩) (by simp;omega) λz hz=>by
     rcases oJ.1 hz with hz | hz
     ·exact J z hz
     ·rw [oY] at hz;subst hz;exact a8
 exact Br.of (λ_=>L6 13 (by omega) (by omega) 13 0 [] [] 0 ak a2 c2 h2 N4 (by omega) (by omega) (by omega) rfl rfl (by simp)) λ_=>L6 n n0 (by omega) n.toNat 0 [] [] 0 ak a2 c2 h2 N4 (by omega) (by omega) (by omega) rfl rfl (by simp)
end Go.Proofs.YtnmnahkkcfghjaaGreat
set_option maxRecDepth 100000
namespace Go.Proofs.YtnmnahkkcfghjaaGreat
open Go Go.Proofs Go.Proofs.Tryz Go.IntWalk
theorem zOT {es:List D} (hb:∀ d∈es,∃ n:Int,d=.lit (.int .u8 n)) (hl:es.length<=1073741824) (a:Option Addr) (c:Nat) (N:Nat) (Q:QT [.sl 4,.ag 9,.i])
  (hQ:∀ a1 e1 c1 d n N',N<=N'->zQw e1->SomB 2100000 d->Q a1 e1 c1 d n N'):ACalls prog 17 [.sl 4,.ag 9,.i] [.sv a 0 es c] N Q:=by
 refine zAg N a es c Q λ_ N1 bg=>zQJ hb hl a c N1 _ λh N2 bh I _ N3 bi=>zw I 4 (by omega) a c h N3 _ λr a1 bj c1 i1 h1 N4 bm aa _ _ _ _ _=>Br.of (λ_ N5 ah=>?_) λ_=>Br.of (λ_ N5 ah=>?_) λ_ N5 ah=>?_
 ·exact zI8 aa a1 c1 h1 N5 _ λd a2 ax c2 i2 h2 N6 ai aj hd _ _ _=>⟨⟨rfl,rfl⟩,⟨rfl,rfl⟩,λa3 N7 ab _ N8 ac=>hQ _ _ _ _ _ _ (by omega) ⟨[],⟨by simp,rfl⟩,by simp,by simp⟩ hd⟩
 ·refine zOf aa a1 c1 h1 N5 _ λa2 e2 c2 a3 ak c3 i3 h3 N6 ai J al _ _ _ N7 ab=>zMC J a3 c3 h3 N7 _ λd a4 am c4 i4 h4 N8 ac O hd _ _ _ N9 ao=>?_
  exact zw O 3 (by omega) a4 c4 h4 N9 _ λn a5 bp c5 i5 h5 ae Y bq _ _ _ _ _ ay aq=>hQ _ _ _ _ _ _ (by omega) al ((hd.b (by omega)).mono (by omega))
 ·refine zw aa 3 (by omega) a1 c1 h1 N5 _ λn a2 ax c2 i2 h2 N6 ai aj n0 n3 _ _ _=>?_
  have n3:=n3 (by omega)
  have key:∀ (m:Nat) (k:Int) (g:List Tg) (r:List D) (q:Nat) {es:List D} {i:Int} (_:Cu es i) a c h N',k+m=n->0<=k->N<=N'->All2 Tg.Is g r->(g.length:Int)=k->(∀ x∈g,x.ty.cnt<=3)->yT Q N r.length q n k 0 (bytes []) (bytes []) 0 0 none [] 0 0 none [] 0 none [] 0 a es c i h r q N':=by
   intro m
   induction m with
   | zero=>
     intro k g r q es i I a c h N' hk au az hg a7 U
     have a8:=hg.len
     refine vP _ _ _ _ _ _ _ _ _ _ _ _ _ _ _ _ _ _ _ _ _ _ _ _ _ _ _ _ _ (Br.dec (λh=>by omega) λ_ N7 ab=>zw I 2 (by omega) a c h N7 _ λv a3 ak c3 i3 h3 N8 ac J _ _ _ _ _ N9 ao=>zRw 2 (by omega) J a3 c3 h3 N9 _ λx a4 am c4 i4 h4 ae Y O hx _ _ _=>⟨⟨rfl,rfl⟩,⟨rfl,rfl⟩,⟨rfl,rfl⟩,λa5 ay aq _ a9 ba=>?_⟩)
     obtain ⟨t,hw,ht,aw⟩:=hx
     exact zRx (k:=4) (by omega) (by omega) t hw (by omega) ht ⟨by omega,hg⟩ (by omega) (λx hx=>oN (U x hx) (by omega)) v a5 q O a4 c4 h4 a9 _ λd a6 bt c6 i6 h6 bv bb bw hd _ _ _ bz bc=>hQ _ _ _ _ _ _ (by omega) ⟨g,⟨by omega,hg⟩,by omega,U⟩ ((hd.b (by omega)).mono (by omega))
   | succ m ih=>
     intro k g r q es i I a c h N' hk au az hg a7 U
     have a8:=hg.len
     have nm:∃ s,List.getD [D.t (bytes [120]),D.t (bytes [121])] (0+k.toNat) default=D.t s/\s.size<=1000:=by
      have:k=0\/k=1:=by omega
      rcases this with rfl | rfl<;>exact ⟨_,rfl,by decide⟩
     obtain ⟨s,hs,b1⟩:=nm
     refine vP _ _ _ _ _ _ _ _ _ _ _ _ _ _ _ _ _ _ _ _ _ _ _ _ _ _ _ _ _ (Br.dec (λ_=>⟨⟨au,by omega,by omega⟩,by omega,s,hs,λN7 ab=>zLr 0 I a c h N7 _ λx a3 ak c3 i3 h3 N8 ac J hx _ _ _ N9 ao=>zw J 2 (by omega) a3 c3 h3 N9 _ λv a4 am c4 i4 h4 ae Y O _ _ _ _ _=>⟨⟨rfl,rfl⟩,by unfold zA;rw [oI];simp only [oO,oX];omega,λc6=>?_⟩⟩) λh=>by omega)
     obtain ⟨t,hw,ht,aw⟩:=hx
     rw [i64_in (k+1) (by omega)]
     exact ih (k+1) (g++[⟨s,t,v⟩]) _ c6 O a4 c4 h4 ae (by omega) (by omega) (by omega) (hg.snoc (t:=(⟨s,t,v⟩:Tg)) ⟨_,_,rfl,by show s.size<=_;omega,Ty.is_cells ht⟩) (by simp;omega) λz hz=>by
      rcases oJ.1 hz with hz | hz
      ·exact U z hz
      ·rw [oY] at hz;subst hz;exact aw
  exact key n.toNat 0 [] [] 0 aj a2 c2 h2 N6 (by omega) (by omega) (by omega) rfl rfl (by simp)
theorem zM2 {g:List Tg} {es fs:List D} (h:Ctx g es) (h':Ctx g fs) (a b:Option Addr) (c O:Nat):zBz 10 [.sv a 4 es c,.sv b 4 fs O] true:=λN Q hQ=>by
 have hl:=h.all.len
 have ae:=h'.all.len
 refine zDw N a es c b fs O Q λ_ _=>Br.bne (λh=>by omega) λ_=>?_
 refine up h.all h.len (λi xs=>∀ (N':Nat),N<=N'->xg Q N a es c b fs O i N') ?_ ?_ N (oD _)
 ·intro i U hi N' Y
  exact sB _ _ _ _ _ _ _ _ _ _ (Br.of (λh=>by rw [U] at h;cases h) λ_ N2 aa=>hQ _ (by omega))
 ·intro i x xs I _ ih N' Y
  have hb:=I.b
  obtain ⟨t0,t1,hd,ah,ab⟩:=I.r
  obtain ⟨u0,u1,he,ac,J⟩:=h'.all.get I.g
  have bd:(0:Int)<=(i:Int)/\(i:Int)<(fs.length:Int):=⟨by omega,by omega⟩
  refine sB _ _ _ _ _ _ _ _ _ _ (Br.of (λ_=>?_) λh=>by rw [I.lt] at h;cases h)
  rw [oK,hd,he,I.w]
  exact ⟨hb,x.nm,rfl,bd,x.nm,rfl,Br.of (λh=>by simp at h) λ_=>⟨hb,x.lv,rfl,bd,x.lv,rfl,Br.bne (λh=>absurd rfl h) λ_=>⟨hb,bd,λN1 ai=>zj x.ty x.ty _ _ ab J N1 _ λN2 aa _=>Br.of (λh=>by rw [pE] at h;cases h) λ_=>ih N2 (by omega)⟩⟩⟩
end Go.Proofs.YtnmnahkkcfghjaaGreat
