/- Drawing: programs, mostly: terms of a type. -/
import Derived.Test.YtmfjakahanbnlaaGreatDoorC2
import Derived.Test.YtmfjakahanbnlaaGreatDoorC3
import Derived.Test.YtmfjakahanbnlaaGreatDoorKd
set_option linter.unusedVariables false
set_option linter.unusedSimpArgs false
set_option maxRecDepth 100000
namespace Go.Proofs.YtmfjakahanbnlaaGreatDoor
open Go Go.Proofs Go.Proofs.Tryz Go.IntWalk
/-- some type of at most this many nodes, by its form -/
def WfD (m:Nat) (d:D):Prop:=∃ t:Ty,Wf t/\t.Is d/\t.cnt<=m
theorem WfD.mono {m n:Nat} {d:D} (h:WfD m d) (O:m<=n):WfD n d:=by obtain ⟨t,I,J,U⟩:=h;exact ⟨t,I,J,by omega⟩
theorem zRQ (n:Int) {es:List D} {i:Int} (O:Cu es i) (a:Option Addr) (c:Nat) (h:Int) (N:Nat) (Q:QT [.ag 2,.sl 0,.int .i64,.int .i64])
  (hQ:∀ d' a' ah c' i' h' N',N<=N'->Cu ah i'->WfD 3 d'->Q d' a' ah c' i' h' N'):BCalls prog 260 [.ag 2,.sl 0,.int .i64,.int .i64] [.pb 0 0 0 0,.int .i64 n] [.var [.sv a 0 es c,.int .i64 i,.int .i64 h]] N Q:=by
 refine zC3 N n a es c i h Q λE _ N1 az=>vS N1 _ λx N2 a6 hx _ _ _=>?_
 have i3:WfD 3 x:=⟨_,.int,hx,by decide⟩
 have fn:∀ N3,ACalls prog 153 [.ag 2] [.dg 2 x,.dg 2 x] N3 (λy N4=>N3<=N4->Bel N4 y->zN E [.var [.sv none 0 [] 0,.int .i64 0,.int .i64 0]]/\∀ N5,N4<=N5->WfD 3 y/\N3<=N5):=λN3=>
  tF tInt tInt x x hx hx (by decide) (by decide) N3 _ λy N4 ai hy _ _ _=>⟨zU,λN5 Y=>⟨⟨_,.fn .int .int,hy,by decide⟩,by omega⟩⟩
 have last:∀ {es:List D} {i:Int} (_:Cu es i) a c h N3,N2<=N3->BCalls prog 91 [.bool,.sl 0,.int .i64,.int .i64] [.pb 0 0 0 0,.int .i64 3] [.var [.sv a 0 es c,.int .i64 i,.int .i64 h]] N3 (λaw aa I ab aj ak U=>N3<=U->Bel U (D.sl aa 0 I ab)->Br aw (∀ ac,U
  <= ac->ACalls prog 153 [.ag 2] [.dg 2 x,.dg 2 x] ac (λal ae=>ac<=ae->Bel ae al->zN E [.var [.sv none 0 [] 0,.int .i64 0,.int .i64 0]]
  /\ ∀ am,ae<=am->Q al aa I ab aj ak am)) (zN E [.var [.sv none 0 [] 0,.int .i64 0,.int .i64 0]]/\∀ ao,U<=ao->Q x aa I ab aj
  ak ao)):=λ{es i} O a c h N3 aq=>sw O 3 (by omega) a c h N3 _ λb a1 ax c1 i1 h1 N4 ai J _ _=>Br.of (λ_ N5 Y=>tF tInt tInt x x hx hx (by decide) (by decide) N5 _ λy N6 ay hy _ _ _=>⟨zU,λN7 au=>hQ _ _ _ _ _ _ _ (by omega) J ⟨_,.fn .int .int,hy,by decide⟩⟩) λ_=>⟨zU,λN7 au=>hQ _ _ _ _ _ _ _ (by omega) J i3⟩
 refine Br.of (λ_ N3 aq=>?_) λ_ N3 aq=>last O a c h N3 (by omega)
 exact sw O 2 (by omega) a c h N3 _ λb a1 ax c1 i1 h1 N4 ai J _ _=>Br.of (λ_ N5 Y=>wn tInt x hx (by decide) N5 _ λy N6 ay hy _ _ _=>⟨zU,λN7 au=>hQ _ _ _ _ _ _ _ (by omega) J ⟨_,.code .int,hy,by decide⟩⟩) λ_ N5 Y=>last J a1 c1 h1 N5 (by omega)
/-- what l9Gen does at this depth: terms of at most S nodes -/
def zNS (k S:Nat):Prop:=∀ (t:Ty) (_:Wf t) (_:t.cnt+k<=20) {d:D} (_:t.Is d) {g:List Tg} {I:List D} (_:Ctx g I) (_:g.length+k<=1000) (_:∀ x∈g,x.ty.cnt<=1000) (n:Int) (a0:Option Addr) (c0:Nat) {es:List D} {i:Int} (_:Cu es i) (a:Option Addr) (c:Nat) (h:Int) (N:Nat) (Q:QT [.ag 9,.sl 0,.int .i64,.int .i64])
    (_:∀ d' O J U i' Y N',N<=N'->Cu J i'->Some S d'->Q d' O J U i' Y N'),
    BCalls prog 154 [.ag 9,.sl 0,.int .i64,.int .i64] [.pb 0 0 0 0,.sv a0 4 I c0,.dg 2 d,.int .i64 n,.int .i64 k] [.var [.sv a 0 es c,.int .i64 i,.int .i64 h]] N Q
theorem zLl {m:Nat} {x y:D} (I:Some m x) (J:Some m y):∀ d∈[x,y],Some m d:=λd hd=>by
 simp only [oI,nG,mZ] at hd
 rcases hd with rfl | rfl<;>assumption
theorem zDW {m:Nat} {x:D} (I:Some m x):∀ d∈[x],Some m d:=λd hd=>by rw [nY] at hd;subst hd;exact I
theorem vu {l:List ByteArray} {s:ByteArray} (h:s∈l) (I:(l.all λs=>decide (s.size<=1000))=true):s.size<=1000:=by
 have:=oU.1 I s h
 simpa using this
theorem zTZ {k S:Nat} (hk:k<=15) (hS:S<=100000000) (hG:zNS k S) {t:Ty} {d:D} (hd:t.Is d) {g:List Tg} {U:List D} (am:Ctx g U) (hg:g.length+k<=1000) (ao:∀ x∈g,x.ty.cnt<=1000) (n:Int) (a0:Option Addr) (c0:Nat) {es:List D} {i:Int} (ac:Cu es i) (a:Option Addr) (c:Nat) (h:Int) (N:Nat) (Q:QT [.ag 9,.sl 0,.int .i64,.int .i64])
  (hQ:∀ d' a' a6 c' i' h' N',N<=N'->Cu a6 i'->Some (3+2*S) d'->Q d' a' a6 c' i' h' N') :
  BCalls prog 215 [.ag 9,.sl 0,.int .i64,.int .i64] [.pb 0 0 0 0,.sv a0 4 U c0,.dg 2 d,.int .i64 n,.int .i64 ((k+1:Nat):Int)] [.var [.sv a 0 es c,.int .i64 i,.int .i64 h]] N Q:=by
 obtain ⟨kt,l,rfl⟩:∃ k l,t=Ty.mk k l:=by cases t;exact ⟨_,_,rfl⟩
 obtain ⟨ta,bw,tc,rfl,_,_⟩:=Ty.is_mk.1 hd
 have ek:IntKind.i64.wrap (((k+1:Nat):Int) - 1)=(k:Int):=by rw [i64_in _ (by omega)];omega
 have ci:tInt.cnt+k<=20:=by have:tInt.cnt=1:=rfl;omega
 have cb:tBool.cnt+k<=20:=by have:tBool.cnt=1:=rfl;omega
 refine zCY N a0 U c0 _ n _ a es c i h Q λE _ _ _ N1 bz=>vS N1 _ λx N2 b1 hx _ _ _ N3 b2=>vk N3 _ λy N4 b3 hy _ _ _=>⟨kt,rfl,?_⟩
 rw [ek]
 have bin:∀ {u:Ty} {z:D} (_:Wf u) (_:u.cnt+k<=20) (_:u.Is z) {s:ByteArray} (_:s.size<=1000) {es:List D} {i:Int} (_:Cu es i) a c h N5,N4<=N5->BCalls prog 154 [.ag 9,.sl 0,.int .i64,.int .i64] [.pb 0 0 0 0,.sv a0 4 U c0,.dg 2 z,.int .i64 n,.int .i64 k] [.var [.sv a 0 es c,.int .i64 i,.int .i64 h]] N5 (λae a7 ak a8 bj bm N8=>N5<=N8->Bel N8 ae->Bel N8 (D.sl a7 0 ak a8)->∀ Y,N8<=Y->BCalls prog 154 [.ag 9,.sl 0,.int .i64,.int .i64] [.pb 0 0 0 0,.sv
   a0 4 U c0,.dg 2 z,.int .i64 n,.int .i64 k] [Bx.var [.sv a7 0 ak a8,.int .i64 bj,.int .i64 bm]] Y (λah ba al bb bn
   bp J=>Y<=J->Bel J ah->Bel J (D.sl ba 0 al bb)->(2=([ae,ah]).length/\2=2)/\∀ ai,ApA ai [ae,ah]->∀ O,J<=O->wL
   O [ai]->ACalls prog 264 [.ag 9] [.str s,.sv ai 9 [ae,ah] 2] O (λaq au=>O<=au->Off [ai] aq/\(Bel au aq->zN E [.var [.sv none
   0 [] 0,.int .i64 0,.int .i64 0]]/\∀ bc,au<=bc->Q aq ba al bb bn bp bc)))):=λ{u z} hw hc hz {s} hs {es i} ac a c h N5 bd=>
  hG _ hw hc hz am hg ao n a0 c0 ac a c h N5 _ λx2 a2 aw c2 i2 h2 N6 bg I ax _ _ _ N7 aj=>hG _ hw hc hz am hg ao n a0 c0 I a2 c2 h2 N7 _ λx3 a3 b4 c3 i3 h3 N8 ay bq bt _ _ _=>⟨⟨rfl,rfl⟩,λa4 _ Y az aa=>zUa (by omega) (by omega) (zLl ax bt) (by simp) a4 2 Y _ λw J bh hw ho _=>⟨vD aa ho,λ_=>⟨zU,λO bi=>hQ _ _ _ _ _ _ _ (by omega) bq (hw.mono (by simp))⟩⟩⟩
 refine Br.of (λ_ N5 bd=>?_) λ_ N5 bd=>?_
 ·exact tg (l:=[bytes [43],bytes [42],bytes [45],bytes [43]]) ac (by decide) (by decide) a c h 4 4 N5 _ λs a1 bv c1 i1 h1 N6 bg ab hs _ _ _ N7 aj=>bin .int ci hx (vu hs (by decide)) ab a1 c1 h1 N7 (by omega)
 ·refine yZ ac 4 (by omega) a c h N5 _ λr a1 bv c1 i1 h1 N6 bg ab _ _ _ _ _=>Br.of (λ_ N7 aj=>?_) λ_=>Br.of (λ_ N7 aj=>?_) λ_ N7 aj=>?_
  ·exact hG _ .bool cb hy am hg ao n a0 c0 ab a1 c1 h1 N7 _ λx2 a2 aw c2 i2 h2 N8 ay I ax _ _ _=>⟨⟨rfl,rfl⟩,λa4 _ Y az aa=>zUa (by decide) (by omega) (zDW ax) (by simp) a4 1 Y _ λw J bh hw ho _=>⟨vD aa ho,λ_=>⟨zU,λO bi=>hQ _ _ _ _ _ _ _ (by omega) I (hw.mono (by simp;omega))⟩⟩⟩
  ·exact tg (l:=[bytes [38],bytes [124]]) ab (by decide) (by decide) a1 c1 h1 2 2 N7 _ λs a2 aw c2 i2 h2 N8 ay I hs _ _ _ Y az=>bin .bool cb hy (vu hs (by decide)) I a2 c2 h2 Y (by omega)
  ·exact tg (l:=[bytes [61],bytes [60]]) ab (by decide) (by decide) a1 c1 h1 2 2 N7 _ λs a2 aw c2 i2 h2 N8 ay I hs _ _ _ Y az=>bin .int ci hx (vu hs (by decide)) I a2 c2 h2 Y (by omega)
theorem zTE {t:Ty} (O:Wf t):∀ {d:D} (_:t.Is d) (N:Nat) (Q:QT [.int .i64]) (_:∀ r N',N<=N'->Q r N'),ACalls prog 262 [.int .i64] [.dg 2 d] N Q:=by
 have zy:∀ {k:Int} {l:List Ty} {d:D} (_:(Ty.mk k l).Is d) (_:k≠4) (N:Nat) (Q:QT [.int .i64]) (_:∀ r N',N<=N'->Q r N'),ACalls prog 262 [.int .i64] [.dg 2 d] N Q:=λ{k l d} hd U N Q I=>by
  obtain ⟨b,fs,c,rfl,_,_⟩:=Ty.is_mk.1 hd
  exact zAL N _ Q λ_=>⟨k,rfl,Br.beq (λh=>absurd h U) λ_ N4 J=>I _ _ J⟩
 induction O with
 | int=>exact λhd=>zy hd (by decide)
 | bool=>exact λhd=>zy hd (by decide)
 | fn _ _ _ _=>exact λhd=>zy hd (by decide)
 | @code u _ Y=>
   intro d hd N Q I
   obtain ⟨b,fs,c,rfl,_,d1,_,rfl,h3,rfl⟩:=Ty.is_mk.1 hd
   exact zAL N _ Q λ_=>⟨4,rfl,Br.beq (λ_=>⟨_,_,_,rfl,⟨by simp,by simp⟩,λN1 aa=>Y h3 N1 _ λr N2 ab _ N3 ac=>I _ _ (by omega)⟩) λh=>absurd rfl h⟩
theorem zP1 {g:List Tg} {m M:Nat} (O:g.length+m<=M) (I:∀ x∈g,x.ty.cnt<=1000) (n:Int):(zQD g n).length+m<=M/\∀ x∈zQD g n,x.ty.cnt<=1000:=by
 have h:=zG8 g n g 0
 exact ⟨by have U:=h.2;show (rp g n g 0).length+m<=M;omega,λx J=>I x (h.1 x J)⟩
theorem zIk {g:List Tg} {k:Nat} (O:g.length+(k+1)<=1000) (I:∀ x∈g,x.ty.cnt<=1000) {y:Tg} (J:y.ty.cnt<=1000):(g++[y]).length+k<=1000/\∀ x∈g++[y],x.ty.cnt<=1000:=by
 refine ⟨by simp;omega,λx hx=>?_⟩
 rcases oL.1 hx with hx | hx
 ·exact I x hx
 ·rw [nY] at hx;subst hx;exact J
theorem zT6 {k S:Nat} (hk:k<=15) (cn:100<=S) (hS:S<=100000000) (hG:zNS k S) {t:Ty} (hw:Wf t) (hc:t.cnt+(k+1)<=20) {d:D} (hd:t.Is d) {g:List Tg} {bm:List D} (J:Ctx g bm) (hg:g.length+(k+1)<=1000) (I:∀ x∈g,x.ty.cnt<=1000) (n:Int) (a0:Option Addr) (c0:Nat) {es:List D} {i:Int} (bn:Cu es i) (a:Option Addr) (c:Nat) (h:Int) (N:Nat) (Q:QT [.ag 9,.sl 0,.int .i64,.int .i64])
  (hQ:∀ d' a' bv c' i' h' N',N<=N'->Cu bv i'->Some (4*S) d'->Q d' a' bv c' i' h' N') :
  BCalls prog 214 [.ag 9,.sl 0,.int .i64,.int .i64] [.pb 0 0 0 0,.sv a0 4 bm c0,.dg 2 d,.int .i64 n,.int .i64 ((k+1:Nat):Int)] [.var [.sv a 0 es c,.int .i64 i,.int .i64 h]] N Q:=by
 have ek:IntKind.i64.wrap (((k+1:Nat):Int) - 1)=(k:Int):=by rw [i64_in _ (by omega)];omega
 have cb:tBool.cnt+k<=20:=by have:tBool.cnt=1:=rfl;omega
 have cc:(zAX t).cnt+k<=20:=by have:(zAX t).cnt=1+(t.cnt+0):=rfl;omega
 have Y:g.length+k<=1000:=by omega
 have e3:∀ x y z:D,∀ {m:Nat},Some m x->Some m y->Some m z->∀ d∈[x,y,z],Some m d:=λx y z m hx hy hz d hd=>by
  simp only [oI,nG,mZ] at hd
  rcases hd with rfl | rfl | rfl<;>assumption
 refine zEj N a0 bm c0 d n _ a es c i h Q λE _ _ _ N1 cq=>tg (l:=[bytes [120],bytes [121],bytes [122]]) bn (by decide) (by decide) a c h 3 3 N1 _ λs a1 cr c1 i1 h1 N2 ct b5 hs _ _ _ N3 cw=>yZ b5 5 (by omega) a1 c1 h1 N3 _ λr a2 b6 c2 i2 h2 N4 cx ak _ _ _ _ _=>?_
 have hs:=vu hs (by decide)
 rw [ek]
 have aw:∀ N5,N4<=N5->BCalls prog 213 [.ag 9,.sl 0,.int .i64,.int .i64] [.pb 0 0 0 0,.dg 2 d,.int .i64 n] [.var [.sv a2 0 b6 c2,.int .i64 i2,.int .i64 h2]] N5 (λx a es c b7 b8 N6=>N5<=N6->Bel N6 x->Bel N6 (D.sl a 0 es c)->zN E [.var [.sv none 0 [] 0,.int .i64 0,.int .i64 0]]/\∀ O,N6<=O->Q x a es c b7 b8 O):=λN5 aa=>
  zKq hw (by omega) hd n ak a2 c2 h2 N5 _ λx a3 ba c3 i3 h3 N6 ax al hx _ _ _=>⟨zU,λO am=>hQ _ _ _ _ _ _ _ (by omega) al (hx.mono (by omega))⟩
 have nod:∀ (kk:Int) {x:D} (_:Some S x) {es:List D} {i:Int} (_:Cu es i) a c h N5,N4<=N5->(1=([x]).length/\1=1)/\∀ bb,ApA bb [x]->∀ N6,N5<=N6->wL N6 [bb]->ACalls prog 210 [.ag 9] [.int .i64 kk,.sv bb 9 [x] 1] N6 (λbp O=>N6<=O->Off [bb] bp/\(Bel O bp->zN E [.var [.sv none 0 [] 0,.int .i64 0,.int .i64 0]]/\∀ N8,O<=N8->Q bp a es c i h N8)):=λkk {x} hx {es i} bn a c h N5 aa=>
  ⟨⟨rfl,rfl⟩,λa4 _ N9 ay ab=>zGU kk (by omega) (zDW hx) (by simp) a4 1 N9 _ λw bc ao hw ho _=>⟨vD ab ho,λ_=>⟨zU,λac aq=>hQ _ _ _ _ _ _ _ (by omega) bn (hw.mono (by simp;omega))⟩⟩⟩
 refine Br.of (λ_ N5 aa=>?_) λ_=>Br.of (λ_ N5 aa=>?_) λ_=>Br.of (λ_ N5 aa=>?_) λ_=>Br.of (λ_ N5 aa=>?_) λ_=>Br.of (λ_ N5 aa=>?_) λ_ N5 aa=>aw N5 aa
 ·refine vk N5 _ λy N6 ax hy _ _ _ O am=>hG _ .bool cb hy J Y I n a0 c0 ak a2 c2 h2 O _ λx1 a3 ba c3 i3 h3 N8 bd al b9 _ _ _ N9 ay=>hG _ hw (by omega) hd J Y I n a0 c0 al a3 c3 h3 N9 _ λx2 a4 bg c4 i4 h4 bc ao U ca _ _ _ ac aq=>hG _ hw (by omega) hd J Y I n a0 c0 U a4 c4 h4 ac _ λx3 a5 bw c5 i5 h5 ae ah cd ce _ _ _=>⟨⟨rfl,rfl⟩,λa6 _ az bh ab=>?_⟩
  exact zGU 5 (by omega) (e3 x1 x2 x3 b9 ca ce) (by simp) a6 3 az _ λw bz bi hw ho _=>⟨vD ab ho,λ_=>⟨zU,λbq bj=>hQ _ _ _ _ _ _ _ (by omega) cd (hw.mono (by simp;omega))⟩⟩
 ·refine zRQ n ak a2 c2 h2 N5 _ λy a3 ba c3 i3 h3 N6 ax al hy _ _ _ O am=>?_
  obtain ⟨u,hu,au,cf⟩:=hy
  refine hG _ hu (by omega) au J Y I n a0 c0 al a3 c3 h3 O _ λx6 a4 bg c4 i4 h4 N8 bd U cg _ _ _ N9 ay=>?_
  refine sB J (by omega) a0 c0 (s:=s) (by omega) au n N9 _ λa5 bw c5 bc ao ai _ _ ac aq=>?_
  obtain ⟨g2,g3⟩:=zIk hg I (y:=⟨s,u,n⟩) (by show u.cnt<=1000;omega)
  exact hG _ hw (by omega) hd ai g2 g3 n a5 c5 U a4 c4 h4 ac _ λx7 a6 ch c6 i6 h6 ae ah bt cj _ _ _ az bh=>zUA (by omega) (by omega) cg cj az _ λx8 bz bi ck _ _=>⟨zU,λbq bj=>hQ _ _ _ _ _ _ _ (by omega) bt (ck.mono (by omega))⟩
 ·refine zRQ n ak a2 c2 h2 N5 _ λy a3 ba c3 i3 h3 N6 ax al hy _ _ _ O am=>?_
  obtain ⟨u,hu,au,cf⟩:=hy
  refine sB J (by omega) a0 c0 (s:=s) (by omega) au n O _ λa5 bw c5 N8 bd ai _ _ N9 ay=>?_
  obtain ⟨g2,g3⟩:=zIk hg I (y:=⟨s,u,n⟩) (by show u.cnt<=1000;omega)
  refine hG _ hw (by omega) hd ai g2 g3 n a5 c5 al a3 c3 h3 N9 _ λcy a6 ch c6 i6 h6 bc ao bt b1 _ _ _ ac aq=>zSP (by omega) au (by omega) (by omega) b1 ac _ λcz ae ah b2 _ _ az bh=>?_
  exact hG _ hu (by omega) au J Y I n a0 c0 bt a6 c6 h6 az _ λc8 a7 c9 c7 i7 h7 bz bi cm b3 _ _ _=>⟨⟨rfl,rfl⟩,λa8 _ bq bj ab=>zGU 7 (m:=5+S) (by omega) (zLl (b2.mono (by omega)) (b3.mono (by omega))) (by simp) a8 2 bq _ λw da co hw ho _=>⟨vD ab ho,λ_=>⟨zU,λdb cp=>hQ _ _ _ _ _ _ _ (by omega) cm (hw.mono (by simp;omega))⟩⟩⟩
 ·refine zTE hw hd N5 _ λr2 N6 ax _=>Br.of (λ_ O am=>?_) λ_=>Br.of (λ_ O am=>?_) λ_ O am=>aw O (by omega)
  ·refine zFV J (by omega) (λx hx=>oT (I x hx) (by omega)) a0 c0 n O _ λa3 ba c3 N8 bd ai _ _ N9 ay=>?_
   obtain ⟨g2,g3⟩:=zP1 Y I n
   refine wn t d hd (by omega) N9 _ λy bc ao hy _ _ _ ac aq=>?_
   exact hG _ (.code hw) cc hy ai g2 g3 n a3 c3 ak a2 c2 h2 ac _ λb4 a4 bg c4 i4 h4 ae ah U aj _ _ _=>nod 12 aj U a4 c4 h4 ae (by omega)
  ·refine wn t d hd (by omega) O _ λy N8 bd hy _ _ _ N9 ay=>?_
   exact hG _ (.code hw) cc hy J Y I _ a0 c0 ak a2 c2 h2 N9 _ λb4 a4 bg c4 i4 h4 ae ah U aj _ _ _=>nod 11 aj U a4 c4 h4 ae (by omega)
 ·refine wn t d hd (by omega) N5 _ λy N6 ax hy _ _ _ O am=>?_
  exact hG _ (.code hw) cc hy J Y I _ a0 c0 ak a2 c2 h2 O _ λb4 a4 bg c4 i4 h4 ae ah U aj _ _ _=>nod 11 aj U a4 c4 h4 ae (by omega)
theorem zST (k:Nat) (hk:k<2):zNS k 100:=by
 intro t hw hc d hd g J Y hg ac n a0 c0 es i I a c h N Q hQ
 refine qH N a0 J c0 d n _ a es c i h Q λE _ _ _ N1 ae=>?_
 have L5:∀ {es:List D} {i:Int} (_:Cu es i) a c h N',N<=N'->xi E Q N a0 J c0 n k a es c i h d 0 (bytes []) (bytes []) 0 0 none [] 0 0 none [] 0 none [] 0 N':=λ{es i} I a c h N' ah=>by
  refine pM _ _ _ _ _ _ _ _ _ _ _ _ _ _ _ _ _ _ _ _ _ _ _ _ _ _ _ _ _ _ (Br.dec (λ_ N2 aa=>?_) λh=>by omega)
  exact zKq hw (by omega) hd n I a c h N2 _ λx a3 ai c3 i3 h3 N6 aj ab hx _ _ _=>⟨zU,λN7 ak=>hQ _ _ _ _ _ _ _ (by omega) ab (hx.mono (by omega))⟩
 exact sw I 3 (by omega) a c h N1 _ λb a1 al c1 i1 h1 N2 aa O _ _=>Br.of (λ_ N3 am=>zNl Y (by omega) hd n a0 c0 O a1 c1 h1 N3 _ λx b2 a2 ao c2 i2 h2 N4 aq U hx _ _ _=>Br.of (λ_=>⟨zU,λN5 au=>hQ _ _ _ _ _ _ _ (by omega) U (hx.mono (by omega))⟩) λ_=>L5 U a2 c2 h2 N4 (by omega)) λ_=>L5 O a1 c1 h1 N2 (by omega)
theorem zL5 {k S:Nat} (hk:k<=15) (ax:100<=S) (hS:S<=100000000) (hG:zNS k S):zNS (k+1) (4*S):=by
 intro t hw hc d hd g ai aa hg ac n a0 c0 es i U a c h N Q hQ
 have ek:IntKind.i64.wrap (((k+1:Nat):Int) - 1)=(k:Int):=by rw [i64_in _ (by omega)];omega
 have au:g.length+k<=1000:=by omega
 refine qH N a0 ai c0 d n _ a es c i h Q λE _ _ _ N1 b1=>?_
 have ay:∀ {u:Ty} (_:t=zAX u) {es:List D} {i:Int} (_:Cu es i) a c h N',N<=N'->wq E Q N a0 ai c0 n ((k+1:Nat):Int) a es c i h d 0 (bytes []) (bytes []) 0 0 none [] 0 0 none [] 0 none [] 0 N':=λ{u} hu {es i} U a c h N' bm=>by
  subst hu
  obtain ⟨b,fs,kk,rfl,az,d1,_,rfl,h3,rfl⟩:=Ty.is_mk.1 hd
  have a7:(zAX u).cnt=1+(u.cnt+0):=rfl
  have bn:Wf u:=by cases hw;assumption
  refine zEO _ _ _ _ _ _ _ _ _ _ _ _ _ _ _ _ _ _ _ _ _ _ _ _ _ _ _ _ _ _ ⟨_,_,_,rfl,⟨by simp,by simp⟩,λN2 aw=>?_⟩
  rw [ek]
  exact hG _ bn (by omega) h3 aa au ac _ a0 c0 U a c h N2 _ λx a3 aj c3 i3 h3 N3 a8 I hx _ _ _=>⟨⟨rfl,rfl⟩,λa4 _ N4 ab ae=>zGU 10 (by omega) (zDW hx) (by simp) a4 1 N4 _ λw N5 ak hw ho _=>⟨vD ae ho,λ_=>⟨zU,λN6 al=>hQ _ _ _ _ _ _ _ (by omega) I (hw.mono (by simp;omega))⟩⟩⟩
 have L5:∀ {es:List D} {i:Int} (_:Cu es i) a c h N',N<=N'->xi E Q N a0 ai c0 n ((k+1:Nat):Int) a es c i h d 0 (bytes []) (bytes []) 0 0 none [] 0 0 none [] 0 none [] 0 N':=λ{es i} U a c h N' bm=>by
  have base:∀ {es:List D} {i:Int} (_:Cu es i) a c h N9,N<=N9->BCalls prog 215 [.ag 9,.sl 0,.int .i64,.int .i64] [.pb 0 0 0 0,.sv a0 4 ai c0,.dg 2 d,.int .i64 n,.int .i64 ((k+1:Nat):Int)] [.var [.sv a 0 es c,.int .i64 i,.int .i64 h]] N9 (λba bb am bc bp bq J=>N9<=J->Bel J ba->Bel J (D.sl bb 0 am bc)->zN E [.var [.sv none 0 [] 0,.int .i64 0,.int .i64 0]]/\∀ ah,J<=ah->Q ba bb am bc bp bq ah):=λ{es i} U a c h N9 bd=>
   zTZ hk hS hG hd aa au ac n a0 c0 U a c h N9 _ λx a3 aj c3 i3 h3 J ao I hx _ _ _=>⟨zU,λah aq=>hQ _ _ _ _ _ _ _ (by omega) I (hx.mono (by omega))⟩
  refine pM _ _ _ _ _ _ _ _ _ _ _ _ _ _ _ _ _ _ _ _ _ _ _ _ _ _ _ _ _ _ (Br.of (λ_ N2 aw=>?_) λ_ N2 aw=>sw U 3 (by omega) a c h N2 _ λb a1 bt c1 i1 h1 N3 a8 O _ _=>Br.of (λ_ N4 ab=>?_) λ_=>?_)
  ·exact zKq hw (by omega) hd n U a c h N2 _ λx a3 aj c3 i3 h3 N6 al I hx _ _ _=>⟨zU,λN7 bg=>hQ _ _ _ _ _ _ _ (by omega) I (hx.mono (by omega))⟩
  ·exact zT6 hk ax hS hG hw hc hd aa hg ac n a0 c0 O a1 c1 h1 N4 _ λx a3 aj c3 i3 h3 N5 ak I hx _ _ _=>⟨zU,λN6 al=>hQ _ _ _ _ _ _ _ (by omega) I hx⟩
  ·cases hw with
   | int=>
     obtain ⟨b,fs,kk,rfl,_,_⟩:=Ty.is_mk.1 hd
     exact ⟨1,rfl,Br.of (λ_ N4 ab=>base O a1 c1 h1 N4 (by omega)) λh=>by cases h⟩
   | bool=>
     obtain ⟨b,fs,kk,rfl,_,_⟩:=Ty.is_mk.1 hd
     exact ⟨2,rfl,Br.beq (λh=>absurd h (by decide)) λ_=>Br.of (λ_ N4 ab=>base O a1 c1 h1 N4 (by omega)) λh=>by cases h⟩
   | @fn u v hu hv=>
     obtain ⟨b,fs,kk,rfl,az,d1,_,rfl,h3,d2,_,rfl,h4,rfl⟩:=Ty.is_mk.1 hd
     have a7:(zPX u v).cnt=1+(u.cnt+(v.cnt+0)):=rfl
     refine ⟨3,rfl,Br.beq (λh=>absurd h (by decide)) λ_=>Br.beq (λh=>absurd h (by decide)) λ_=>Br.beq (λ_ N4 ab=>?_) λh=>absurd rfl h⟩
     refine tg (l:=[bytes [120],bytes [121]]) O (by decide) (by decide) a1 c1 h1 2 2 N4 _ λs a2 bh c2 i2 h2 N5 ak Y hs _ _ _=>⟨_,_,_,rfl,⟨by simp,by simp⟩,_,_,_,rfl,⟨by simp,by simp⟩,_,_,_,rfl,⟨by simp,by simp⟩,λN6 al=>?_⟩
     have hs:=vu hs (by decide)
     rw [ek]
     refine sB aa (by omega) a0 c0 (s:=s) (by omega) h3 n N6 _ λa5 b3 c5 N7 bg bi _ _ N8 bv=>?_
     obtain ⟨g2,g3⟩:=zIk hg ac (y:=⟨s,u,n⟩) (by show u.cnt<=1000;omega)
     exact hG _ hv (by omega) h4 bi g2 g3 n a5 c5 Y a2 c2 h2 N8 _ λx a6 b4 c6 i6 h6 N9 bd bw hx _ _ _ J ao=>zSP (by omega) h3 (by omega) (by omega) hx J _ λy ah aq hy _ _=>⟨zU,λbz bj=>hQ _ _ _ _ _ _ _ (by omega) bw (hy.mono (by omega))⟩
   | @code u hu=>
     obtain ⟨b,fs,kk,rfl,az,d1,_,rfl,h3,rfl⟩:=Ty.is_mk.1 hd
     have a7:(zAX u).cnt=1+(u.cnt+0):=rfl
     refine ⟨4,rfl,Br.beq (λh=>absurd h (by decide)) λ_=>Br.beq (λh=>absurd h (by decide)) λ_=>Br.beq (λh=>absurd h (by decide)) λ_=>⟨_,_,_,rfl,⟨by simp,by simp⟩,λN4 ab=>?_⟩⟩
     refine zBJ u _ h3 N4 _ λN5 ak _=>Br.of (λ_ N6 al=>?_) λ_=>ay rfl O a1 c1 h1 N5 (by omega)
     refine sw O 4 (by omega) a1 c1 h1 N6 _ λb2 a2 bh c2 i2 h2 N7 bg Y _ _=>Br.of (λ_=>⟨_,_,_,rfl,⟨by simp,by simp⟩,λN8 bv=>?_⟩) λ_=>ay rfl Y a2 c2 h2 N7 (by omega)
     rw [ek]
     exact hG _ hu (by omega) h3 aa au ac n a0 c0 Y a2 c2 h2 N8 _ λx a3 aj c3 i3 h3 N9 bd I hx _ _ _=>⟨⟨rfl,rfl⟩,λa4 _ J ao ae=>zGU 13 (by omega) (zDW hx) (by simp) a4 1 J _ λw ah aq hw ho _=>⟨vD ae ho,λ_=>⟨zU,λbz bj=>hQ _ _ _ _ _ _ _ (by omega) I (hw.mono (by simp;omega))⟩⟩⟩
 exact sw U 3 (by omega) a c h N1 _ λb a1 bt c1 i1 h1 N2 aw O _ _=>Br.of (λ_ N3 a8=>zNl aa (by omega) hd n a0 c0 O a1 c1 h1 N3 _ λx b2 a2 bh c2 i2 h2 N4 ab Y hx _ _ _=>Br.of (λ_=>⟨zU,λN5 ak=>hQ _ _ _ _ _ _ _ (by omega) Y (hx.mono (by omega))⟩) λ_=>L5 Y a2 c2 h2 N4 (by omega)) λ_=>L5 O a1 c1 h1 N2 (by omega)
/-- terms of at most this depth -/
theorem zTq {k:Nat} (hk:1<=k) (ah:k<=5):zNS k 25600:=by
 have up:∀ {k S T:Nat},zNS k S->S<=T->zNS k T:=λh U=>λt hw hc {d} hd {g ai} Y hg aa n a0 c0 {es i} ab a c h' N Q hQ=>h t hw hc hd Y hg aa n a0 c0 ab a c h' N Q λd' a' ac c' i' ae N' I J O=>hQ d' a' ac c' i' ae N' I J (O.mono U)
 have I:zNS 1 100:=zST 1 (by omega)
 have J:zNS 2 400:=zL5 (by omega) (by omega) (by omega) I
 have O:zNS 3 1600:=zL5 (by omega) (by omega) (by omega) J
 have h4:zNS 4 6400:=zL5 (by omega) (by omega) (by omega) O
 have h5:zNS 5 25600:=zL5 (by omega) (by omega) (by omega) h4
 rcases (by omega:k=1\/k=2\/k=3\/k=4\/k=5) with rfl | rfl | rfl | rfl | rfl
 ·exact up (k:=1) (S:=100) (T:=25600) I (by omega)
 ·exact up (k:=2) (S:=400) (T:=25600) J (by omega)
 ·exact up (k:=3) (S:=1600) (T:=25600) O (by omega)
 ·exact up (k:=4) (S:=6400) (T:=25600) h4 (by omega)
 ·exact up (k:=5) (S:=25600) (T:=25600) h5 (by omega)
end Go.Proofs.YtmfjakahanbnlaaGreatDoor
set_option maxRecDepth 100000
namespace Go.Proofs.YtmfjakahanbnlaaGreatDoor
open Go Go.Proofs Go.Proofs.Tryz Go.IntWalk
theorem zQY {es:List D} {i:Int} (J:Cu es i) (a:Option Addr) (c:Nat) (h:Int) (N:Nat) (Q:QT [.ag 9,.sl 0,.int .i64,.int .i64])
  (U:∀ d' Y I c' i' h' N',N<=N'->Cu I i'->Some 2100000 d'->Q d' Y I c' i' h' N'):BCalls prog 149 [.ag 9,.sl 0,.int .i64,.int .i64] [.pb 0 0 0 0] [.var [.sv a 0 es c,.int .i64 i,.int .i64 h]] N Q:=by
 refine zAs N a es c i h Q λE _ N1 aa=>tg (l:=[_,_,_,_,_,_,_,_,_,_,_]) J (by simp) (by simp) a c h 11 11 N1 _ λs a1 ab c1 i1 h1 N2 ac O hs _ _ _ N3 ae=>?_
 have hs:=vu hs (by decide)
 exact zRw hs N3 _ λd b N4 ah hd _ _=>⟨zU,λN5 ai=>U _ _ _ _ _ _ _ (by omega) O hd⟩
theorem zTz {l:List D} (h:∀ d∈l,WfD 5 d) {j:Nat} (I:j<l.length):WfD 5 (l.getD j default):=h _ (zIW I)
theorem zMU {es:List D} {i:Int} (ac:Cu es i) (a:Option Addr) (c:Nat) (h:Int) (N:Nat) (Q:QT [.ag 9,.sl 0,.int .i64,.int .i64])
  (hQ:∀ d' a' Y c' i' h' N',N<=N'->Cu Y i'->Some 2100000 d'->Q d' a' Y c' i' h' N'):BCalls prog 90 [.ag 9,.sl 0,.int .i64,.int .i64] [.pb 0 0 0 0] [.var [.sv a 0 es c,.int .i64 i,.int .i64 h]] N Q:=by
 refine zBI N a es c i h Q λE _ N1 b1=>sw ac 4 (by omega) a c h N1 _ λb a1 b2 c1 i1 h1 N2 b3 aa _ _=>Br.of (λ_ N3 ae=>zQY aa a1 c1 h1 N3 _ λd a2 ah c2 i2 h2 N4 ai O hd _ _ _=>⟨zU,λN5 aj=>hQ _ _ _ _ _ _ _ (by omega) O hd⟩) λ_ N3 ae=>?_
 have cd:∀ {t:Ty} {d:D} (_:t.Is d) (_:t.cnt<=100) (N:Nat) (Q:QT [.ag 2]) (_:∀ d' N',N<=N'->(zAX t).Is d'->Q d' N'),ACalls prog 152 [.ag 2] [.dg 2 d] N Q:=λ{t d} ht hc N Q hQ=>wn t d ht (by omega) N _ λe N' h he _=>hQ e N' h he
 have ii:(zPX tInt tInt).cnt<=100:=by decide
 refine vS N3 _ λJ N4 ai I _ _ _ N5 aj=>vk N5 _ λx2 N6 b4 k2 _ _ _ N7 b5=>cd I (by decide) N7 _ λx3 N8 b6 k3 _ _ N9 b7=>tF tInt tInt J J I I (by decide) (by decide) N9 _ λx4 b8 a6 k4 _ _ _ ak a7=>cd k4 ii ak _ λx5 b9 a8 k5 _ _ al ba=>tF tInt tInt J J I I (by decide) (by decide) al _ λx6 ca bb k6 _ _ _ am bc=>cd I (by decide) am _ λx7 cc bd k7 _ _ ao bg=>cd k7 (by decide) ao _ λx8 ce bh k8 _ _ aq bi=>cd I (by decide) aq _ λx9 cf bj k9 _ _ au bm=>?_
 refine yZ aa 8 (by omega) a1 c1 h1 au _ λr a2 ah c2 i2 h2 cg bn O r0 r8 _ _ _=>?_
 have r8:=r8 (by omega)
 have ab:∀ d∈[J,x2,x3,x5,x6,x8,J,x9],WfD 5 d:=λd hd=>by
  simp only [oI,nG,mZ] at hd
  rcases hd with rfl | rfl | rfl | rfl | rfl | rfl | rfl | rfl
  ·exact ⟨_,.int,I,by decide⟩
  ·exact ⟨_,.bool,k2,by decide⟩
  ·exact ⟨_,.code .int,k3,by decide⟩
  ·exact ⟨_,.code (.fn .int .int),k5,by decide⟩
  ·exact ⟨_,.fn .int .int,k6,by decide⟩
  ·exact ⟨_,.code (.code .int),k8,by decide⟩
  ·exact ⟨_,.int,I,by decide⟩
  ·exact ⟨_,.code .int,k9,by decide⟩
 have U:0+r.toNat<[J,x2,x3,x5,x6,x8,J,x9].length:=by simp;omega
 refine ⟨⟨r0,r8,U⟩,U,λaw bp=>yZ O 3 (by omega) a2 c2 h2 aw _ λq a3 ch c3 i3 h3 cj bq ax q0 q3 _ _ _=>⟨⟨rfl,rfl⟩,λa4 ck bt _ ay bv=>?_⟩⟩
 have q3:=q3 (by omega)
 obtain ⟨t,hw,ht,cm⟩:=zTz ab U
 have e:IntKind.i64.wrap (3+q)=((3+q).toNat:Int):=by rw [i64_in _ (by omega)];omega
 rw [e]
 exact zTq (k:=(3+q).toNat) (by omega) (by omega) t hw (by omega) ht (g:=[]) ⟨by simp,rfl⟩ (by simp;omega) (by simp) 0 a4 0 ax a3 c3 h3 ay _ λd a5 cn c5 i5 h5 co bw az hd _ _ _=>⟨zU,λcp bz=>hQ _ _ _ _ _ _ _ (by omega) az (hd.mono (by omega))⟩
end Go.Proofs.YtmfjakahanbnlaaGreatDoor
