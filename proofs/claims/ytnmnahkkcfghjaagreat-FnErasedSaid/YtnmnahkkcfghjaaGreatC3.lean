/- Drawing: types, and terms that need not have a type. -/
import Derived.Test.YtnmnahkkcfghjaaGreatC1
import Derived.Test.YtnmnahkkcfghjaaGreatKe
set_option linter.unusedVariables false
set_option linter.unusedSimpArgs false
set_option maxRecDepth 100000
namespace Go.Proofs.YtnmnahkkcfghjaaGreat
open Go Go.Proofs Go.Proofs.Tryz Go.IntWalk
/-- some type of at most this many nodes -/
def SmT (m:Nat) (d:D):Prop:=∃ t:Ty,t.Is d/\t.cnt<=m
theorem SmT.mono {m n:Nat} {d:D} (h:SmT m d) (J:m<=n):SmT n d:=by obtain ⟨t,I,O⟩:=h;exact ⟨t,I,by omega⟩
theorem SmT.cells {m:Nat} {d:D} (h:SmT m d):SmT m (.ag [d.cell 0,d.cell 1]):=by obtain ⟨t,I,J⟩:=h;exact ⟨t,Ty.is_cells I,J⟩
/-- its row has no room behind it -/
def Ex (d:D):Prop:=∃ k a es c,d=.ag [.j k,.sl a 2 es c]/\(c=es.length/\es.length<=1000)
theorem zH7 (k:Int):SmT 1 (.ag [.j k,.sl none 2 [] 0]):=⟨_,yz k,by simp [Ty.cnt,zG]⟩
theorem zMk {m:Nat} (hm:m<=1073741824) {d:D} (hd:SmT m d) (N:Nat) (Q:QT [.ag 2]) (I:∀ d' N',N<=N'->SmT (1+m) d'->Ex d'->Q d' N'):ACalls prog 54 [.ag 2] [.dg 2 d] N Q:=by
 obtain ⟨t,J,h2⟩:=hd
 refine qg N d Q λ_ N1 O=>zH t d J (by omega) N1 _ λx N2 U Y _ _ _=>⟨⟨rfl,rfl⟩,⟨rfl,rfl⟩,⟨rfl,rfl⟩,λa N3 aa _ N4 ab=>I _ _ (by omega) ⟨yd t,Ty.is_mk.2 ⟨_,_,_,rfl,by simp,x,[],rfl,Y,rfl⟩,?_⟩ ⟨_,_,_,_,rfl,rfl,by simp⟩⟩
 simp only [yd,Ty.cnt,zG]
 omega
theorem zPA {m:Nat} (hm:m<=1073741824) {d e:D} (hd:SmT m d) (I:SmT m e) (N:Nat) (Q:QT [.ag 2]) (J:∀ d' N',N<=N'->SmT (1+2*m) d'->Ex d'->Q d' N'):ACalls prog 55 [.ag 2] [.dg 2 d,.dg 2 e] N Q:=by
 obtain ⟨t,O,h2⟩:=hd
 obtain ⟨u,U,h4⟩:=I
 refine zA9 N d e Q λ_ _ N1 Y=>zH t d O (by omega) N1 _ λx N2 aa hx _ _ _ N3 ab=>zH u e U (by omega) N3 _ λy N4 ac hy _ _ _=>⟨⟨rfl,rfl⟩,⟨rfl,rfl⟩,⟨rfl,rfl⟩,λa N5 ae _ N6 ah=>J _ _ (by omega) ⟨wA t u,Ty.is_mk.2 ⟨_,_,_,rfl,by simp,x,[y],rfl,hx,y,[],rfl,hy,rfl⟩,?_⟩ ⟨_,_,_,_,rfl,rfl,by simp⟩⟩
 simp only [wA,Ty.cnt,zG]
 omega
def TyC (b:Int) (X:Nat):Prop:=∀ (n:Int),n<=b->∀ {es:List D} {i:Int} (_:Cu es i) (a:Option Addr) (c:Nat) (h:Int) (N:Nat) (Q:QT [.ag 2,.sl 0,.i,.i])
    (_:∀ d' J I O i' U N',N<=N'->Cu I i'->SmT X d'->Ex d'->Q d' J I O i' U N'),BCalls prog 38 [.ag 2,.sl 0,.i,.i] [.pb 0 0 0 0,.j n] [.var [.sv a 0 es c,.j i,.j h]] N Q
theorem zRZ:TyC 1 1:=λn hn es i I a c h N Q O=>by
 refine xc N n a es c i h Q λE _=>Br.dec (λ_ N1 U=>?_) λg=>absurd (by omega) g
 exact vC (l:=[1,1,2]) I (by decide) (by decide) a c h 3 3 N1 _ λk a' Y c' i' h' N2 aa J _ _ _ _=>⟨zV,λN3 ab=>O _ _ _ _ _ _ _ (by omega) J (zH7 k) ⟨_,_,_,_,rfl,rfl,by simp⟩⟩
theorem zIR {b:Int} {X:Nat} (hb:b<=1000) (hX:1<=X) (a6:X<=1000000) (ih:TyC b X):TyC (b+1) (1+2*X):=λn hn es i I a c h N Q hQ=>by
 have pk:∀ (E:Env) {es:List D} {i:Int} (_:Cu es i) a c h N1,N<=N1->BCalls prog 47 [.i,.sl 0,.i,.i,.sl 0] [.pb 0 0 0 0,.sb 1 0 0 3 3] [.var [.sv a 0 es c,.j i,.j h],.arr 3 0 (zG0 [1,1,2]) 3] N1
   (λn a es c ac ae ah U ai N2=>N1<=N2->Bel N2 (D.sl a 0 es c)->Bel N2 (D.sl ah 0 U ai)->zR E [.var [.sv none 0 [] 0,.j 0,.j 0]]/\∀ N3,N2<=N3->Q (D.ag [D.j n,D.sl Option.none 2 [] 0]) a es c ac ae N3):=λE es i I a c h N1 J=>
  vC (l:=[1,1,2]) I (by decide) (by decide) a c h 3 3 N1 _ λk a' a7 c' i' h' N2 aj ak _ _ _ _=>⟨zV,λN3 Y=>hQ _ _ _ _ _ _ _ (by omega) ak ((zH7 k).mono (by omega)) ⟨_,_,_,_,rfl,rfl,by simp⟩⟩
 refine xc N n a es c i h Q λE _=>Br.dec (λ_ N1 J=>pk E I _ _ _ N1 J) λa8 N1 J=>vW I 2 (by omega) a c h N1 _ λb1 a1 a9 c1 i1 h1 N2 aj aa _ _=>Br.of (λ_ N3 Y=>pk E aa _ _ _ N3 (by omega)) λ_ N3 Y=>?_
 refine vW aa 2 (by omega) a1 c1 h1 N3 _ λb2 a2 ba c2 i2 h2 N4 bb ab _ _=>Br.of (λ_ N5 al=>?_) λ_ N5 al=>?_
 ·rw [i64_in (n - 1) (by omega)]
  exact ih (n - 1) (by omega) ab a2 c2 h2 N5 _ λd a3 am c3 i3 h3 N6 ao O hd _ _ _ _ N7 aq=>zMk (by omega) hd N7 _ λe N8 au he hx _ _=>⟨zV,λN9 aw=>hQ _ _ _ _ _ _ _ (by omega) O (he.mono (by omega)) hx⟩
 ·rw [i64_in (n - 1) (by omega)]
  refine ih (n - 1) (by omega) ab a2 c2 h2 N5 _ λd a3 am c3 i3 h3 N6 ao O hd _ _ _ _ N7 aq=>?_
  exact ih (n - 1) (by omega) O a3 c3 h3 N7 _ λd2 a4 bc c4 i4 h4 N8 au ax ay _ _ _ _ N9 aw=>zPA (by omega) hd ay N9 _ λe bg az he hx _ _=>⟨zV,λbh a5=>hQ _ _ _ _ _ _ _ (by omega) ax he hx⟩
theorem zHs:TyC 2 3:=zIR (b:=1) (by omega) (by omega) (by omega) zRZ
theorem zP3:TyC 4 15:=zIR (b:=3) (by omega) (by omega) (by omega) (zIR (b:=2) (by omega) (by omega) (by omega) zHs)
theorem zPX {es:List D} {i:Int} (I:Cu es i) (a:Option Addr) (c:Nat) (h:Int) (N:Nat) (Q:QT [.ag 2,.sl 0,.i,.i])
  (hQ:∀ d' a' ae c' i' h' N',N<=N'->Cu ae i'->SmT 200 d'->Q d' a' ae c' i' h' N'):BCalls prog 50 [.ag 2,.sl 0,.i,.i] [.pb 0 0 0 0] [.var [.sv a 0 es c,.j i,.j h]] N Q:=by
 refine zBH N a es c i h Q λE _ N1 aq=>zP3 4 (by omega) I a c h N1 _ λd a1 au c1 i1 h1 N2 aw aj hd hx _ _ _ N3 ax=>?_
 have lc:∀ (m:Nat) (y:D) (a es c i h) (N':Nat) (n4 n5:Int),n4<=n5+m->0<=n5->n4<=1000->m<=6->N<=N'->Cu es i->SmT (21 - m) y->xi E Q N n4 n5 a es c i h 0 none [] 0 y N':=by
  intro m
  induction m with
  | zero=>
    intro y a es c i h N' n4 n5 h1 h2 h5 h6 h3 I O
    exact t4 _ _ _ _ _ _ _ _ _ _ _ _ _ _ _ _ (Br.dec (λg=>by omega) λ_=>⟨zV,λN4 J=>hQ _ _ _ _ _ _ _ (by omega) I (O.mono (by omega))⟩)
  | succ m ab=>
    intro y a es c i h N' n4 n5 h1 h2 h5 h6 h3 I O
    refine t4 _ _ _ _ _ _ _ _ _ _ _ _ _ _ _ _ (Br.dec (λg N4 J=>zMk (by omega) O N4 _ λe N5 U he _ _ _=>?_) λ_=>⟨zV,λN4 J=>hQ _ _ _ _ _ _ _ (by omega) I (O.mono (by omega))⟩)
    rw [i64_in (n5+1) (by omega)]
    exact ab _ _ _ _ _ _ _ _ _ (by omega) (by omega) (by omega) (by omega) (by omega) I (he.mono (by omega))
 have lf:∀ (m k:Nat) (y:D) (a es c i h) (N':Nat),m+k=3->N<=N'->Cu es i->SmT (16*2 ^ k - 1) y->xh E Q N k a es c i h 0 none [] 0 y N':=by
  have p3:∀ k:Nat,k<=3->2 ^ k<=8:=λk hk=>by rcases (by omega:k=0\/k=1\/k=2\/k=3) with rfl | rfl | rfl | rfl<;>decide
  intro m
  induction m with
  | zero=>
    intro k y a es c i h N' h1 h3 I O
    have:=p3 k (by omega)
    exact th _ _ _ _ _ _ _ _ _ _ _ _ _ _ _ (Br.dec (λg=>by omega) λ_=>⟨zV,λN4 J=>hQ _ _ _ _ _ _ _ (by omega) I (O.mono (by omega))⟩)
  | succ m ab=>
    intro k y a es c i h N' h1 h3 I O
    have:=p3 k (by omega)
    have h0:1<=2 ^ k:=Nat.one_le_two_pow
    refine th _ _ _ _ _ _ _ _ _ _ _ _ _ _ _ (Br.dec (λg N4 J=>zPA (by omega) O O N4 _ λe N5 U he _ _ _=>?_) λ_=>⟨zV,λN4 J=>hQ _ _ _ _ _ _ _ (by omega) I (O.mono (by omega))⟩)
    rw [i64_in ((k:Int)+1) (by omega)]
    exact ab (k+1) _ _ _ _ _ _ _ (by omega) (by omega) I (he.mono (by rw [ms];omega))
 obtain ⟨k,ra,rs,rc,rfl,ak,ay⟩:=hx
 obtain ⟨t,ht,ah⟩:=hd
 obtain ⟨k',l,rfl⟩:∃ k l,t=Ty.mk k l:=by cases t;exact ⟨_,_,rfl⟩
 obtain ⟨_,_,_,he,hl,Y⟩:=Ty.is_mk.1 ht
 cases he
 simp only [Ty.cnt] at ah
 refine zw aj 10 (by omega) a1 c1 h1 N3 _ λx a2 az c2 i2 h2 N4 J aa _ _ _ _ _=>Br.beq (λ_ N5 U=>?_) λ_=>Br.beq (λ_=>⟨_,_,_,rfl,λN5 U=>?_⟩) λ_=>Br.beq (λ_ N5 U=>?_) λ_=>Br.beq (λ_=>?_) λ_=>⟨zV,λN5 U=>hQ _ _ _ _ _ _ _ (by omega) aa ⟨_,ht,by simp only [Ty.cnt];omega⟩⟩
 ·exact zw aa 6 (by omega) a2 c2 h2 N5 _ λy a3 al c3 i3 h3 N6 ai ac _ _ _ _ _=>⟨zV,λN7 am=>hQ _ _ _ _ _ _ _ (by omega) ac ⟨.mk y l,Ty.is_mk.2 ⟨_,_,_,rfl,hl,Y⟩,by simp only [Ty.cnt];omega⟩⟩
 ·refine xG N5 _ λy N6 ai O _ _ _=>⟨?_,by unfold zA;rw [oI];simp only [oO,oX];omega,λc4=>⟨⟨rfl,rfl⟩,⟨rfl,rfl⟩,⟨rfl,rfl⟩,⟨rfl,rfl⟩,λa4 N7 am _=>⟨zV,λN8 a5=>hQ _ _ _ _ _ _ _ (by omega) aa ⟨.mk k (l++[tInt]),Ty.is_mk.2 ⟨_,_,_,rfl,by simp;omega,Y.snoc O⟩,?_⟩⟩⟩⟩
  ·unfold zLT
   split
   ·trivial
   ·exact ⟨ak,by simp⟩
  ·have:zG (l++[tInt])=zG l+1:=by
    clear ht ah Y hl
    induction l with
    | nil=>rfl
    | cons u l ao=>simp only [nG,zG,ao];omega
   simp only [Ty.cnt]
   omega
 ·refine zw aa 6 (by omega) a2 c2 h2 N5 _ λy a3 al c3 i3 h3 N6 ai ac y0 y1 _ _ _=>?_
  have y1:=y1 (by omega)
  simp only [i64_in (1+y) (by omega)]
  exact lc 6 _ _ _ _ _ _ _ _ _ (by omega) (by omega) (by omega) (by omega) (by omega) ac ⟨_,ht,by simp only [Ty.cnt];omega⟩
 ·exact lf 3 0 _ _ _ _ _ _ _ (by omega) (by omega) aa ⟨_,ht,by simp only [Ty.cnt];omega⟩
/-- the cells of some term, but for its kind and number and the place of its row -/
def PkT (m:Nat) (s I:ByteArray) (x J O U:D) (es:List D):Prop:=∃ (ty re:Ty) (l:List Tm),s.size<=4611686018427387904/\I.size<=4611686018427387904/\ty.Is (.ag [x,J])/\re.Is (.ag [O,U])/\All2 Tm.Is l es/\es.length<=1000/\1+ty.cnt+re.cnt+4*vB l<=m
theorem PkT.some {m:Nat} {s I:ByteArray} {x J O U:D} {es:List D} (h:PkT m s I x J O U es) (k n:Int) (a:Option Addr) (c:Nat):Some m (.ag [.j k,.t s,.t I,.j n,x,J,O,U,.sl a 9 es c]):=by
 obtain ⟨ty,re,l,Y,h2,h3,h4,h5,h6,h7⟩:=h
 exact ⟨.mk k s I n ty re l,Tm.is_mk.2 ⟨_,_,_,_,_,_,_,rfl,⟨Y,h2,h3,h4⟩,by omega,h5⟩,by
  have h8:2 ^ bn k<=2 ^ 2:=nk (by omega) (zPN k)
  have h9:=oe (vB l) h8
  simp only [Tm.wt];omega⟩
theorem PkT.mono {m n:Nat} {s I:ByteArray} {x J O U:D} {es:List D} (h:PkT m s I x J O U es) (hn:m<=n):PkT n s I x J O U es:=by
 obtain ⟨ty,re,l,Y,h2,h3,h4,h5,h6,h7⟩:=h
 exact ⟨ty,re,l,Y,h2,h3,h4,h5,h6,by omega⟩
theorem PkT.name {m:Nat} {s I:ByteArray} {x J O U:D} {es:List D} (h:PkT m s I x J O U es) {t:ByteArray} (ht:t.size<=1000):PkT m t I x J O U es:=by
 obtain ⟨ty,re,l,h1,Y,h3,h4,h5,h6,h7⟩:=h
 exact ⟨ty,re,l,by omega,Y,h3,h4,h5,h6,h7⟩
theorem PkT.other {m:Nat} {s U:ByteArray} {x I J O:D} {es:List D} (h:PkT m s U x I J O es) {t:ByteArray} (ht:t.size<=1000):PkT m s t x I J O es:=by
 obtain ⟨ty,re,l,Y,h2,h3,h4,h5,h6,h7⟩:=h
 exact ⟨ty,re,l,Y,by omega,h3,h4,h5,h6,h7⟩
theorem PkT.type {m M:Nat} {s I:ByteArray} {x Y J O y U:D} {es:List D} (h:PkT m s I x Y J O es) (hy:SmT M (.ag [y,U])):PkT (m+M) s I y U J O es:=by
 obtain ⟨ty,re,l,h1,h2,h3,h4,h5,h6,h7⟩:=h
 obtain ⟨t,h8,h9⟩:=hy
 exact ⟨t,re,l,h1,h2,h8,h4,h5,h6,by omega⟩
theorem zEm (t:Tm):∀ l:List Tm,vB (l++[t])=vB l+t.wt
 | []=>by simp [vB]
 | x::l=>by simp only [nG,vB,zEm t l];omega
theorem PkT.snoc {m M:Nat} {s I:ByteArray} {x J O U d:D} {es:List D} (h:PkT m s I x J O U es) (hd:Some M d) (hl:es.length<=999):PkT (m+4*M) s I x J O U (es++[d]):=by
 obtain ⟨ty,re,l,Y,h2,h3,h4,h5,h6,h7⟩:=h
 obtain ⟨t,h8,h9⟩:=hd
 exact ⟨ty,re,l++[t],Y,h2,h3,h4,h5.snoc h8,by simp;omega,by rw [zEm];omega⟩
theorem zEc {s I:ByteArray} (hs:s.size<=1000) (Y:I.size<=1000) {x J O U:D} (h1:SmT 7 (.ag [x,J])) (h2:SmT 7 (.ag [O,U])):PkT 15 s I x J O U []:=by
 obtain ⟨t,h3,h4⟩:=h1
 obtain ⟨u,h5,h6⟩:=h2
 exact ⟨t,u,[],by omega,by omega,h3,h5,rfl,by simp,by simp only [vB];omega⟩
theorem zIQ:SmT 7 (.ag [D.j 0,D.sl none 2 [] 0]):=(zH7 0).mono (by omega)
def zJY (b:Int) (X:Nat):Prop:=∀ (n:Int),n<=b->∀ {es:List D} {i:Int} (_:Cu es i) (a:Option Addr) (c:Nat) (h:Int) (N:Nat) (Q:QT [.pk,.i,.str,.str,.i,.dc,.dc,.dc,.dc,.row 29 9,.sl 0,.i,.i])
    (_:∀ k s J n' x O U Y r q a' I c' i' h' N',N<=N'->Cu I i'->PkT X s J x O U Y r->r.length<=3->Q k s J n' x O U Y r q a' I c' i' h' N'),BCalls prog 46 [.pk,.i,.str,.str,.i,.dc,.dc,.dc,.dc,.row 29 9,.sl 0,.i,.i] [.pb 0 0 0 0,.j n] [.var [.sv a 0 es c,.j i,.j h]] N Q
theorem zOo {es:List D} {i:Int} (ah:Cu es i) (a:Option Addr) (c:Nat) (h:Int) (N:Nat) (Q:QT [.pk,.i,.str,.str,.i,.dc,.dc,.dc,.dc,.row 29 9,.sl 0,.i,.i])
  (hQ:∀ k s s1 n' x x1 x2 x3 r q a' O c' i' h' N',N<=N'->Cu O i'->PkT 15 s s1 x x1 x2 x3 r->r.length<=3->Q k s s1 n' x x1 x2 x3 r q a' O c' i' h' N'):BCalls prog 80 [.pk,.i,.str,.str,.i,.dc,.dc,.dc,.dc,.row 29 9,.sl 0,.i,.i] [.pb 0 0 0 0] [.var [.sv a 0 es c,.j i,.j h]] N Q:=by
 have z:PkT 15 (bytes []) (bytes []) (D.j 0) (D.sl none 2 [] 0) (D.j 0) (D.sl none 2 [] 0) []:=zEc (by decide) (by decide) zIQ zIQ
 refine zBo N a es c i h Q λE _ N1 ai=>zw ah 4 (by omega) a c h N1 _ λx a1 aj c1 i1 h1 N2 ak J _ _ _ _ _=>Br.beq (λ_ N3 U=>?_) λ_=>Br.beq (λ_ N3 U=>?_) λ_ N3 U=>?_
 ·exact vC (l:=[0,1,2,3,10006]) J (by decide) (by decide) a1 c1 h1 5 5 N3 _ λk a2 Y c2 i2 h2 N4 aa I _ _ _ _ N5 ab=>zDx N5 k _ λN6 ac _ _=>⟨zV,⟨rfl,rfl⟩,λN7 ae=>hQ _ _ _ _ _ _ _ _ _ _ _ _ _ _ _ _ (by omega) I z (by simp)⟩
 ·exact zw J 2 (by omega) a1 c1 h1 N3 _ λk a2 Y c2 i2 h2 N4 aa I _ _ _ _ _ N5 ab=>zDI N5 k _ λN6 ac _ _=>⟨zV,⟨rfl,rfl⟩,λN7 ae=>hQ _ _ _ _ _ _ _ _ _ _ _ _ _ _ _ _ (by omega) I z (by simp)⟩
 ·refine uV (l:=[bytes [120],bytes [121],bytes [102]]) J (by decide) (by decide) a1 c1 h1 3 3 N3 _ λs a2 Y c2 i2 h2 N4 aa I hs _ _ _ N5 ab=>qG N5 s _ λN6 ac _ _=>⟨zV,⟨rfl,rfl⟩,λN7 ae=>hQ _ _ _ _ _ _ _ _ _ _ _ _ _ _ _ _ (by omega) I (z.name ?_) (by simp)⟩
  simp only [oF,od,nl] at hs
  rcases hs with rfl | rfl | rfl<;>decide
theorem zQO:zJY 1 15:=λn hn es i I a c h N Q O=>sc N n a es c i h Q λE _=>Br.dec (λ_ N1 U=>zOo I a c h N1 _ λk s s1 n' x x1 x2 x3 r q a' Y c' i' h' N2 aa J hp hr _ _ _=>⟨zV,⟨rfl,rfl⟩,λN3 ab=>O _ _ _ _ _ _ _ _ _ _ _ _ _ _ _ _ (by omega) J hp hr⟩) λg=>absurd (by omega) g
theorem zSq {b:Int} {X:Nat} (hb:b<=1000) (hX:15<=X) (ih:zJY b X) {E:Env} {N:Nat} {Q:QT [.pk,.i,.str,.str,.i,.dc,.dc,.dc,.dc,.row 29 9,.sl 0,.i,.i]} {n:Int} (hn:n - 1<=b) (ah:2<=n) (kd n3:Int) (s J:ByteArray) (O U Y x7:D) {m6:Int} (hm:m6<=3)
  (hQ:∀ r q a es c i h N',N<=N'->Cu es i->PkT (15+3*(4*X)) s J O U Y x7 r->r.length<=3->Q kd s J n3 O U Y x7 r q a es c i h N') :
  ∀ (rem k:Nat) (r:List D) (q:Nat) a es c i h N',m6<=k+rem->k<=3->r.length=k->N<=N'->Cu es i->PkT (15+k*(4*X)) s J O U Y x7 r->wO E Q N n m6 k a es c i h 0 (bytes []) (bytes []) 0 0 none [] 0 0 none [] 0 none [] 0 kd s J n3 O U Y x7 r.length q r q N':=by
 intro rem
 induction rem with
 | zero=>
   intro k r q a es c i h N' h1 h2 h3 h4 I hp
   have hk:k*(4*X)<=3*(4*X):=oe _ h2
   refine sT _ _ _ _ _ _ _ _ _ _ _ _ _ _ _ _ _ _ _ _ _ _ _ _ _ _ _ _ _ _ _ _ _ _ _ _ _ _ _ (Br.dec (λg=>by omega) λ_=>⟨zV,⟨rfl,rfl⟩,λN4 aa=>hQ _ _ _ _ _ _ _ _ (by omega) I (hp.mono (by omega)) (by omega)⟩)
 | succ rem ab=>
   intro k r q a es c i h N' h1 h2 h3 h4 I hp
   have hk:k*(4*X)<=3*(4*X):=oe _ h2
   refine sT _ _ _ _ _ _ _ _ _ _ _ _ _ _ _ _ _ _ _ _ _ _ _ _ _ _ _ _ _ _ _ _ _ _ _ _ _ _ _ (Br.dec (λg N1 ai=>?_) λ_=>⟨zV,⟨rfl,rfl⟩,λN4 aa=>hQ _ _ _ _ _ _ _ _ (by omega) I (hp.mono (by omega)) (by omega)⟩)
   rw [i64_in (n - 1) (by omega)]
   refine ih (n - 1) hn I a c h N1 _ λk' t t1 n' y y1 y2 y3 aj c' a' ak c2 i2 h2 N2 al ac ae _ _ _ _=>⟨⟨rfl,rfl⟩,λa1 N3 am _=>⟨⟨rfl,rfl⟩,by unfold zA;rw [oI];simp only [oO,oX];omega,λc3=>?_⟩⟩
   rw [i64_in ((k:Int)+1) (by omega)]
   exact ab (k+1) _ c3 _ _ _ _ _ _ (by omega) (by omega) (by simp [h3]) (by omega) ac ((hp.snoc (ae.some _ _ _ _) (by omega)).mono (by rw [o8,mb];omega))
theorem zSN {b:Int} {X:Nat} (hb:b<=1000) (hX:15<=X) (ih:zJY b X) {E:Env} {N:Nat} {Q:QT [.pk,.i,.str,.str,.i,.dc,.dc,.dc,.dc,.row 29 9,.sl 0,.i,.i]} {n:Int} (hn:n - 1<=b) (J:2<=n) (kd n3:Int) {s I:ByteArray} (hs:s.size<=1000) (O:I.size<=1000) (U Y x6 x7:D) (hT:SmT 7 (.ag [U,Y])) (hR:SmT 7 (.ag [x6,x7]))
  (hQ:∀ k s I n' x x1 x2 x3 r q a es c i h N',N<=N'->Cu es i->PkT (15+3*(4*X)) s I x x1 x2 x3 r->r.length<=3->Q k s I n' x x1 x2 x3 r q a es c i h N') {es:List D} {i:Int} (aa:Cu es i) (a:Option Addr) (c:Nat) (h:Int) {N':Nat} (ab:N<=N') :
  vq E Q N n a es c i h 0 (bytes []) (bytes []) 0 0 none [] 0 0 none [] 0 none [] 0 kd s I n3 U Y x6 x7 0 0 [] 0 N':=by
 refine zCh _ _ _ _ _ _ _ _ _ _ _ _ _ _ _ _ _ _ _ _ _ _ _ _ _ _ _ _ _ _ _ _ _ _ _ _ _ ⟨⟨rfl,rfl⟩,λa7 _ N1 ac _=>xV N1 _ λN2 ae _=>zSq hb hX ih hn J kd n3 s I U Y x6 x7 (uo _ _) (λr q a es c i h N'=>hQ _ _ _ _ _ _ _ _ r q a es c i h N') 3 0 [] 0 a es c i h N2 (by have:=uo kd s;omega) (by omega) rfl (by omega) aa ((zEc hs O hT hR).mono (by omega))⟩
theorem zNn {b:Int} {X:Nat} (hb:b<=1000) (hX:15<=X) (ih:zJY b X) {E:Env} {N:Nat} {Q:QT [.pk,.i,.str,.str,.i,.dc,.dc,.dc,.dc,.row 29 9,.sl 0,.i,.i]} {n:Int} (hn:n - 1<=b) (ah:2<=n) (kd n3:Int) (s J:ByteArray) (O U:D) {m6:Int} (hm:m6<=3)
  (hQ:∀ r q a es c i h N',N<=N'->Cu es i->PkT (15+3*(4*X)) s J O U (D.j 0) (D.sl none 2 [] 0) r->r.length<=3->Q kd s J n3 O U (D.j 0) (D.sl none 2 [] 0) r q a es c i h N') :
  ∀ (rem k:Nat) (r:List D) (q:Nat) a es c i h N',m6<=k+rem->k<=3->r.length=k->N<=N'->Cu es i->PkT (15+k*(4*X)) s J O U (D.j 0) (D.sl none 2 [] 0) r->xC E Q N n m6 k a es c i h 0 (bytes []) (bytes []) 0 0 none [] 0 0 none [] 0 none [] 0 kd s J n3 O U 0 none [] 0 r.length q r q N':=by
 intro rem
 induction rem with
 | zero=>
   intro k r q a es c i h N' h1 Y h3 h4 I hp
   have hk:k*(4*X)<=3*(4*X):=oe _ Y
   refine uU _ _ _ _ _ _ _ _ _ _ _ _ _ _ _ _ _ _ _ _ _ _ _ _ _ _ _ _ _ _ _ _ _ _ _ _ _ _ _ _ _ (Br.dec (λg=>by omega) λ_=>⟨zV,⟨rfl,rfl⟩,λN4 aa=>hQ _ _ _ _ _ _ _ _ (by omega) I (hp.mono (by omega)) (by omega)⟩)
 | succ rem ab=>
   intro k r q a es c i h N' h1 Y h3 h4 I hp
   have hk:k*(4*X)<=3*(4*X):=oe _ Y
   refine uU _ _ _ _ _ _ _ _ _ _ _ _ _ _ _ _ _ _ _ _ _ _ _ _ _ _ _ _ _ _ _ _ _ _ _ _ _ _ _ _ _ (Br.dec (λg N1 ai=>?_) λ_=>⟨zV,⟨rfl,rfl⟩,λN4 aa=>hQ _ _ _ _ _ _ _ _ (by omega) I (hp.mono (by omega)) (by omega)⟩)
   rw [i64_in (n - 1) (by omega)]
   refine ih (n - 1) hn I a c h N1 _ λk' t t1 n' y y1 y2 y3 aj c' a' ak c2 i2 Y N2 al ac ae _ _ _ _=>⟨⟨rfl,rfl⟩,λa1 N3 am _=>⟨⟨rfl,rfl⟩,by unfold zA;rw [oI];simp only [oO,oX];omega,λc3=>?_⟩⟩
   rw [i64_in ((k:Int)+1) (by omega)]
   exact ab (k+1) _ c3 _ _ _ _ _ _ (by omega) (by omega) (by simp [h3]) (by omega) ac ((hp.snoc (ae.some _ _ _ _) (by omega)).mono (by rw [o8,mb];omega))
theorem zNi {b:Int} {X:Nat} (hb:b<=1000) (hX:15<=X) (ih:zJY b X) {E:Env} {N:Nat} {Q:QT [.pk,.i,.str,.str,.i,.dc,.dc,.dc,.dc,.row 29 9,.sl 0,.i,.i]} {n:Int} (hn:n - 1<=b) (J:2<=n) (kd n3:Int) {s I:ByteArray} (hs:s.size<=1000) (O:I.size<=1000) (U Y:D) (hT:SmT 7 (.ag [U,Y])) (hR:SmT 7 (.ag [(D.j 0),(D.sl none 2 [] 0)]))
  (hQ:∀ k s I n' x x1 x2 x3 r q a es c i h N',N<=N'->Cu es i->PkT (15+3*(4*X)) s I x x1 x2 x3 r->r.length<=3->Q k s I n' x x1 x2 x3 r q a es c i h N') {es:List D} {i:Int} (aa:Cu es i) (a:Option Addr) (c:Nat) (h:Int) {N':Nat} (ab:N<=N') :
  wH E Q N n a es c i h 0 (bytes []) (bytes []) 0 0 none [] 0 0 none [] 0 none [] 0 kd s I n3 U Y 0 none [] 0 0 0 [] 0 N':=by
 refine pq _ _ _ _ _ _ _ _ _ _ _ _ _ _ _ _ _ _ _ _ _ _ _ _ _ _ _ _ _ _ _ _ _ _ _ _ _ _ _ ⟨⟨rfl,rfl⟩,λa7 _ N1 ac _=>xV N1 _ λN2 ae _=>zNn hb hX ih hn J kd n3 s I U Y (uo _ _) (λr q a es c i h N'=>hQ _ _ _ _ _ _ _ _ r q a es c i h N') 3 0 [] 0 a es c i h N2 (by have:=uo kd s;omega) (by omega) rfl (by omega) aa ((zEc hs O hT hR).mono (by omega))⟩
theorem zOK {b:Int} {X:Nat} (hb:b<=1000) (hX:15<=X) (ih:zJY b X) {E:Env} {N:Nat} {Q:QT [.pk,.i,.str,.str,.i,.dc,.dc,.dc,.dc,.row 29 9,.sl 0,.i,.i]} {n:Int} (hn:n - 1<=b) (ah:2<=n) (kd n3:Int) (s J:ByteArray) (O U:D) {m6:Int} (hm:m6<=3)
  (hQ:∀ r q a es c i h N',N<=N'->Cu es i->PkT (15+3*(4*X)) s J (D.j 0) (D.sl none 2 [] 0) O U r->r.length<=3->Q kd s J n3 (D.j 0) (D.sl none 2 [] 0) O U r q a es c i h N') :
  ∀ (rem k:Nat) (r:List D) (q:Nat) a es c i h N',m6<=k+rem->k<=3->r.length=k->N<=N'->Cu es i->PkT (15+k*(4*X)) s J (D.j 0) (D.sl none 2 [] 0) O U r->yw E Q N n m6 k a es c i h 0 (bytes []) (bytes []) 0 0 none [] 0 0 none [] 0 none [] 0 kd s J n3 0 none [] 0 O U r.length q r q N':=by
 intro rem
 induction rem with
 | zero=>
   intro k r q a es c i h N' h1 Y h3 h4 I hp
   have hk:k*(4*X)<=3*(4*X):=oe _ Y
   refine uZ _ _ _ _ _ _ _ _ _ _ _ _ _ _ _ _ _ _ _ _ _ _ _ _ _ _ _ _ _ _ _ _ _ _ _ _ _ _ _ _ _ (Br.dec (λg=>by omega) λ_=>⟨zV,⟨rfl,rfl⟩,λN4 aa=>hQ _ _ _ _ _ _ _ _ (by omega) I (hp.mono (by omega)) (by omega)⟩)
 | succ rem ab=>
   intro k r q a es c i h N' h1 Y h3 h4 I hp
   have hk:k*(4*X)<=3*(4*X):=oe _ Y
   refine uZ _ _ _ _ _ _ _ _ _ _ _ _ _ _ _ _ _ _ _ _ _ _ _ _ _ _ _ _ _ _ _ _ _ _ _ _ _ _ _ _ _ (Br.dec (λg N1 ai=>?_) λ_=>⟨zV,⟨rfl,rfl⟩,λN4 aa=>hQ _ _ _ _ _ _ _ _ (by omega) I (hp.mono (by omega)) (by omega)⟩)
   rw [i64_in (n - 1) (by omega)]
   refine ih (n - 1) hn I a c h N1 _ λk' t t1 n' y y1 y2 y3 aj c' a' ak c2 i2 Y N2 al ac ae _ _ _ _=>⟨⟨rfl,rfl⟩,λa1 N3 am _=>⟨⟨rfl,rfl⟩,by unfold zA;rw [oI];simp only [oO,oX];omega,λc3=>?_⟩⟩
   rw [i64_in ((k:Int)+1) (by omega)]
   exact ab (k+1) _ c3 _ _ _ _ _ _ (by omega) (by omega) (by simp [h3]) (by omega) ac ((hp.snoc (ae.some _ _ _ _) (by omega)).mono (by rw [o8,mb];omega))
theorem zOA {b:Int} {X:Nat} (hb:b<=1000) (hX:15<=X) (ih:zJY b X) {E:Env} {N:Nat} {Q:QT [.pk,.i,.str,.str,.i,.dc,.dc,.dc,.dc,.row 29 9,.sl 0,.i,.i]} {n:Int} (hn:n - 1<=b) (J:2<=n) (kd n3:Int) {s I:ByteArray} (hs:s.size<=1000) (O:I.size<=1000) (U Y:D) (hT:SmT 7 (.ag [(D.j 0),(D.sl none 2 [] 0)])) (hR:SmT 7 (.ag [U,Y]))
  (hQ:∀ k s I n' x x1 x2 x3 r q a es c i h N',N<=N'->Cu es i->PkT (15+3*(4*X)) s I x x1 x2 x3 r->r.length<=3->Q k s I n' x x1 x2 x3 r q a es c i h N') {es:List D} {i:Int} (aa:Cu es i) (a:Option Addr) (c:Nat) (h:Int) {N':Nat} (ab:N<=N') :
  wF E Q N n a es c i h 0 (bytes []) (bytes []) 0 0 none [] 0 0 none [] 0 none [] 0 kd s I n3 0 none [] 0 U Y 0 0 [] 0 N':=by
 refine pQ _ _ _ _ _ _ _ _ _ _ _ _ _ _ _ _ _ _ _ _ _ _ _ _ _ _ _ _ _ _ _ _ _ _ _ _ _ _ _ ⟨⟨rfl,rfl⟩,λa7 _ N1 ac _=>xV N1 _ λN2 ae _=>zOK hb hX ih hn J kd n3 s I U Y (uo _ _) (λr q a es c i h N'=>hQ _ _ _ _ _ _ _ _ r q a es c i h N') 3 0 [] 0 a es c i h N2 (by have:=uo kd s;omega) (by omega) rfl (by omega) aa ((zEc hs O hT hR).mono (by omega))⟩
theorem zNJ {b:Int} {X:Nat} (hb:b<=1000) (hX:15<=X) (ih:zJY b X) {E:Env} {N:Nat} {Q:QT [.pk,.i,.str,.str,.i,.dc,.dc,.dc,.dc,.row 29 9,.sl 0,.i,.i]} {n:Int} (hn:n - 1<=b) (ah:2<=n) (kd n3:Int) (s J:ByteArray) {Y:Int} (hm:Y<=3)
  (hQ:∀ r q a es c i h N',N<=N'->Cu es i->PkT (15+3*(4*X)) s J (D.j 0) (D.sl none 2 [] 0) (D.j 0) (D.sl none 2 [] 0) r->r.length<=3->Q kd s J n3 (D.j 0) (D.sl none 2 [] 0) (D.j 0) (D.sl none 2 [] 0) r q a es c i h N') :
  ∀ (rem k:Nat) (r:List D) (q:Nat) a es c i h N',Y<=k+rem->k<=3->r.length=k->N<=N'->Cu es i->PkT (15+k*(4*X)) s J (D.j 0) (D.sl none 2 [] 0) (D.j 0) (D.sl none 2 [] 0) r->yy E Q N n Y k a es c i h 0 (bytes []) (bytes []) 0 0 none [] 0 0 none [] 0 none [] 0 kd s J n3 0 none [] 0 0 none [] 0 r.length q r q N':=by
 intro rem
 induction rem with
 | zero=>
   intro k r q a es c i h N' h1 O h3 h4 I U
   have hk:k*(4*X)<=3*(4*X):=oe _ O
   refine uX _ _ _ _ _ _ _ _ _ _ _ _ _ _ _ _ _ _ _ _ _ _ _ _ _ _ _ _ _ _ _ _ _ _ _ _ _ _ _ _ _ _ _ (Br.dec (λg=>by omega) λ_=>⟨zV,⟨rfl,rfl⟩,λN4 aa=>hQ _ _ _ _ _ _ _ _ (by omega) I (U.mono (by omega)) (by omega)⟩)
 | succ rem ab=>
   intro k r q a es c i h N' h1 O h3 h4 I U
   have hk:k*(4*X)<=3*(4*X):=oe _ O
   refine uX _ _ _ _ _ _ _ _ _ _ _ _ _ _ _ _ _ _ _ _ _ _ _ _ _ _ _ _ _ _ _ _ _ _ _ _ _ _ _ _ _ _ _ (Br.dec (λg N1 ai=>?_) λ_=>⟨zV,⟨rfl,rfl⟩,λN4 aa=>hQ _ _ _ _ _ _ _ _ (by omega) I (U.mono (by omega)) (by omega)⟩)
   rw [i64_in (n - 1) (by omega)]
   refine ih (n - 1) hn I a c h N1 _ λk' t t1 n' y y1 y2 y3 aj c' a' ak c2 i2 O N2 al ac ae _ _ _ _=>⟨⟨rfl,rfl⟩,λa1 N3 am _=>⟨⟨rfl,rfl⟩,by unfold zA;rw [oI];simp only [oO,oX];omega,λc3=>?_⟩⟩
   rw [i64_in ((k:Int)+1) (by omega)]
   exact ab (k+1) _ c3 _ _ _ _ _ _ (by omega) (by omega) (by simp [h3]) (by omega) ac ((U.snoc (ae.some _ _ _ _) (by omega)).mono (by rw [o8,mb];omega))
theorem zNv {b:Int} {X:Nat} (hb:b<=1000) (hX:15<=X) (ih:zJY b X) {E:Env} {N:Nat} {Q:QT [.pk,.i,.str,.str,.i,.dc,.dc,.dc,.dc,.row 29 9,.sl 0,.i,.i]} {n:Int} (hn:n - 1<=b) (J:2<=n) (kd Y:Int) {s I:ByteArray} (hs:s.size<=1000) (O:I.size<=1000) (hT:SmT 7 (.ag [(D.j 0),(D.sl none 2 [] 0)])) (hR:SmT 7 (.ag [(D.j 0),(D.sl none 2 [] 0)]))
  (hQ:∀ k s I n' x x1 x2 x3 r q a es c i h N',N<=N'->Cu es i->PkT (15+3*(4*X)) s I x x1 x2 x3 r->r.length<=3->Q k s I n' x x1 x2 x3 r q a es c i h N') {es:List D} {i:Int} (U:Cu es i) (a:Option Addr) (c:Nat) (h:Int) {N':Nat} (aa:N<=N') :
  wV E Q N n a es c i h 0 (bytes []) (bytes []) 0 0 none [] 0 0 none [] 0 none [] 0 kd s I Y 0 none [] 0 0 none [] 0 0 0 [] 0 N':=by
 refine zAA _ _ _ _ _ _ _ _ _ _ _ _ _ _ _ _ _ _ _ _ _ _ _ _ _ _ _ _ _ _ _ _ _ _ _ _ _ _ _ _ _ ⟨⟨rfl,rfl⟩,λa7 _ N1 ab _=>xV N1 _ λN2 ac _=>zNJ hb hX ih hn J kd Y s I  (uo _ _) (λr q a es c i h N'=>hQ _ _ _ _ _ _ _ _ r q a es c i h N') 3 0 [] 0 a es c i h N2 (by have:=uo kd s;omega) (by omega) rfl (by omega) U ((zEc hs O hT hR).mono (by omega))⟩
theorem zRP {b:Int} {X:Nat} (hb:b<=1000) (hX:15<=X) (ih:zJY b X) {E:Env} {N:Nat} {Q:QT [.pk,.i,.str,.str,.i,.dc,.dc,.dc,.dc,.row 29 9,.sl 0,.i,.i]} {n:Int} (hn:n - 1<=b) (I:2<=n) (kd n3:Int) {s:ByteArray} (hs:s.size<=1000) (O U:D) (hT:SmT 7 (.ag [O,U]))
  (hQ:∀ k s s1 n' x x1 x2 x3 r q a es c i h N',N<=N'->Cu es i->PkT (15+3*(4*X)) s s1 x x1 x2 x3 r->r.length<=3->Q k s s1 n' x x1 x2 x3 r q a es c i h N') {es:List D} {i:Int} (J:Cu es i) (a:Option Addr) (c:Nat) (h:Int) {N':Nat} (aa:N<=N') :
  wM E Q N n a es c i h 0 (bytes []) (bytes []) 0 0 none [] 0 0 none [] 0 none [] 0 kd s (bytes []) n3 O U 0 none [] 0 0 0 [] 0 N':=by
 refine zCs _ _ _ _ _ _ _ _ _ _ _ _ _ _ _ _ _ _ _ _ _ _ _ _ _ _ _ _ _ _ _ _ _ _ _ _ _ _ _ (Br.beq (λ_ N1 ae=>?_) λ_=>zNi hb hX ih hn I kd n3 hs (by decide) O U hT zIQ hQ J a c h aa)
 refine uV (l:=[bytes [122],bytes [119]]) J (by decide) (by decide) a c h 2 2 N1 _ λt a1 ah c1 i1 h1 N2 ai ab Y _ _ _ N3 aj=>?_
 have Y:t.size<=1000:=by
  simp only [oF,od,nl] at Y
  rcases Y with rfl | rfl<;>decide
 exact zHs 2 (by omega) ab a1 c1 h1 N3 _ λd a2 ak c2 i2 h2 N4 al ac hd _ _ _ _=>zSN hb hX ih hn I kd n3 hs Y O U _ _ hT (hd.cells.mono (by omega)) hQ ac a2 c2 h2 (by omega)
theorem zN4 {b:Int} {X:Nat} (hb:b<=1000) (hX:15<=X) (ih:zJY b X) {E:Env} {N:Nat} {Q:QT [.pk,.i,.str,.str,.i,.dc,.dc,.dc,.dc,.row 29 9,.sl 0,.i,.i]} {n:Int} (hn:n - 1<=b) (I:2<=n) (kd U:Int) {s:ByteArray} (hs:s.size<=1000) (hT:SmT 7 (.ag [(D.j 0),(D.sl none 2 [] 0)]))
  (hQ:∀ k s s1 n' x x1 x2 x3 r q a es c i h N',N<=N'->Cu es i->PkT (15+3*(4*X)) s s1 x x1 x2 x3 r->r.length<=3->Q k s s1 n' x x1 x2 x3 r q a es c i h N') {es:List D} {i:Int} (J:Cu es i) (a:Option Addr) (c:Nat) (h:Int) {N':Nat} (Y:N<=N') :
  wX E Q N n a es c i h 0 (bytes []) (bytes []) 0 0 none [] 0 0 none [] 0 none [] 0 kd s (bytes []) U 0 none [] 0 0 none [] 0 0 0 [] 0 N':=by
 refine pe _ _ _ _ _ _ _ _ _ _ _ _ _ _ _ _ _ _ _ _ _ _ _ _ _ _ _ _ _ _ _ _ _ _ _ _ _ _ _ _ _ (Br.beq (λ_ N1 ac=>?_) λ_=>zNv hb hX ih hn I kd U hs (by decide) hT zIQ hQ J a c h Y)
 refine uV (l:=[bytes [122],bytes [119]]) J (by decide) (by decide) a c h 2 2 N1 _ λt a1 ae c1 i1 h1 N2 ah aa O _ _ _ N3 ai=>?_
 have O:t.size<=1000:=by
  simp only [oF,od,nl] at O
  rcases O with rfl | rfl<;>decide
 exact zHs 2 (by omega) aa a1 c1 h1 N3 _ λd a2 aj c2 i2 h2 N4 ak ab hd _ _ _ _=>zOA hb hX ih hn I kd U hs O _ _ hT (hd.cells.mono (by omega)) hQ ab a2 c2 h2 (by omega)
theorem zFw {b:Int} {X:Nat} (hb:b<=1000) (hX:15<=X) (ih:zJY b X):zJY (b+1) (15+3*(4*X)):=λn hn es i J a c h N Q hQ=>by
 have lf:∀ (E:Env) {es:List D} {i:Int} (_:Cu es i) a c h N1,N<=N1->BCalls prog 80 [.pk,.i,.str,.str,.i,.dc,.dc,.dc,.dc,.row 29 9,.sl 0,.i,.i] [.pb 0 0 0 0] [.var [.sv a 0 es c,.j i,.j h]] N1 (λn s ao ab x aq au aw es c a Y aa ac ax N2=>N1<=N2->Bel N2 (D.sl a 0 Y aa)->Bel N2 (D.ag es)->zR E [.var [.sv none 0 [] 0,.j 0,.j 0]]/\(es.length=es.length/\c=c)/\∀ N3,N2<=N3->Q n s ao ab x aq au aw es c a Y aa ac ax N3):=λE es i J a c h N1 ae=>
  zOo J a c h N1 _ λk s s1 n' x x1 x2 x3 r q a' a7 c' i' h' N2 ay az hp hr _ _ _=>⟨zV,⟨rfl,rfl⟩,λN3 al=>hQ _ _ _ _ _ _ _ _ _ _ _ _ _ _ _ _ (by omega) az (hp.mono (by omega)) hr⟩
 refine sc N n a es c i h Q λE _=>Br.dec (λ_ N1 ae=>lf E J a c h N1 ae) λa8 N1 ae=>vW J 5 (by omega) a c h N1 _ λb1 a1 a9 c1 i1 h1 N2 ay am _ _=>Br.of (λ_ N3 al=>lf E am a1 c1 h1 N3 (by omega)) λ_ N3 al=>?_
 refine vC (l:=[4,5,6,7,8,9,10,11,12,13,10,4]) am (by decide) (by decide) a1 c1 h1 12 12 N3 _ λkd a2 ah c2 i2 h2 N4 ba U _ _ _ _=>?_
 have ai:∀ {s:ByteArray} (_:s.size<=1000) {es:List D} {i:Int} (_:Cu es i) a c h N',N<=N'->zq E Q N n a es c i h 0 (bytes []) (bytes []) 0 0 none [] 0 0 none [] 0 none [] 0 kd s (bytes []) 0 0 none [] 0 0 none [] 0 0 0 [] 0 N':=λhs es i J a c h N' a4=>by
  refine zB4 _ _ _ _ _ _ _ _ _ _ _ _ _ _ _ _ _ _ _ _ _ _ _ _ _ _ _ _ _ _ _ _ _ _ _ _ _ _ _ _ _ (Br.beq (λ_ O I=>zHs 2 (by omega) J a c h O _ λd a2 ah c2 i2 h2 N6 aj U hd _ _ _ _=>zRP hb hX ih (by omega) (by omega) kd 0 hs _ _ (hd.cells.mono (by omega)) hQ U a2 c2 h2 (by omega)) λ_=>Br.beq (λ_ O I=>zHs 2 (by omega) J a c h O _ λd a2 ah c2 i2 h2 N6 aj U hd _ _ _ _=>zRP hb hX ih (by omega) (by omega) kd 0 hs _ _ (hd.cells.mono (by omega)) hQ U a2 c2 h2 (by omega)) λ_=>zN4 hb hX ih (by omega) (by omega) kd 0 hs zIQ hQ J a c h a4)
 have L3:∀ O,N4<=O->BCalls prog 48 [.str,.sl 0,.i,.i,.sl 0] [.pb 0 0 0 0,.sb 1 0 0 3 3] [.var [.sv a2 0 ah c2,.j i2,.j h2],.arr 9 0 (zB [bytes [120],bytes [121],bytes [102]]) 3] O (λs a es c ab ac a5 Y aa N6=>O<=N6->Bel N6 (D.sl a 0 es c)->Bel N6 (D.sl a5 0 Y aa)->zq E Q N n a es c ab ac 0 (bytes []) (bytes []) 0 0 none [] 0 0 none [] 0 none [] 0 kd s (bytes []) 0 0 none [] 0 0 none [] 0 0 0 [] 0 N6):=λO I=>
  uV (l:=[bytes [120],bytes [121],bytes [102]]) U (by decide) (by decide) a2 c2 h2 3 3 O _ λt a3 a6 c3 i3 h3 N6 aj ak ht _ _ _=>ai (by
   simp only [oF,od,nl] at ht
   rcases ht with rfl | rfl | rfl<;>decide) ak a3 c3 h3 N6 (by omega)
 refine Br.beq (λ_ O I=>?_) λ_=>Br.beq (λ_ O I=>L3 O I) λ_=>Br.beq (λ_ O I=>L3 O I) λ_=>Br.beq (λ_ O I=>L3 O I) λ_=>ai (by decide) U a2 c2 h2 N4 (by omega)
 refine uV (l:=[bytes [43],bytes [45],bytes [42],bytes [61],bytes [60],bytes [38],bytes [124],bytes [33]]) U (by decide) (by decide) a2 c2 h2 8 8 O _ λt a3 a6 c3 i3 h3 N6 aj ak ht _ _ _=>ai ?_ ak a3 c3 h3 N6 (by omega)
 simp only [oF,od,nl] at ht
 rcases ht with rfl | rfl | rfl | rfl | rfl | rfl | rfl | rfl<;>decide
theorem zOV:zJY 4 28275:=by
 have h:=zFw (b:=3) (by omega) (by omega) (zFw (b:=2) (by omega) (by omega) (zFw (b:=1) (by omega) (by omega) zQO))
 exact λn hn es i I a c J N Q O=>h n (by omega) I a c J N Q λk s s1 n' x x1 x2 x3 r q a' U c' i' J N' Y h2 h3 h4=>O _ _ _ _ _ _ _ _ _ _ _ _ _ _ _ _ Y h2 (h3.mono (by omega)) h4
theorem zMC {es:List D} {i:Int} (ah:Cu es i) (a:Option Addr) (c:Nat) (h:Int) (N:Nat) (Q:QT [.ag 9,.sl 0,.i,.i])
  (hQ:∀ d' a' ae c' i' h' N',N<=N'->Cu ae i'->Some 30000 d'->Q d' a' ae c' i' h' N'):BCalls prog 25 [.ag 9,.sl 0,.i,.i] [.pb 0 0 0 0] [.var [.sv a 0 es c,.j i,.j h]] N Q:=by
 have z:PkT 15 (bytes [120]) (bytes []) (D.j 0) (D.sl none 2 [] 0) (D.j 0) (D.sl none 2 [] 0) []:=zEc (by decide) (by decide) zIQ zIQ
 refine zBL N a es c i h Q λE _ N1 al=>zw ah 4 (by omega) a c h N1 _ λx a1 am c1 i1 h1 N2 ao ai x0 x1 _ _ _ N3 aq=>?_
 have x1:=x1 (by omega)
 rw [i64_in (1+x) (by omega)]
 refine zOV (1+x) (by omega) ai a1 c1 h1 N3 _ λk s s1 n y y1 y2 y3 r q a2 au c2 i2 h2 N4 aw aj hp hr _ _ _ N5 ax=>?_
 refine zw aj 14 (by omega) a2 c2 h2 N5 _ λz1 a3 ay c3 i3 h3 N6 az O _ _ _ _ _=>Br.beq (λ_ N7 aa=>?_) λ_=>Br.beq (λ_ N7 aa=>?_) λ_=>Br.beq (λ_ N7 aa=>?_) λ_=>Br.beq (λ_ N7 aa=>?_) λ_=>Br.beq (λ_ N7 aa=>?_) λ_=>Br.beq (λ_ N7 aa=>?_) λ_=>?_
 ·exact zw O 15 (by omega) a3 c3 h3 N7 _ λw a4 ac c4 i4 h4 N8 ab J _ _ _ _ _=>⟨⟨rfl,rfl⟩,⟨rfl,rfl⟩,⟨rfl,rfl⟩,⟨rfl,rfl⟩,λa5 N9 U _=>⟨zV,λY I=>hQ _ _ _ _ _ _ _ (by omega) J ((hp.some _ _ _ _).mono (by omega))⟩⟩
 ·exact vC (l:=[0,1,10006,10007, -1]) O (by decide) (by decide) a3 c3 h3 5 5 N7 _ λw a4 ac c4 i4 h4 N8 ab J _ _ _ _=>⟨⟨rfl,rfl⟩,⟨rfl,rfl⟩,⟨rfl,rfl⟩,⟨rfl,rfl⟩,λa5 N9 U _=>⟨zV,λY I=>hQ _ _ _ _ _ _ _ (by omega) J ((hp.some _ _ _ _).mono (by omega))⟩⟩
 ·refine uV (l:=[bytes [],bytes [120],bytes [108,101,116],bytes [97,98,99,100,101],bytes [43]]) O (by decide) (by decide) a3 c3 h3 5 5 N7 _ λw a4 ac c4 i4 h4 N8 ab J hw _ _ _=>⟨⟨rfl,rfl⟩,⟨rfl,rfl⟩,⟨rfl,rfl⟩,⟨rfl,rfl⟩,λa5 N9 U _=>⟨zV,λY I=>hQ _ _ _ _ _ _ _ (by omega) J (((hp.name ?_).some _ _ _ _).mono (by omega))⟩⟩
  simp only [oF,od,nl] at hw
  rcases hw with rfl | rfl | rfl | rfl | rfl<;>decide
 ·exact qG N7 _ _ λN8 ab _ _=>⟨⟨rfl,rfl⟩,λa5 N9 U _=>⟨⟨rfl,rfl⟩,by unfold zA;rw [oI];simp only [oO,oX];omega,λc9=>⟨⟨rfl,rfl⟩,⟨rfl,rfl⟩,⟨rfl,rfl⟩,⟨rfl,rfl⟩,λa6 Y I _=>⟨zV,λa7 ak=>hQ _ _ _ _ _ _ _ (by omega) O (((hp.snoc (z.some _ _ _ _) (by omega)).some _ _ _ _).mono (by omega))⟩⟩⟩⟩
 ·exact zPX O a3 c3 h3 N7 _ λw a4 ac c4 i4 h4 N8 ab J hw _ _ _=>⟨⟨rfl,rfl⟩,⟨rfl,rfl⟩,⟨rfl,rfl⟩,⟨rfl,rfl⟩,λa5 N9 U _=>⟨zV,λY I=>hQ _ _ _ _ _ _ _ (by omega) J (((hp.type hw.cells).some _ _ _ _).mono (by omega))⟩⟩
 ·refine uV (l:=[bytes [120],bytes [122]]) O (by decide) (by decide) a3 c3 h3 2 2 N7 _ λw a4 ac c4 i4 h4 N8 ab J hw _ _ _=>⟨⟨rfl,rfl⟩,⟨rfl,rfl⟩,⟨rfl,rfl⟩,⟨rfl,rfl⟩,λa5 N9 U _=>⟨zV,λY I=>hQ _ _ _ _ _ _ _ (by omega) J (((hp.other ?_).some _ _ _ _).mono (by omega))⟩⟩
  simp only [oF,od,nl] at hw
  rcases hw with rfl | rfl<;>decide
 ·exact ⟨⟨rfl,rfl⟩,⟨rfl,rfl⟩,⟨rfl,rfl⟩,⟨rfl,rfl⟩,λa5 N9 U _=>⟨zV,λY I=>hQ _ _ _ _ _ _ _ (by omega) O ((hp.some _ _ _ _).mono (by omega))⟩⟩
end Go.Proofs.YtnmnahkkcfghjaaGreat
