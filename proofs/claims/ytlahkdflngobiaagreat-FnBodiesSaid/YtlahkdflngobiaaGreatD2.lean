/- Drawing: types, and terms that need not have a type. -/
import Derived.Test.YtlahkdflngobiaaGreatD1
import Derived.Test.YtlahkdflngobiaaGreatKe
import Derived.Test.YtlahkdflngobiaaGreatC4
set_option linter.unusedVariables false
set_option linter.unusedSimpArgs false
set_option maxRecDepth 100000
namespace Go.Proofs.YtlahkdflngobiaaGreat
open Go Go.Proofs Go.Proofs.Tryz Go.IntWalk
/-- some type of at most this many nodes -/
def SmT (m:Nat) (d:D):Prop:=∃ t:Ty,t.Is d/\t.cnt<=m
theorem SmT.mono {m n:Nat} {d:D} (h:SmT m d) (J:m<=n):SmT n d:=by obtain ⟨t,I,O⟩:=h;exact ⟨t,I,by omega⟩
theorem SmT.cells {m:Nat} {d:D} (h:SmT m d):SmT m (.ag [d.cell 0,d.cell 1]):=by obtain ⟨t,I,J⟩:=h;exact ⟨t,Ty.is_cells I,J⟩
/-- its row has no room behind it -/
def Ex (d:D):Prop:=∃ k a es c,d=.ag [.j k,.sl a 2 es c]/\(c=es.length/\es.length<=1000)
theorem zKa (k:Int):SmT 1 (.ag [.j k,.sl none 2 [] 0]):=⟨_,xP k,by simp [Ty.cnt,zJ]⟩
theorem zPA {m:Nat} (hm:m<=1073741824) {d:D} (hd:SmT m d) (N:Nat) (Q:QT [.ag 2]) (I:∀ d' N',N<=N'->SmT (1+m) d'->Ex d'->Q d' N'):ACalls prog 114 [.ag 2] [.dg 2 d] N Q:=by
 obtain ⟨t,J,h2⟩:=hd
 refine zAP N d Q λ_ N1 O=>zI t d J (by omega) N1 _ λx N2 U Y _ _ _=>⟨⟨rfl,rfl⟩,⟨rfl,rfl⟩,⟨rfl,rfl⟩,λa N3 aa _ N4 ab=>I _ _ (by omega) ⟨qx t,Ty.is_mk.2 ⟨_,_,_,rfl,by simp,x,[],rfl,Y,rfl⟩,?_⟩ ⟨_,_,_,_,rfl,rfl,by simp⟩⟩
 simp only [qx,Ty.cnt,zJ]
 omega
theorem zRd {m:Nat} (hm:m<=1073741824) {d e:D} (hd:SmT m d) (I:SmT m e) (N:Nat) (Q:QT [.ag 2]) (J:∀ d' N',N<=N'->SmT (1+2*m) d'->Ex d'->Q d' N'):ACalls prog 115 [.ag 2] [.dg 2 d,.dg 2 e] N Q:=by
 obtain ⟨t,O,h2⟩:=hd
 obtain ⟨u,U,h4⟩:=I
 refine zCj N d e Q λ_ _ N1 Y=>zI t d O (by omega) N1 _ λx N2 aa hx _ _ _ N3 ab=>zI u e U (by omega) N3 _ λy N4 ac hy _ _ _=>⟨⟨rfl,rfl⟩,⟨rfl,rfl⟩,⟨rfl,rfl⟩,λa N5 ae _ N6 ah=>J _ _ (by omega) ⟨uJ t u,Ty.is_mk.2 ⟨_,_,_,rfl,by simp,x,[y],rfl,hx,y,[],rfl,hy,rfl⟩,?_⟩ ⟨_,_,_,_,rfl,rfl,by simp⟩⟩
 simp only [uJ,Ty.cnt,zJ]
 omega
def TyC (b:Int) (X:Nat):Prop:=∀ (n:Int),n<=b->∀ {es:List D} {i:Int} (_:Cu es i) (a:Option Addr) (c:Nat) (h:Int) (N:Nat) (Q:QT [.ag 2,.sl 0,.i,.i])
    (_:∀ d' J I O i' U N',N<=N'->Cu I i'->SmT X d'->Ex d'->Q d' J I O i' U N'),BCalls prog 72 [.ag 2,.sl 0,.i,.i] [.pb 0 0 0 0,.j n] [.var [.sv a 0 es c,.j i,.j h]] N Q
theorem zTe:TyC 1 1:=λn hn es i I a c h N Q O=>by
 refine sj N n a es c i h Q λE _=>Br.dec (λ_ N1 U=>?_) λg=>absurd (by omega) g
 exact ut (l:=[1,1,2]) I (by decide) (by decide) a c h 3 3 N1 _ λk a' Y c' i' h' N2 aa J _ _ _ _=>⟨vD,λN3 ab=>O _ _ _ _ _ _ _ (by omega) J (zKa k) ⟨_,_,_,_,rfl,rfl,by simp⟩⟩
theorem zKz {b:Int} {X:Nat} (hb:b<=1000) (hX:1<=X) (a5:X<=1000000) (ih:TyC b X):TyC (b+1) (1+2*X):=λn hn es i I a c h N Q hQ=>by
 have pk:∀ (E:Env) {es:List D} {i:Int} (_:Cu es i) a c h N1,N<=N1->BCalls prog 29 [.i,.sl 0,.i,.i,.sl 0] [.pb 0 0 0 0,.sb 1 0 0 3 3] [.var [.sv a 0 es c,.j i,.j h],.arr 3 0 (xj [1,1,2]) 3] N1
   (λn a es c ac ae ah U ai N2=>N1<=N2->Bel N2 (D.sl a 0 es c)->Bel N2 (D.sl ah 0 U ai)->vH E [.var [.sv none 0 [] 0,.j 0,.j 0]]/\∀ N3,N2<=N3->Q (D.ag [D.j n,D.sl Option.none 2 [] 0]) a es c ac ae N3):=λE es i I a c h N1 J=>
  ut (l:=[1,1,2]) I (by decide) (by decide) a c h 3 3 N1 _ λk a' a6 c' i' h' N2 aj ak _ _ _ _=>⟨vD,λN3 Y=>hQ _ _ _ _ _ _ _ (by omega) ak ((zKa k).mono (by omega)) ⟨_,_,_,_,rfl,rfl,by simp⟩⟩
 refine sj N n a es c i h Q λE _=>Br.dec (λ_ N1 J=>pk E I _ _ _ N1 J) λa7 N1 J=>zCt I 2 (by omega) a c h N1 _ λb1 a1 a8 c1 i1 h1 N2 aj aa _ _=>Br.of (λ_ N3 Y=>pk E aa _ _ _ N3 (by omega)) λ_ N3 Y=>?_
 refine zCt aa 2 (by omega) a1 c1 h1 N3 _ λb2 a2 a9 c2 i2 h2 N4 ba ab _ _=>Br.of (λ_ N5 al=>?_) λ_ N5 al=>?_
 ·rw [i64_in (n - 1) (by omega)]
  exact ih (n - 1) (by omega) ab a2 c2 h2 N5 _ λd a3 am c3 i3 h3 N6 ao O hd _ _ _ _ N7 aq=>zPA (by omega) hd N7 _ λe N8 au he hx _ _=>⟨vD,λN9 aw=>hQ _ _ _ _ _ _ _ (by omega) O (he.mono (by omega)) hx⟩
 ·rw [i64_in (n - 1) (by omega)]
  refine ih (n - 1) (by omega) ab a2 c2 h2 N5 _ λd a3 am c3 i3 h3 N6 ao O hd _ _ _ _ N7 aq=>?_
  exact ih (n - 1) (by omega) O a3 c3 h3 N7 _ λd2 a4 bb c4 i4 h4 N8 au ax ay _ _ _ _ N9 aw=>zRd (by omega) hd ay N9 _ λe bc az he hx _ _=>⟨vD,λbd a0=>hQ _ _ _ _ _ _ _ (by omega) ax he hx⟩
theorem zGw:TyC 2 3:=zKz (b:=1) (by omega) (by omega) (by omega) zTe
theorem zSS:TyC 4 15:=zKz (b:=3) (by omega) (by omega) (by omega) (zKz (b:=2) (by omega) (by omega) (by omega) zGw)
theorem zR0 {es:List D} {i:Int} (I:Cu es i) (a:Option Addr) (c:Nat) (h:Int) (N:Nat) (Q:QT [.ag 2,.sl 0,.i,.i])
  (hQ:∀ d' a' ae c' i' h' N',N<=N'->Cu ae i'->SmT 200 d'->Q d' a' ae c' i' h' N'):BCalls prog 118 [.ag 2,.sl 0,.i,.i] [.pb 0 0 0 0] [.var [.sv a 0 es c,.j i,.j h]] N Q:=by
 refine zCz N a es c i h Q λE _ N1 aq=>zSS 4 (by omega) I a c h N1 _ λd a1 au c1 i1 h1 N2 aw aj hd hx _ _ _ N3 ax=>?_
 have lc:∀ (m:Nat) (y:D) (a es c i h) (N':Nat) (n4 n5:Int),n4<=n5+m->0<=n5->n4<=1000->m<=6->N<=N'->Cu es i->SmT (21 - m) y->wK E Q N n4 n5 a es c i h 0 none [] 0 y N':=by
  intro m
  induction m with
  | zero=>
    intro y a es c i h N' n4 n5 h1 h2 h5 h6 h3 I O
    exact s5 _ _ _ _ _ _ _ _ _ _ _ _ _ _ _ _ (Br.dec (λg=>by omega) λ_=>⟨vD,λN4 J=>hQ _ _ _ _ _ _ _ (by omega) I (O.mono (by omega))⟩)
  | succ m ab=>
    intro y a es c i h N' n4 n5 h1 h2 h5 h6 h3 I O
    refine s5 _ _ _ _ _ _ _ _ _ _ _ _ _ _ _ _ (Br.dec (λg N4 J=>zPA (by omega) O N4 _ λe N5 U he _ _ _=>?_) λ_=>⟨vD,λN4 J=>hQ _ _ _ _ _ _ _ (by omega) I (O.mono (by omega))⟩)
    rw [i64_in (n5+1) (by omega)]
    exact ab _ _ _ _ _ _ _ _ _ (by omega) (by omega) (by omega) (by omega) (by omega) I (he.mono (by omega))
 have lf:∀ (m k:Nat) (y:D) (a es c i h) (N':Nat),m+k=3->N<=N'->Cu es i->SmT (16*2 ^ k - 1) y->wJ E Q N k a es c i h 0 none [] 0 y N':=by
  have p3:∀ k:Nat,k<=3->2 ^ k<=8:=λk hk=>by rcases (by omega:k=0\/k=1\/k=2\/k=3) with rfl | rfl | rfl | rfl<;>decide
  intro m
  induction m with
  | zero=>
    intro k y a es c i h N' h1 h3 I O
    have:=p3 k (by omega)
    exact sg _ _ _ _ _ _ _ _ _ _ _ _ _ _ _ (Br.dec (λg=>by omega) λ_=>⟨vD,λN4 J=>hQ _ _ _ _ _ _ _ (by omega) I (O.mono (by omega))⟩)
  | succ m ab=>
    intro k y a es c i h N' h1 h3 I O
    have:=p3 k (by omega)
    have h0:1<=2 ^ k:=Nat.one_le_two_pow
    refine sg _ _ _ _ _ _ _ _ _ _ _ _ _ _ _ (Br.dec (λg N4 J=>zRd (by omega) O O N4 _ λe N5 U he _ _ _=>?_) λ_=>⟨vD,λN4 J=>hQ _ _ _ _ _ _ _ (by omega) I (O.mono (by omega))⟩)
    rw [i64_in ((k:Int)+1) (by omega)]
    exact ab (k+1) _ _ _ _ _ _ _ (by omega) (by omega) I (he.mono (by rw [Nat.pow_succ];omega))
 obtain ⟨k,ra,rs,rc,rfl,ak,ay⟩:=hx
 obtain ⟨t,ht,ah⟩:=hd
 obtain ⟨k',l,rfl⟩:∃ k l,t=Ty.mk k l:=by cases t;exact ⟨_,_,rfl⟩
 obtain ⟨_,_,_,he,hl,Y⟩:=Ty.is_mk.1 ht
 cases he
 simp only [Ty.cnt] at ah
 refine xG aj 10 (by omega) a1 c1 h1 N3 _ λx a2 az c2 i2 h2 N4 J aa _ _ _ _ _=>Br.beq (λ_ N5 U=>?_) λ_=>Br.beq (λ_=>⟨_,_,_,rfl,λN5 U=>?_⟩) λ_=>Br.beq (λ_ N5 U=>?_) λ_=>Br.beq (λ_=>?_) λ_=>⟨vD,λN5 U=>hQ _ _ _ _ _ _ _ (by omega) aa ⟨_,ht,by simp only [Ty.cnt];omega⟩⟩
 ·exact xG aa 6 (by omega) a2 c2 h2 N5 _ λy a3 al c3 i3 h3 N6 ai ac _ _ _ _ _=>⟨vD,λN7 am=>hQ _ _ _ _ _ _ _ (by omega) ac ⟨.mk y l,Ty.is_mk.2 ⟨_,_,_,rfl,hl,Y⟩,by simp only [Ty.cnt];omega⟩⟩
 ·refine wW N5 _ λy N6 ai O _ _ _=>⟨?_,by unfold zA;rw [oL];simp only [oJ,oM];omega,λc4=>⟨⟨rfl,rfl⟩,⟨rfl,rfl⟩,⟨rfl,rfl⟩,⟨rfl,rfl⟩,λa4 N7 am _=>⟨vD,λN8 a0=>hQ _ _ _ _ _ _ _ (by omega) aa ⟨.mk k (l++[tInt]),Ty.is_mk.2 ⟨_,_,_,rfl,by simp;omega,Y.snoc O⟩,?_⟩⟩⟩⟩
  ·unfold zTL
   split
   ·trivial
   ·exact ⟨ak,by simp⟩
  ·have:zJ (l++[tInt])=zJ l+1:=by
    clear ht ah Y hl
    induction l with
    | nil=>rfl
    | cons u l ao=>simp only [nD,zJ,ao];omega
   simp only [Ty.cnt]
   omega
 ·refine xG aa 6 (by omega) a2 c2 h2 N5 _ λy a3 al c3 i3 h3 N6 ai ac y0 y1 _ _ _=>?_
  have y1:=y1 (by omega)
  simp only [i64_in (1+y) (by omega)]
  exact lc 6 _ _ _ _ _ _ _ _ _ (by omega) (by omega) (by omega) (by omega) (by omega) ac ⟨_,ht,by simp only [Ty.cnt];omega⟩
 ·exact lf 3 0 _ _ _ _ _ _ _ (by omega) (by omega) aa ⟨_,ht,by simp only [Ty.cnt];omega⟩
/-- the cells of some term, but for its kind and number and the place of its row -/
def PkT (m:Nat) (s I:ByteArray) (x J O U:D) (es:List D):Prop:=∃ (ty re:Ty) (l:List Tm),s.size<=4611686018427387904/\I.size<=4611686018427387904/\ty.Is (.ag [x,J])/\re.Is (.ag [O,U])/\All2 Tm.Is l es/\es.length<=1000/\1+ty.cnt+re.cnt+zR l<=m
theorem PkT.some {m:Nat} {s I:ByteArray} {x J O U:D} {es:List D} (h:PkT m s I x J O U es) (k n:Int) (a:Option Addr) (c:Nat):Some m (.ag [.j k,.t s,.t I,.j n,x,J,O,U,.sl a 9 es c]):=by
 obtain ⟨ty,re,l,Y,h2,h3,h4,h5,h6,h7⟩:=h
 exact ⟨.mk k s I n ty re l,Tm.is_mk.2 ⟨_,_,_,_,_,_,_,rfl,⟨Y,h2,h3,h4⟩,by omega,h5⟩,by simpa only [Tm.cnt] using h7⟩
theorem PkT.mono {m n:Nat} {s I:ByteArray} {x J O U:D} {es:List D} (h:PkT m s I x J O U es) (hn:m<=n):PkT n s I x J O U es:=by
 obtain ⟨ty,re,l,Y,h2,h3,h4,h5,h6,h7⟩:=h
 exact ⟨ty,re,l,Y,h2,h3,h4,h5,h6,by omega⟩
theorem PkT.name {m:Nat} {s I:ByteArray} {x J O U:D} {es:List D} (h:PkT m s I x J O U es) {t:ByteArray} (ht:t.size<=1000):PkT m t I x J O U es:=by
 obtain ⟨ty,re,l,h1,Y,h3,h4,h5,h6,h7⟩:=h
 exact ⟨ty,re,l,by omega,Y,h3,h4,h5,h6,h7⟩
theorem PkT.other {m:Nat} {s U:ByteArray} {x I J O:D} {es:List D} (h:PkT m s U x I J O es) {t:ByteArray} (ht:t.size<=1000):PkT m s t x I J O es:=by
 obtain ⟨ty,re,l,Y,h2,h3,h4,h5,h6,h7⟩:=h
 exact ⟨ty,re,l,Y,by omega,h3,h4,h5,h6,h7⟩
theorem PkT.type {m M:Nat} {s I:ByteArray} {x Y J O y U:D} {es:List D} (h:PkT m s I x Y J O es) (hy:SmT M (.ag [y,U])):PkT (m+M) s I y U J O es:=by
 obtain ⟨ty,re,l,h1,h2,h3,h4,h5,h6,h7⟩:=h
 obtain ⟨t,h8,h9⟩:=hy
 exact ⟨t,re,l,h1,h2,h8,h4,h5,h6,by omega⟩
theorem zEm (t:Tm):∀ l:List Tm,zR (l++[t])=zR l+t.cnt
 | []=>by simp [zR]
 | x::l=>by simp only [nD,zR,zEm t l];omega
theorem PkT.snoc {m M:Nat} {s I:ByteArray} {x J O U d:D} {es:List D} (h:PkT m s I x J O U es) (hd:Some M d) (hl:es.length<=999):PkT (m+M) s I x J O U (es++[d]):=by
 obtain ⟨ty,re,l,Y,h2,h3,h4,h5,h6,h7⟩:=h
 obtain ⟨t,h8,h9⟩:=hd
 exact ⟨ty,re,l++[t],Y,h2,h3,h4,h5.snoc h8,by simp;omega,by rw [zEm];omega⟩
theorem zGl {s I:ByteArray} (hs:s.size<=1000) (Y:I.size<=1000) {x J O U:D} (h1:SmT 7 (.ag [x,J])) (h2:SmT 7 (.ag [O,U])):PkT 15 s I x J O U []:=by
 obtain ⟨t,h3,h4⟩:=h1
 obtain ⟨u,h5,h6⟩:=h2
 exact ⟨t,u,[],by omega,by omega,h3,h5,rfl,by simp,by simp only [zR];omega⟩
theorem zKx:SmT 7 (.ag [D.j 0,D.sl none 2 [] 0]):=(zKa 0).mono (by omega)
theorem zP9 (s:ByteArray):zF6 s<=3:=by
 unfold zF6
 repeat' split
 all_goals decide
theorem qH (k:Int) (s:ByteArray):zCx k s<=3:=by
 unfold zCx
 have:=zP9 s
 repeat' split
 all_goals first | omega | decide
def zL5 (b:Int) (X:Nat):Prop:=∀ (n:Int),n<=b->∀ {es:List D} {i:Int} (_:Cu es i) (a:Option Addr) (c:Nat) (h:Int) (N:Nat) (Q:QT [.pk,.i,.str,.str,.i,.dc,.dc,.dc,.dc,.row 30 9,.sl 0,.i,.i])
    (_:∀ k s J n' x O U Y r q a' I c' i' h' N',N<=N'->Cu I i'->PkT X s J x O U Y r->r.length<=3->Q k s J n' x O U Y r q a' I c' i' h' N'),BCalls prog 116 [.pk,.i,.str,.str,.i,.dc,.dc,.dc,.dc,.row 30 9,.sl 0,.i,.i] [.pb 0 0 0 0,.j n] [.var [.sv a 0 es c,.j i,.j h]] N Q
theorem zRH {es:List D} {i:Int} (ah:Cu es i) (a:Option Addr) (c:Nat) (h:Int) (N:Nat) (Q:QT [.pk,.i,.str,.str,.i,.dc,.dc,.dc,.dc,.row 30 9,.sl 0,.i,.i])
  (hQ:∀ k s s1 n' x x1 x2 x3 r q a' O c' i' h' N',N<=N'->Cu O i'->PkT 15 s s1 x x1 x2 x3 r->r.length<=3->Q k s s1 n' x x1 x2 x3 r q a' O c' i' h' N'):BCalls prog 148 [.pk,.i,.str,.str,.i,.dc,.dc,.dc,.dc,.row 30 9,.sl 0,.i,.i] [.pb 0 0 0 0] [.var [.sv a 0 es c,.j i,.j h]] N Q:=by
 have z:PkT 15 (bytes []) (bytes []) (D.j 0) (D.sl none 2 [] 0) (D.j 0) (D.sl none 2 [] 0) []:=zGl (by decide) (by decide) zKx zKx
 refine zDT N a es c i h Q λE _ N1 ai=>xG ah 4 (by omega) a c h N1 _ λx a1 aj c1 i1 h1 N2 ak J _ _ _ _ _=>Br.beq (λ_ N3 U=>?_) λ_=>Br.beq (λ_ N3 U=>?_) λ_ N3 U=>?_
 ·exact ut (l:=[0,1,2,3,10006]) J (by decide) (by decide) a1 c1 h1 5 5 N3 _ λk a2 Y c2 i2 h2 N4 aa I _ _ _ _ N5 ab=>zF7 N5 k _ λN6 ac _ _=>⟨vD,⟨rfl,rfl⟩,λN7 ae=>hQ _ _ _ _ _ _ _ _ _ _ _ _ _ _ _ _ (by omega) I z (by simp)⟩
 ·exact xG J 2 (by omega) a1 c1 h1 N3 _ λk a2 Y c2 i2 h2 N4 aa I _ _ _ _ _ N5 ab=>zE4 N5 k _ λN6 ac _ _=>⟨vD,⟨rfl,rfl⟩,λN7 ae=>hQ _ _ _ _ _ _ _ _ _ _ _ _ _ _ _ _ (by omega) I z (by simp)⟩
 ·refine rq (l:=[bytes [120],bytes [121],bytes [102]]) J (by decide) (by decide) a1 c1 h1 3 3 N3 _ λs a2 Y c2 i2 h2 N4 aa I hs _ _ _ N5 ab=>pN N5 s _ λN6 ac _ _=>⟨vD,⟨rfl,rfl⟩,λN7 ae=>hQ _ _ _ _ _ _ _ _ _ _ _ _ _ _ _ _ (by omega) I (z.name ?_) (by simp)⟩
  simp only [oG,oe,mL] at hs
  rcases hs with rfl | rfl | rfl<;>decide
theorem zSl:zL5 1 15:=λn hn es i I a c h N Q O=>ru N n a es c i h Q λE _=>Br.dec (λ_ N1 U=>zRH I a c h N1 _ λk s s1 n' x x1 x2 x3 r q a' Y c' i' h' N2 aa J hp hr _ _ _=>⟨vD,⟨rfl,rfl⟩,λN3 ab=>O _ _ _ _ _ _ _ _ _ _ _ _ _ _ _ _ (by omega) J hp hr⟩) λg=>absurd (by omega) g
theorem zUm {b:Int} {X:Nat} (hb:b<=1000) (hX:15<=X) (ih:zL5 b X) {E:Env} {N:Nat} {Q:QT [.pk,.i,.str,.str,.i,.dc,.dc,.dc,.dc,.row 30 9,.sl 0,.i,.i]} {n:Int} (hn:n - 1<=b) (ah:2<=n) (kd n3:Int) (s J:ByteArray) (O U Y x7:D) {m6:Int} (hm:m6<=3)
  (hQ:∀ r q a es c i h N',N<=N'->Cu es i->PkT (15+3*X) s J O U Y x7 r->r.length<=3->Q kd s J n3 O U Y x7 r q a es c i h N') :
  ∀ (rem k:Nat) (r:List D) (q:Nat) a es c i h N',m6<=k+rem->k<=3->r.length=k->N<=N'->Cu es i->PkT (15+k*X) s J O U Y x7 r->wq E Q N n m6 k a es c i h 0 (bytes []) (bytes []) 0 0 none [] 0 0 none [] 0 none [] 0 kd s J n3 O U Y x7 r.length q r q N':=by
 intro rem
 induction rem with
 | zero=>
   intro k r q a es c i h N' h1 h2 h3 h4 I hp
   have hk:k*X<=3*X:=oc _ h2
   refine rl _ _ _ _ _ _ _ _ _ _ _ _ _ _ _ _ _ _ _ _ _ _ _ _ _ _ _ _ _ _ _ _ _ _ _ _ _ _ _ (Br.dec (λg=>by omega) λ_=>⟨vD,⟨rfl,rfl⟩,λN4 aa=>hQ _ _ _ _ _ _ _ _ (by omega) I (hp.mono (by omega)) (by omega)⟩)
 | succ rem ab=>
   intro k r q a es c i h N' h1 h2 h3 h4 I hp
   have hk:k*X<=3*X:=oc _ h2
   refine rl _ _ _ _ _ _ _ _ _ _ _ _ _ _ _ _ _ _ _ _ _ _ _ _ _ _ _ _ _ _ _ _ _ _ _ _ _ _ _ (Br.dec (λg N1 ai=>?_) λ_=>⟨vD,⟨rfl,rfl⟩,λN4 aa=>hQ _ _ _ _ _ _ _ _ (by omega) I (hp.mono (by omega)) (by omega)⟩)
   rw [i64_in (n - 1) (by omega)]
   refine ih (n - 1) hn I a c h N1 _ λk' t t1 n' y y1 y2 y3 aj c' a' ak c2 i2 h2 N2 al ac ae _ _ _ _=>⟨⟨rfl,rfl⟩,λa1 N3 am _=>⟨⟨rfl,rfl⟩,by unfold zA;rw [oL];simp only [oJ,oM];omega,λc3=>?_⟩⟩
   rw [i64_in ((k:Int)+1) (by omega)]
   exact ab (k+1) _ c3 _ _ _ _ _ _ (by omega) (by omega) (by simp [h3]) (by omega) ac ((hp.snoc (ae.some _ _ _ _) (by omega)).mono (by rw [Nat.succ_mul];omega))
theorem zUM {b:Int} {X:Nat} (hb:b<=1000) (hX:15<=X) (ih:zL5 b X) {E:Env} {N:Nat} {Q:QT [.pk,.i,.str,.str,.i,.dc,.dc,.dc,.dc,.row 30 9,.sl 0,.i,.i]} {n:Int} (hn:n - 1<=b) (J:2<=n) (kd n3:Int) {s I:ByteArray} (hs:s.size<=1000) (O:I.size<=1000) (U Y x6 x7:D) (hT:SmT 7 (.ag [U,Y])) (hR:SmT 7 (.ag [x6,x7]))
  (hQ:∀ k s I n' x x1 x2 x3 r q a es c i h N',N<=N'->Cu es i->PkT (15+3*X) s I x x1 x2 x3 r->r.length<=3->Q k s I n' x x1 x2 x3 r q a es c i h N') {es:List D} {i:Int} (aa:Cu es i) (a:Option Addr) (c:Nat) (h:Int) {N':Nat} (ab:N<=N') :
  uY E Q N n a es c i h 0 (bytes []) (bytes []) 0 0 none [] 0 0 none [] 0 none [] 0 kd s I n3 U Y x6 x7 0 0 [] 0 N':=by
 refine zES _ _ _ _ _ _ _ _ _ _ _ _ _ _ _ _ _ _ _ _ _ _ _ _ _ _ _ _ _ _ _ _ _ _ _ _ _ ⟨⟨rfl,rfl⟩,λa7 _ N1 ac _=>wA N1 _ λN2 ae _=>zUm hb hX ih hn J kd n3 s I U Y x6 x7 (qH _ _) (λr q a es c i h N'=>hQ _ _ _ _ _ _ _ _ r q a es c i h N') 3 0 [] 0 a es c i h N2 (by have:=qH kd s;omega) (by omega) rfl (by omega) aa ((zGl hs O hT hR).mono (by omega))⟩
theorem zQA {b:Int} {X:Nat} (hb:b<=1000) (hX:15<=X) (ih:zL5 b X) {E:Env} {N:Nat} {Q:QT [.pk,.i,.str,.str,.i,.dc,.dc,.dc,.dc,.row 30 9,.sl 0,.i,.i]} {n:Int} (hn:n - 1<=b) (ah:2<=n) (kd n3:Int) (s J:ByteArray) (O U:D) {m6:Int} (hm:m6<=3)
  (hQ:∀ r q a es c i h N',N<=N'->Cu es i->PkT (15+3*X) s J O U (D.j 0) (D.sl none 2 [] 0) r->r.length<=3->Q kd s J n3 O U (D.j 0) (D.sl none 2 [] 0) r q a es c i h N') :
  ∀ (rem k:Nat) (r:List D) (q:Nat) a es c i h N',m6<=k+rem->k<=3->r.length=k->N<=N'->Cu es i->PkT (15+k*X) s J O U (D.j 0) (D.sl none 2 [] 0) r->xf E Q N n m6 k a es c i h 0 (bytes []) (bytes []) 0 0 none [] 0 0 none [] 0 none [] 0 kd s J n3 O U 0 none [] 0 r.length q r q N':=by
 intro rem
 induction rem with
 | zero=>
   intro k r q a es c i h N' h1 Y h3 h4 I hp
   have hk:k*X<=3*X:=oc _ Y
   refine tK _ _ _ _ _ _ _ _ _ _ _ _ _ _ _ _ _ _ _ _ _ _ _ _ _ _ _ _ _ _ _ _ _ _ _ _ _ _ _ _ _ (Br.dec (λg=>by omega) λ_=>⟨vD,⟨rfl,rfl⟩,λN4 aa=>hQ _ _ _ _ _ _ _ _ (by omega) I (hp.mono (by omega)) (by omega)⟩)
 | succ rem ab=>
   intro k r q a es c i h N' h1 Y h3 h4 I hp
   have hk:k*X<=3*X:=oc _ Y
   refine tK _ _ _ _ _ _ _ _ _ _ _ _ _ _ _ _ _ _ _ _ _ _ _ _ _ _ _ _ _ _ _ _ _ _ _ _ _ _ _ _ _ (Br.dec (λg N1 ai=>?_) λ_=>⟨vD,⟨rfl,rfl⟩,λN4 aa=>hQ _ _ _ _ _ _ _ _ (by omega) I (hp.mono (by omega)) (by omega)⟩)
   rw [i64_in (n - 1) (by omega)]
   refine ih (n - 1) hn I a c h N1 _ λk' t t1 n' y y1 y2 y3 aj c' a' ak c2 i2 Y N2 al ac ae _ _ _ _=>⟨⟨rfl,rfl⟩,λa1 N3 am _=>⟨⟨rfl,rfl⟩,by unfold zA;rw [oL];simp only [oJ,oM];omega,λc3=>?_⟩⟩
   rw [i64_in ((k:Int)+1) (by omega)]
   exact ab (k+1) _ c3 _ _ _ _ _ _ (by omega) (by omega) (by simp [h3]) (by omega) ac ((hp.snoc (ae.some _ _ _ _) (by omega)).mono (by rw [Nat.succ_mul];omega))
theorem zP5 {b:Int} {X:Nat} (hb:b<=1000) (hX:15<=X) (ih:zL5 b X) {E:Env} {N:Nat} {Q:QT [.pk,.i,.str,.str,.i,.dc,.dc,.dc,.dc,.row 30 9,.sl 0,.i,.i]} {n:Int} (hn:n - 1<=b) (J:2<=n) (kd n3:Int) {s I:ByteArray} (hs:s.size<=1000) (O:I.size<=1000) (U Y:D) (hT:SmT 7 (.ag [U,Y])) (hR:SmT 7 (.ag [(D.j 0),(D.sl none 2 [] 0)]))
  (hQ:∀ k s I n' x x1 x2 x3 r q a es c i h N',N<=N'->Cu es i->PkT (15+3*X) s I x x1 x2 x3 r->r.length<=3->Q k s I n' x x1 x2 x3 r q a es c i h N') {es:List D} {i:Int} (aa:Cu es i) (a:Option Addr) (c:Nat) (h:Int) {N':Nat} (ab:N<=N') :
  wk E Q N n a es c i h 0 (bytes []) (bytes []) 0 0 none [] 0 0 none [] 0 none [] 0 kd s I n3 U Y 0 none [] 0 0 0 [] 0 N':=by
 refine zBX _ _ _ _ _ _ _ _ _ _ _ _ _ _ _ _ _ _ _ _ _ _ _ _ _ _ _ _ _ _ _ _ _ _ _ _ _ _ _ ⟨⟨rfl,rfl⟩,λa7 _ N1 ac _=>wA N1 _ λN2 ae _=>zQA hb hX ih hn J kd n3 s I U Y (qH _ _) (λr q a es c i h N'=>hQ _ _ _ _ _ _ _ _ r q a es c i h N') 3 0 [] 0 a es c i h N2 (by have:=qH kd s;omega) (by omega) rfl (by omega) aa ((zGl hs O hT hR).mono (by omega))⟩
theorem zQj {b:Int} {X:Nat} (hb:b<=1000) (hX:15<=X) (ih:zL5 b X) {E:Env} {N:Nat} {Q:QT [.pk,.i,.str,.str,.i,.dc,.dc,.dc,.dc,.row 30 9,.sl 0,.i,.i]} {n:Int} (hn:n - 1<=b) (ah:2<=n) (kd n3:Int) (s J:ByteArray) (O U:D) {m6:Int} (hm:m6<=3)
  (hQ:∀ r q a es c i h N',N<=N'->Cu es i->PkT (15+3*X) s J (D.j 0) (D.sl none 2 [] 0) O U r->r.length<=3->Q kd s J n3 (D.j 0) (D.sl none 2 [] 0) O U r q a es c i h N') :
  ∀ (rem k:Nat) (r:List D) (q:Nat) a es c i h N',m6<=k+rem->k<=3->r.length=k->N<=N'->Cu es i->PkT (15+k*X) s J (D.j 0) (D.sl none 2 [] 0) O U r->xX E Q N n m6 k a es c i h 0 (bytes []) (bytes []) 0 0 none [] 0 0 none [] 0 none [] 0 kd s J n3 0 none [] 0 O U r.length q r q N':=by
 intro rem
 induction rem with
 | zero=>
   intro k r q a es c i h N' h1 Y h3 h4 I hp
   have hk:k*X<=3*X:=oc _ Y
   refine tQ _ _ _ _ _ _ _ _ _ _ _ _ _ _ _ _ _ _ _ _ _ _ _ _ _ _ _ _ _ _ _ _ _ _ _ _ _ _ _ _ _ (Br.dec (λg=>by omega) λ_=>⟨vD,⟨rfl,rfl⟩,λN4 aa=>hQ _ _ _ _ _ _ _ _ (by omega) I (hp.mono (by omega)) (by omega)⟩)
 | succ rem ab=>
   intro k r q a es c i h N' h1 Y h3 h4 I hp
   have hk:k*X<=3*X:=oc _ Y
   refine tQ _ _ _ _ _ _ _ _ _ _ _ _ _ _ _ _ _ _ _ _ _ _ _ _ _ _ _ _ _ _ _ _ _ _ _ _ _ _ _ _ _ (Br.dec (λg N1 ai=>?_) λ_=>⟨vD,⟨rfl,rfl⟩,λN4 aa=>hQ _ _ _ _ _ _ _ _ (by omega) I (hp.mono (by omega)) (by omega)⟩)
   rw [i64_in (n - 1) (by omega)]
   refine ih (n - 1) hn I a c h N1 _ λk' t t1 n' y y1 y2 y3 aj c' a' ak c2 i2 Y N2 al ac ae _ _ _ _=>⟨⟨rfl,rfl⟩,λa1 N3 am _=>⟨⟨rfl,rfl⟩,by unfold zA;rw [oL];simp only [oJ,oM];omega,λc3=>?_⟩⟩
   rw [i64_in ((k:Int)+1) (by omega)]
   exact ab (k+1) _ c3 _ _ _ _ _ _ (by omega) (by omega) (by simp [h3]) (by omega) ac ((hp.snoc (ae.some _ _ _ _) (by omega)).mono (by rw [Nat.succ_mul];omega))
theorem zQZ {b:Int} {X:Nat} (hb:b<=1000) (hX:15<=X) (ih:zL5 b X) {E:Env} {N:Nat} {Q:QT [.pk,.i,.str,.str,.i,.dc,.dc,.dc,.dc,.row 30 9,.sl 0,.i,.i]} {n:Int} (hn:n - 1<=b) (J:2<=n) (kd n3:Int) {s I:ByteArray} (hs:s.size<=1000) (O:I.size<=1000) (U Y:D) (hT:SmT 7 (.ag [(D.j 0),(D.sl none 2 [] 0)])) (hR:SmT 7 (.ag [U,Y]))
  (hQ:∀ k s I n' x x1 x2 x3 r q a es c i h N',N<=N'->Cu es i->PkT (15+3*X) s I x x1 x2 x3 r->r.length<=3->Q k s I n' x x1 x2 x3 r q a es c i h N') {es:List D} {i:Int} (aa:Cu es i) (a:Option Addr) (c:Nat) (h:Int) {N':Nat} (ab:N<=N') :
  wi E Q N n a es c i h 0 (bytes []) (bytes []) 0 0 none [] 0 0 none [] 0 none [] 0 kd s I n3 0 none [] 0 U Y 0 0 [] 0 N':=by
 refine zBA _ _ _ _ _ _ _ _ _ _ _ _ _ _ _ _ _ _ _ _ _ _ _ _ _ _ _ _ _ _ _ _ _ _ _ _ _ _ _ ⟨⟨rfl,rfl⟩,λa7 _ N1 ac _=>wA N1 _ λN2 ae _=>zQj hb hX ih hn J kd n3 s I U Y (qH _ _) (λr q a es c i h N'=>hQ _ _ _ _ _ _ _ _ r q a es c i h N') 3 0 [] 0 a es c i h N2 (by have:=qH kd s;omega) (by omega) rfl (by omega) aa ((zGl hs O hT hR).mono (by omega))⟩
theorem zPh {b:Int} {X:Nat} (hb:b<=1000) (hX:15<=X) (ih:zL5 b X) {E:Env} {N:Nat} {Q:QT [.pk,.i,.str,.str,.i,.dc,.dc,.dc,.dc,.row 30 9,.sl 0,.i,.i]} {n:Int} (hn:n - 1<=b) (ah:2<=n) (kd n3:Int) (s J:ByteArray) {Y:Int} (hm:Y<=3)
  (hQ:∀ r q a es c i h N',N<=N'->Cu es i->PkT (15+3*X) s J (D.j 0) (D.sl none 2 [] 0) (D.j 0) (D.sl none 2 [] 0) r->r.length<=3->Q kd s J n3 (D.j 0) (D.sl none 2 [] 0) (D.j 0) (D.sl none 2 [] 0) r q a es c i h N') :
  ∀ (rem k:Nat) (r:List D) (q:Nat) a es c i h N',Y<=k+rem->k<=3->r.length=k->N<=N'->Cu es i->PkT (15+k*X) s J (D.j 0) (D.sl none 2 [] 0) (D.j 0) (D.sl none 2 [] 0) r->xa E Q N n Y k a es c i h 0 (bytes []) (bytes []) 0 0 none [] 0 0 none [] 0 none [] 0 kd s J n3 0 none [] 0 0 none [] 0 r.length q r q N':=by
 intro rem
 induction rem with
 | zero=>
   intro k r q a es c i h N' h1 O h3 h4 I U
   have hk:k*X<=3*X:=oc _ O
   refine tO _ _ _ _ _ _ _ _ _ _ _ _ _ _ _ _ _ _ _ _ _ _ _ _ _ _ _ _ _ _ _ _ _ _ _ _ _ _ _ _ _ _ _ (Br.dec (λg=>by omega) λ_=>⟨vD,⟨rfl,rfl⟩,λN4 aa=>hQ _ _ _ _ _ _ _ _ (by omega) I (U.mono (by omega)) (by omega)⟩)
 | succ rem ab=>
   intro k r q a es c i h N' h1 O h3 h4 I U
   have hk:k*X<=3*X:=oc _ O
   refine tO _ _ _ _ _ _ _ _ _ _ _ _ _ _ _ _ _ _ _ _ _ _ _ _ _ _ _ _ _ _ _ _ _ _ _ _ _ _ _ _ _ _ _ (Br.dec (λg N1 ai=>?_) λ_=>⟨vD,⟨rfl,rfl⟩,λN4 aa=>hQ _ _ _ _ _ _ _ _ (by omega) I (U.mono (by omega)) (by omega)⟩)
   rw [i64_in (n - 1) (by omega)]
   refine ih (n - 1) hn I a c h N1 _ λk' t t1 n' y y1 y2 y3 aj c' a' ak c2 i2 O N2 al ac ae _ _ _ _=>⟨⟨rfl,rfl⟩,λa1 N3 am _=>⟨⟨rfl,rfl⟩,by unfold zA;rw [oL];simp only [oJ,oM];omega,λc3=>?_⟩⟩
   rw [i64_in ((k:Int)+1) (by omega)]
   exact ab (k+1) _ c3 _ _ _ _ _ _ (by omega) (by omega) (by simp [h3]) (by omega) ac ((U.snoc (ae.some _ _ _ _) (by omega)).mono (by rw [Nat.succ_mul];omega))
theorem zQH {b:Int} {X:Nat} (hb:b<=1000) (hX:15<=X) (ih:zL5 b X) {E:Env} {N:Nat} {Q:QT [.pk,.i,.str,.str,.i,.dc,.dc,.dc,.dc,.row 30 9,.sl 0,.i,.i]} {n:Int} (hn:n - 1<=b) (J:2<=n) (kd Y:Int) {s I:ByteArray} (hs:s.size<=1000) (O:I.size<=1000) (hT:SmT 7 (.ag [(D.j 0),(D.sl none 2 [] 0)])) (hR:SmT 7 (.ag [(D.j 0),(D.sl none 2 [] 0)]))
  (hQ:∀ k s I n' x x1 x2 x3 r q a es c i h N',N<=N'->Cu es i->PkT (15+3*X) s I x x1 x2 x3 r->r.length<=3->Q k s I n' x x1 x2 x3 r q a es c i h N') {es:List D} {i:Int} (U:Cu es i) (a:Option Addr) (c:Nat) (h:Int) {N':Nat} (aa:N<=N') :
  wv E Q N n a es c i h 0 (bytes []) (bytes []) 0 0 none [] 0 0 none [] 0 none [] 0 kd s I Y 0 none [] 0 0 none [] 0 0 0 [] 0 N':=by
 refine zBg _ _ _ _ _ _ _ _ _ _ _ _ _ _ _ _ _ _ _ _ _ _ _ _ _ _ _ _ _ _ _ _ _ _ _ _ _ _ _ _ _ ⟨⟨rfl,rfl⟩,λa7 _ N1 ab _=>wA N1 _ λN2 ac _=>zPh hb hX ih hn J kd Y s I  (qH _ _) (λr q a es c i h N'=>hQ _ _ _ _ _ _ _ _ r q a es c i h N') 3 0 [] 0 a es c i h N2 (by have:=qH kd s;omega) (by omega) rfl (by omega) U ((zGl hs O hT hR).mono (by omega))⟩
theorem zTW {b:Int} {X:Nat} (hb:b<=1000) (hX:15<=X) (ih:zL5 b X) {E:Env} {N:Nat} {Q:QT [.pk,.i,.str,.str,.i,.dc,.dc,.dc,.dc,.row 30 9,.sl 0,.i,.i]} {n:Int} (hn:n - 1<=b) (I:2<=n) (kd n3:Int) {s:ByteArray} (hs:s.size<=1000) (O U:D) (hT:SmT 7 (.ag [O,U]))
  (hQ:∀ k s s1 n' x x1 x2 x3 r q a es c i h N',N<=N'->Cu es i->PkT (15+3*X) s s1 x x1 x2 x3 r->r.length<=3->Q k s s1 n' x x1 x2 x3 r q a es c i h N') {es:List D} {i:Int} (J:Cu es i) (a:Option Addr) (c:Nat) (h:Int) {N':Nat} (aa:N<=N') :
  wl E Q N n a es c i h 0 (bytes []) (bytes []) 0 0 none [] 0 0 none [] 0 none [] 0 kd s (bytes []) n3 O U 0 none [] 0 0 0 [] 0 N':=by
 refine zEa _ _ _ _ _ _ _ _ _ _ _ _ _ _ _ _ _ _ _ _ _ _ _ _ _ _ _ _ _ _ _ _ _ _ _ _ _ _ _ (Br.beq (λ_ N1 ae=>?_) λ_=>zP5 hb hX ih hn I kd n3 hs (by decide) O U hT zKx hQ J a c h aa)
 refine rq (l:=[bytes [122],bytes [119]]) J (by decide) (by decide) a c h 2 2 N1 _ λt a1 ah c1 i1 h1 N2 ai ab Y _ _ _ N3 aj=>?_
 have Y:t.size<=1000:=by
  simp only [oG,oe,mL] at Y
  rcases Y with rfl | rfl<;>decide
 exact zGw 2 (by omega) ab a1 c1 h1 N3 _ λd a2 ak c2 i2 h2 N4 al ac hd _ _ _ _=>zUM hb hX ih hn I kd n3 hs Y O U _ _ hT (hd.cells.mono (by omega)) hQ ac a2 c2 h2 (by omega)
theorem zQR {b:Int} {X:Nat} (hb:b<=1000) (hX:15<=X) (ih:zL5 b X) {E:Env} {N:Nat} {Q:QT [.pk,.i,.str,.str,.i,.dc,.dc,.dc,.dc,.row 30 9,.sl 0,.i,.i]} {n:Int} (hn:n - 1<=b) (I:2<=n) (kd U:Int) {s:ByteArray} (hs:s.size<=1000) (hT:SmT 7 (.ag [(D.j 0),(D.sl none 2 [] 0)]))
  (hQ:∀ k s s1 n' x x1 x2 x3 r q a es c i h N',N<=N'->Cu es i->PkT (15+3*X) s s1 x x1 x2 x3 r->r.length<=3->Q k s s1 n' x x1 x2 x3 r q a es c i h N') {es:List D} {i:Int} (J:Cu es i) (a:Option Addr) (c:Nat) (h:Int) {N':Nat} (Y:N<=N') :
  w6 E Q N n a es c i h 0 (bytes []) (bytes []) 0 0 none [] 0 0 none [] 0 none [] 0 kd s (bytes []) U 0 none [] 0 0 none [] 0 0 0 [] 0 N':=by
 refine zBT _ _ _ _ _ _ _ _ _ _ _ _ _ _ _ _ _ _ _ _ _ _ _ _ _ _ _ _ _ _ _ _ _ _ _ _ _ _ _ _ _ (Br.beq (λ_ N1 ac=>?_) λ_=>zQH hb hX ih hn I kd U hs (by decide) hT zKx hQ J a c h Y)
 refine rq (l:=[bytes [122],bytes [119]]) J (by decide) (by decide) a c h 2 2 N1 _ λt a1 ae c1 i1 h1 N2 ah aa O _ _ _ N3 ai=>?_
 have O:t.size<=1000:=by
  simp only [oG,oe,mL] at O
  rcases O with rfl | rfl<;>decide
 exact zGw 2 (by omega) aa a1 c1 h1 N3 _ λd a2 aj c2 i2 h2 N4 ak ab hd _ _ _ _=>zQZ hb hX ih hn I kd U hs O _ _ hT (hd.cells.mono (by omega)) hQ ab a2 c2 h2 (by omega)
theorem zH7 {b:Int} {X:Nat} (hb:b<=1000) (hX:15<=X) (ih:zL5 b X):zL5 (b+1) (15+3*X):=λn hn es i J a c h N Q hQ=>by
 have lf:∀ (E:Env) {es:List D} {i:Int} (_:Cu es i) a c h N1,N<=N1->BCalls prog 148 [.pk,.i,.str,.str,.i,.dc,.dc,.dc,.dc,.row 30 9,.sl 0,.i,.i] [.pb 0 0 0 0] [.var [.sv a 0 es c,.j i,.j h]] N1 (λn s ao ab x aq au aw es c a Y aa ac ax N2=>N1<=N2->Bel N2 (D.sl a 0 Y aa)->Bel N2 (D.ag es)->vH E [.var [.sv none 0 [] 0,.j 0,.j 0]]/\(es.length=es.length/\c=c)/\∀ N3,N2<=N3->Q n s ao ab x aq au aw es c a Y aa ac ax N3):=λE es i J a c h N1 ae=>
  zRH J a c h N1 _ λk s s1 n' x x1 x2 x3 r q a' a6 c' i' h' N2 ay az hp hr _ _ _=>⟨vD,⟨rfl,rfl⟩,λN3 al=>hQ _ _ _ _ _ _ _ _ _ _ _ _ _ _ _ _ (by omega) az (hp.mono (by omega)) hr⟩
 refine ru N n a es c i h Q λE _=>Br.dec (λ_ N1 ae=>lf E J a c h N1 ae) λa7 N1 ae=>zCt J 5 (by omega) a c h N1 _ λb1 a1 a8 c1 i1 h1 N2 ay am _ _=>Br.of (λ_ N3 al=>lf E am a1 c1 h1 N3 (by omega)) λ_ N3 al=>?_
 refine ut (l:=[4,5,6,7,8,9,10,11,12,13,10,4]) am (by decide) (by decide) a1 c1 h1 12 12 N3 _ λkd a2 ah c2 i2 h2 N4 a9 U _ _ _ _=>?_
 have ai:∀ {s:ByteArray} (_:s.size<=1000) {es:List D} {i:Int} (_:Cu es i) a c h N',N<=N'->yD E Q N n a es c i h 0 (bytes []) (bytes []) 0 0 none [] 0 0 none [] 0 none [] 0 kd s (bytes []) 0 0 none [] 0 0 none [] 0 0 0 [] 0 N':=λhs es i J a c h N' a0=>by
  refine zDk _ _ _ _ _ _ _ _ _ _ _ _ _ _ _ _ _ _ _ _ _ _ _ _ _ _ _ _ _ _ _ _ _ _ _ _ _ _ _ _ _ (Br.beq (λ_ O I=>zGw 2 (by omega) J a c h O _ λd a2 ah c2 i2 h2 N6 aj U hd _ _ _ _=>zTW hb hX ih (by omega) (by omega) kd 0 hs _ _ (hd.cells.mono (by omega)) hQ U a2 c2 h2 (by omega)) λ_=>Br.beq (λ_ O I=>zGw 2 (by omega) J a c h O _ λd a2 ah c2 i2 h2 N6 aj U hd _ _ _ _=>zTW hb hX ih (by omega) (by omega) kd 0 hs _ _ (hd.cells.mono (by omega)) hQ U a2 c2 h2 (by omega)) λ_=>zQR hb hX ih (by omega) (by omega) kd 0 hs zKx hQ J a c h a0)
 have L3:∀ O,N4<=O->BCalls prog 71 [.str,.sl 0,.i,.i,.sl 0] [.pb 0 0 0 0,.sb 1 0 0 3 3] [.var [.sv a2 0 ah c2,.j i2,.j h2],.arr 9 0 (zC [bytes [120],bytes [121],bytes [102]]) 3] O (λs a es c ab ac a4 Y aa N6=>O<=N6->Bel N6 (D.sl a 0 es c)->Bel N6 (D.sl a4 0 Y aa)->yD E Q N n a es c ab ac 0 (bytes []) (bytes []) 0 0 none [] 0 0 none [] 0 none [] 0 kd s (bytes []) 0 0 none [] 0 0 none [] 0 0 0 [] 0 N6):=λO I=>
  rq (l:=[bytes [120],bytes [121],bytes [102]]) U (by decide) (by decide) a2 c2 h2 3 3 O _ λt a3 a5 c3 i3 h3 N6 aj ak ht _ _ _=>ai (by
   simp only [oG,oe,mL] at ht
   rcases ht with rfl | rfl | rfl<;>decide) ak a3 c3 h3 N6 (by omega)
 refine Br.beq (λ_ O I=>?_) λ_=>Br.beq (λ_ O I=>L3 O I) λ_=>Br.beq (λ_ O I=>L3 O I) λ_=>Br.beq (λ_ O I=>L3 O I) λ_=>ai (by decide) U a2 c2 h2 N4 (by omega)
 refine rq (l:=[bytes [43],bytes [45],bytes [42],bytes [61],bytes [60],bytes [38],bytes [124],bytes [33]]) U (by decide) (by decide) a2 c2 h2 8 8 O _ λt a3 a5 c3 i3 h3 N6 aj ak ht _ _ _=>ai ?_ ak a3 c3 h3 N6 (by omega)
 simp only [oG,oe,mL] at ht
 rcases ht with rfl | rfl | rfl | rfl | rfl | rfl | rfl | rfl<;>decide
theorem zQt:zL5 4 600:=by
 have h:=zH7 (b:=3) (by omega) (by omega) (zH7 (b:=2) (by omega) (by omega) (zH7 (b:=1) (by omega) (by omega) zSl))
 exact λn hn es i I a c J N Q O=>h n (by omega) I a c J N Q λk s s1 n' x x1 x2 x3 r q a' U c' i' J N' Y h2 h3 h4=>O _ _ _ _ _ _ _ _ _ _ _ _ _ _ _ _ Y h2 (h3.mono (by omega)) h4
theorem zSW {es:List D} {i:Int} (ah:Cu es i) (a:Option Addr) (c:Nat) (h:Int) (N:Nat) (Q:QT [.ag 9,.sl 0,.i,.i])
  (hQ:∀ d' a' ae c' i' h' N',N<=N'->Cu ae i'->Some 1000 d'->Q d' a' ae c' i' h' N'):BCalls prog 73 [.ag 9,.sl 0,.i,.i] [.pb 0 0 0 0] [.var [.sv a 0 es c,.j i,.j h]] N Q:=by
 have z:PkT 15 (bytes [120]) (bytes []) (D.j 0) (D.sl none 2 [] 0) (D.j 0) (D.sl none 2 [] 0) []:=zGl (by decide) (by decide) zKx zKx
 refine zC4 N a es c i h Q λE _ N1 al=>xG ah 4 (by omega) a c h N1 _ λx a1 am c1 i1 h1 N2 ao ai x0 x1 _ _ _ N3 aq=>?_
 have x1:=x1 (by omega)
 rw [i64_in (1+x) (by omega)]
 refine zQt (1+x) (by omega) ai a1 c1 h1 N3 _ λk s s1 n y y1 y2 y3 r q a2 au c2 i2 h2 N4 aw aj hp hr _ _ _ N5 ax=>?_
 refine xG aj 14 (by omega) a2 c2 h2 N5 _ λz1 a3 ay c3 i3 h3 N6 az O _ _ _ _ _=>Br.beq (λ_ N7 aa=>?_) λ_=>Br.beq (λ_ N7 aa=>?_) λ_=>Br.beq (λ_ N7 aa=>?_) λ_=>Br.beq (λ_ N7 aa=>?_) λ_=>Br.beq (λ_ N7 aa=>?_) λ_=>Br.beq (λ_ N7 aa=>?_) λ_=>?_
 ·exact xG O 15 (by omega) a3 c3 h3 N7 _ λw a4 ac c4 i4 h4 N8 ab J _ _ _ _ _=>⟨⟨rfl,rfl⟩,⟨rfl,rfl⟩,⟨rfl,rfl⟩,⟨rfl,rfl⟩,λa5 N9 U _=>⟨vD,λY I=>hQ _ _ _ _ _ _ _ (by omega) J ((hp.some _ _ _ _).mono (by omega))⟩⟩
 ·exact ut (l:=[0,1,10006,10007, -1]) O (by decide) (by decide) a3 c3 h3 5 5 N7 _ λw a4 ac c4 i4 h4 N8 ab J _ _ _ _=>⟨⟨rfl,rfl⟩,⟨rfl,rfl⟩,⟨rfl,rfl⟩,⟨rfl,rfl⟩,λa5 N9 U _=>⟨vD,λY I=>hQ _ _ _ _ _ _ _ (by omega) J ((hp.some _ _ _ _).mono (by omega))⟩⟩
 ·refine rq (l:=[bytes [],bytes [120],bytes [108,101,116],bytes [97,98,99,100,101],bytes [43]]) O (by decide) (by decide) a3 c3 h3 5 5 N7 _ λw a4 ac c4 i4 h4 N8 ab J hw _ _ _=>⟨⟨rfl,rfl⟩,⟨rfl,rfl⟩,⟨rfl,rfl⟩,⟨rfl,rfl⟩,λa5 N9 U _=>⟨vD,λY I=>hQ _ _ _ _ _ _ _ (by omega) J (((hp.name ?_).some _ _ _ _).mono (by omega))⟩⟩
  simp only [oG,oe,mL] at hw
  rcases hw with rfl | rfl | rfl | rfl | rfl<;>decide
 ·exact pN N7 _ _ λN8 ab _ _=>⟨⟨rfl,rfl⟩,λa5 N9 U _=>⟨⟨rfl,rfl⟩,by unfold zA;rw [oL];simp only [oJ,oM];omega,λc9=>⟨⟨rfl,rfl⟩,⟨rfl,rfl⟩,⟨rfl,rfl⟩,⟨rfl,rfl⟩,λa6 Y I _=>⟨vD,λa0 ak=>hQ _ _ _ _ _ _ _ (by omega) O (((hp.snoc (z.some _ _ _ _) (by omega)).some _ _ _ _).mono (by omega))⟩⟩⟩⟩
 ·exact zR0 O a3 c3 h3 N7 _ λw a4 ac c4 i4 h4 N8 ab J hw _ _ _=>⟨⟨rfl,rfl⟩,⟨rfl,rfl⟩,⟨rfl,rfl⟩,⟨rfl,rfl⟩,λa5 N9 U _=>⟨vD,λY I=>hQ _ _ _ _ _ _ _ (by omega) J (((hp.type hw.cells).some _ _ _ _).mono (by omega))⟩⟩
 ·refine rq (l:=[bytes [120],bytes [122]]) O (by decide) (by decide) a3 c3 h3 2 2 N7 _ λw a4 ac c4 i4 h4 N8 ab J hw _ _ _=>⟨⟨rfl,rfl⟩,⟨rfl,rfl⟩,⟨rfl,rfl⟩,⟨rfl,rfl⟩,λa5 N9 U _=>⟨vD,λY I=>hQ _ _ _ _ _ _ _ (by omega) J (((hp.other ?_).some _ _ _ _).mono (by omega))⟩⟩
  simp only [oG,oe,mL] at hw
  rcases hw with rfl | rfl<;>decide
 ·exact ⟨⟨rfl,rfl⟩,⟨rfl,rfl⟩,⟨rfl,rfl⟩,⟨rfl,rfl⟩,λa5 N9 U _=>⟨vD,λY I=>hQ _ _ _ _ _ _ _ (by omega) O ((hp.some _ _ _ _).mono (by omega))⟩⟩
end Go.Proofs.YtlahkdflngobiaaGreat
set_option maxRecDepth 100000
namespace Go.Proofs.YtlahkdflngobiaaGreat
open Go Go.Proofs Go.Proofs.Tryz Go.IntWalk
theorem zMB {es:List D} {i:Int} (Y:Cu es i) (a:Option Addr) (c:Nat) (h:Int) (N:Nat) (Q:QT [.sl 4,.ag 9,.sl 0,.i,.i])
  (hQ:∀ g a1 e1 c1 d a' ac c' i' h' N',N<=N'->Cu ac i'->Pms g e1->g.length<=4->(∀ x∈g,x.ty.cnt<=3)->Some 4096 d->Q a1 e1 c1 d a' ac c' i' h' N'):BCalls prog 28 [.sl 4,.ag 9,.sl 0,.i,.i] [.pb 0 0 0 0] [.var [.sv a 0 es c,.j i,.j h]] N Q:=by
 refine zCD N a es c i h Q λE _ N1 ao=>zRO Y a c h N1 _ λg e1 c1 d a2 aq c2 i2 h2 N2 au aj hg g1 g4 gc hd _ _ _ _ N3 aw=>?_
 have ax:=hg.all.len
 have L9:∀ (g:List Pm) (e1:List D) {es:List D} {i:Int} (_:Cu es i) a c h N',N<=N'->Pms g e1->g.length<=4->(∀ x∈g,x.ty.cnt<=3)->xR E Q N e1.length c1 a es c i h 0 (bytes []) (bytes []) 0 0 none [] 0 0 none [] 0 none [] 0 e1 c1 d N':=λg e1 es i Y a c h N' ay hg g4 gc=>by
  refine zC3 _ _ _ _ _ _ _ _ _ _ _ _ _ _ _ _ _ _ _ _ _ _ _ _ _ _ _ _ _ ⟨⟨rfl,rfl⟩,⟨rfl,rfl⟩,⟨rfl,rfl⟩,λa4 N5 aa _=>⟨vD,λN6 ab=>hQ g _ _ _ _ _ _ _ _ _ _ (by omega) Y hg g4 gc hd⟩⟩
 have J:∀ x∈g,x.ty.cnt<=3:=λx hx=>oR (gc x hx) (by omega)
 have ae:=hg.len
 obtain ⟨p,g',rfl⟩:∃ p g',g=p::g':=by
  cases g with
  | nil=>simp at g1
  | cons p g'=>exact ⟨p,g',rfl⟩
 obtain ⟨dp,ds,rfl,⟨t0,t1,rfl,ak,al⟩,U⟩:=hg.all
 have ah:∀ {s a b c:ByteArray},s∈[a,b,c]->a.size<=1000->b.size<=1000->c.size<=1000->s.size<=1000:=λ{s a b c} h ha hb hc=>by
  simp only [oG,oe,mL] at h
  rcases h with rfl | rfl | rfl<;>assumption
 refine xG aj 8 (by omega) a2 c2 h2 N3 _ λx a3 az c3 i3 h3 N4 a0 O _ _ _ _ _=>Br.beq (λ_ N5 aa=>?_) λ_=>Br.beq (λ_ N5 aa=>?_) λ_=>Br.beq (λ_ N5 aa=>?_) λ_=>L9 _ _ O _ _ _ N4 (by omega) hg g4 J
 ·refine rq (l:=[bytes [121],bytes [108,101,116],bytes [120]]) O (by decide) (by decide) a3 c3 h3 3 3 N5 _ λs a4 ai c4 i4 h4 N6 ab I hs _ _ _=>⟨⟨by omega,by simp,by simp⟩,by simp,?_⟩
  have hs:=ah hs (by decide) (by decide) (by decide)
  have:=L9 (⟨s,p.ty,p.dy⟩::g') (D.ag [.t s,t0,t1,.lit (.bool p.dy)]::ds) I a4 c4 h4 N6 (by omega) ⟨by simpa using ae,⟨_,_,rfl,⟨t0,t1,rfl,by show s.size<=_;omega,al⟩,U⟩⟩ (by simpa using g4) (by simpa using J)
  simpa [zK1,D.cells] using this
 ·refine zGw 2 (by omega) O a3 c3 h3 N5 _ λy a4 ai c4 i4 h4 N6 ab I hy _ _ _ _=>⟨⟨by omega,by simp,by simp⟩,by simp,?_⟩
  obtain ⟨t,ht,am⟩:=hy.cells
  have:=L9 (⟨p.nm,t,p.dy⟩::g') (D.ag [.t p.nm,y.cell 0,y.cell 1,.lit (.bool p.dy)]::ds) I a4 c4 h4 N6 (by omega) ⟨by simpa using ae,⟨_,_,rfl,⟨_,_,rfl,ak,ht⟩,U⟩⟩ (by simpa using g4) (λz hz=>by
   rcases oG.1 hz with rfl | hz
   ·exact am
   ·exact J z (by simp [hz]))
  simpa [zK1,D.cells] using this
 ·exact zSW O a3 c3 h3 N5 _ λy a4 ai c4 i4 h4 N6 ab I hy _ _ _=>⟨⟨rfl,rfl⟩,⟨rfl,rfl⟩,⟨rfl,rfl⟩,⟨rfl,rfl⟩,λa5 N7 a6 _=>⟨vD,λN8 a7=>hQ _ _ _ _ _ _ _ _ _ _ _ (by omega) I hg g4 J (hy.mono (by omega))⟩⟩
/-- what FnTimes draws -/
theorem zMr {es:List D} (hb:∀ d∈es,∃ n:Int,d=.lit (.int .u8 n)) (hl:es.length<=1073741824) (a:Option Addr) (c:Nat) (N:Nat) (Q:QT [.sl 4,.ag 9,.sl 0])
  (hQ:∀ g a1 e1 c1 d ns a2 c2 N',N<=N'->Pms g e1->g.length<=4->(∀ x∈g,x.ty.cnt<=3)->Some 4096 d->ns.length<=10->Q a1 e1 c1 d a2 (xj ns) c2 N'):ACalls prog 5 [.sl 4,.ag 9,.sl 0] [.sv a 0 es c] N Q:=by
 refine pw N a es c Q λ_ N1 ax=>zTy hb hl a c N1 _ λh N2 ay ac _ N3 az=>?_
 refine zRO ac a c h N3 _ λg e1 c1 d a2 a0 c2 i2 h2 N4 a3 ae hg g1 g4 gc hd _ _ _ _=>⟨⟨rfl,rfl⟩,⟨rfl,rfl⟩,⟨rfl,rfl⟩,λa1 a9 aq _ N5 ba=>?_⟩
 have J:∀ x∈g,x.ty.cnt<=3:=λx hx=>oR (gc x hx) (by omega)
 refine zTO hg (by omega) a1 c1 ae a2 c2 h2 N5 _ λns c3 a4 bb c4 i4 h4 N6 bc ah bd _ _ _ N7 bg=>?_
 have bh:=vk ns
 refine xG ah 12 (by omega) a4 c4 h4 N7 _ λx a5 bi c5 i5 h5 N8 bj O _ _ _ _ _=>Br.beq (λ_ N9 U=>?_) λ_=>Br.beq (λ_=>?_) λ_=>Br.beq (λ_ N9 U=>?_) λ_=>⟨⟨rfl,rfl⟩,⟨rfl,rfl⟩,⟨rfl,rfl⟩,⟨rfl,rfl⟩,λa6 N9 U _ Y I=>hQ g _ _ _ _ ns _ _ _ (by omega) hg g4 J hd (by omega)⟩
 ·exact zMB O a5 c5 h5 N9 _ λg' a6 e6 c6 d6 a7 bm c7 i7 h7 Y I bn ai aj ak al _ _ _ _=>⟨⟨rfl,rfl⟩,⟨rfl,rfl⟩,⟨rfl,rfl⟩,⟨rfl,rfl⟩,λa8 am aa _ ao ab=>hQ g' _ _ _ _ ns _ _ _ (by omega) ai aj ak al (by omega)⟩
 ·have e:xj ns++[D.j 1]=xj (ns++[1]):=by simp [xj]
  refine ⟨⟨rfl,rfl⟩,by unfold zA;rw [oL];simp only [oJ,oM];omega,λbp=>⟨⟨rfl,rfl⟩,⟨rfl,rfl⟩,⟨rfl,rfl⟩,⟨rfl,rfl⟩,λbq bt au _ bv aw=>?_⟩⟩
  rw [e]
  exact hQ g _ _ _ _ (ns++[1]) _ _ _ (by omega) hg g4 J hd (by simp;omega)
 ·refine ut (l:=[-1,10007]) O (by decide) (by decide) a5 c5 h5 2 2 N9 _ λw a6 bw c6 i6 h6 Y I bz _ _ _ _=>⟨⟨by omega,by omega,by omega⟩,by omega,⟨by simp,rfl⟩,⟨by simp,rfl⟩,⟨by simp,rfl⟩,⟨by simp,rfl⟩,⟨by simp,rfl⟩,λa7 am aa _ ao ab=>?_⟩
  have e:(xj ns).set 0 (D.j w)=xj (ns.set 0 w):=by simp [xj,List.map_set]
  rw [e]
  exact hQ g _ _ _ _ (ns.set 0 w) _ _ _ (by omega) hg g4 J hd (by simp;omega)
end Go.Proofs.YtlahkdflngobiaaGreat
set_option maxRecDepth 100000
namespace Go.Proofs.YtlahkdflngobiaaGreat
open Go Go.Proofs Go.Proofs.Tryz Go.IntWalk
theorem zII (t:Ty) (n:Int):LitT (zHc t n) (zHc t n).no/\(zHc t n).res=true/\(zHc t n).no=n:=by
 unfold zHc
 split
 ·exact ⟨⟨.inr rfl,rfl,rfl,rfl⟩,rfl,rfl⟩
 ·exact ⟨⟨.inl rfl,rfl,rfl,rfl⟩,rfl,rfl⟩
theorem zGN:∀ {g:List Pm} {ns:List Int} {a:Tm},a∈uo g ns->∃ t n,a=zHc t n
 | [],[],a,h=>by simp [uo] at h
 | [],_::_,a,h=>by simp [uo] at h
 | _::_,[],a,h=>by simp [uo] at h
 | p::g,n::ns,a,h=>by
   simp only [uo,oG] at h
   rcases h with rfl | h
   ·exact ⟨_,_,rfl⟩
   ·exact zGN h
theorem zGr:∀ {g:List Pm} {ns:List Int},ns.length=g.length->(uo g ns).length=g.length
 | [],[],_=>rfl
 | [],_::_,h=>by simp at h
 | _::_,[],h=>by simp at h
 | p::g,n::ns,h=>by simp only [uo,oJ];rw [zGr (by simpa using h)]
theorem zJD:∀ (g:List Pm) (ns:List Int),zNE g (uo g ns)=yU g ns
 | [],[]=>rfl
 | [],_::_=>rfl
 | _::_,[]=>rfl
 | p::g,n::ns=>by simp only [uo,zNE,yU];rw [zJD g ns,(zII p.ty n).2.2]
theorem zFH:∀ (g:List Pm) (seen:List ByteArray),zCy seen g=true->(g.map Pm.nm).Nodup/\∀ s∈seen,s∉g.map Pm.nm
 | [],seen,_=>by simp
 | p :: g,seen,h=>by
   simp only [zCy,oI] at h
   obtain ⟨_,_,I,O⟩:=h
   obtain ⟨U,J⟩:=zFH g _ O
   refine ⟨?_,λs hs hm=>?_⟩
   ·rw [od,nf]
    exact ⟨J p.nm (by simp),U⟩
   ·rw [od,oG] at hm
    rcases hm with rfl | hm
    ·have:(seen.any λx=>decide (x=p.nm))=true:=List.any_eq_true.2 ⟨p.nm,hs,by simp⟩
     rw [this] at I;cases I
    ·exact J s (by simp [hs]) hm
theorem zM6 {g:List Pm} {e:Tm} {ns:List Int} (h:(vK g e ns).2=true) (I:(qB (wa g e ns) 200).1=1) :
  ((qB (wa g e ns) 200).2.1.kd=2\/(qB (wa g e ns) 200).2.1.kd=3)/\(qB (wa g e ns) 200).2.1.no=(vK g e ns).1:=by
 unfold vK at h ⊢
 split at h
 ·rename_i O
  split at h
  ·rename_i U
   split at h
   ·rename_i hf
    rw [if_pos O,if_pos U,if_pos hf]
    have ec:wa g e ns=spn (yS g e) (uo g ns):=by unfold wa;rw [if_pos U,zL7]
    rw [ec] at I ⊢
    unfold xb at O
    split at O
    ·rename_i hc
     obtain ⟨b1,b2,b3⟩:=hc
     have Y:e.ok=true:=by
      simp only [Tm.vd,oI,nO] at b2
      exact b2.2
     unfold zAo at b1
     have aa:=(zFH g [] (Bool.and_eq_true_iff.1 b1).1).1
     have ab:Way (spn (yS g e) (uo g ns)) (e.ev (yU g ns)):=⟨g,uo g ns,e,rfl,(zGr U).symm,λa ha=>by
      obtain ⟨t,n,rfl⟩:=zGN ha
      exact ⟨(zII t n).1,(zII t n).2.1⟩,aa,Y,b3,by rw [zJD]⟩
     unfold qB at I ⊢
     split at I
     ·rename_i J
      rw [if_pos J]
      have ac:=(Bool.and_eq_true_iff.1 (Bool.and_eq_true_iff.1 J).1).1
      obtain ⟨_,r2,r3⟩:=zQm 200 0 _ ac ab I
      exact zSU r3 r2
     ·cases I
    ·cases O
   ·cases h
  ·cases h
 ·cases h
theorem zKH:∀ g:List Pm,(zOX g).length+(rX g).length=g.length
 | []=>rfl
 | p::g=>by
   have:=zKH g
   unfold zOX rX at this ⊢
   cases hd:p.dy<;>simp [hd]<;>omega
theorem zR7 {es:List D} (J:∀ d∈es,∃ n:Int,d=.lit (.int .u8 n)) (O:es.length<=1073741824) (a:Option Addr) (c:Nat) (N:Nat) (Q:QT [.sl 4])
  (U:∀ g a1 e1 c1 N',N<=N'->Pms g e1->g.length<=4->(∀ x∈g,x.ty.cnt<=3)->Q a1 e1 c1 N'):ACalls prog 16 [.sl 4] [.sv a 0 es c] N Q:=by
 refine rK N a es c Q λ_ N1 Y=>qm N1 a es c _ λ_ N2 aa=>zTy J O a c N2 _ λh N3 ab I _ N4 ac=>?_
 exact zMB I a c h N4 _ λg a2 e2 c2 d a3 ae c3 i3 h3 N7 ah ai hg g4 gc hd _ _ _ _ N8 aj _ _ N9 ak=>U g _ _ _ _ (by omega) hg g4 gc
theorem zM5 {es:List D} (hb:∀ d∈es,∃ n:Int,d=.lit (.int .u8 n)) (a:Option Addr) (c:Nat) (N:Nat) :
  ACalls prog 3 [.bool] [.sv a 0 es c] N (λr _=>r=true):=by
 refine zEf N a es c _ λ_ N1 dk=>zMM N1 a es c _ λ_ N2 dl _=>Br.dec (λ_ N3 _=>rfl) λbw N4 dm=>?_
 refine zMr hb (by omega) a c N4 _ λg a1 e1 c1 d ns a2 c2 N5 dn O g4 gc hd dq _ _ _ _ N6 dr=>?_
 obtain ⟨t,U,dt⟩:=hd
 have aa:∀ x∈g,x.ty.cnt<=1073741824:=λx hx=>oR (gc x hx) (by omega)
 have hW:pmW g<=20:=by
  have h1:=zRG gc
  have h2:g.length*(2+3)<=4*5:=oc _ g4
  omega
 have du:=zMf g t ns
 refine zEo O (by omega) aa U (by omega) ns (by omega) a1 a2 c1 c2 N6 _ λN7 dv _ N8 dw=>?_
 refine zFG O (by omega) U (by omega) ns (by omega) a1 a2 c1 c2 N8 _ λN9 dx _ aj bz=>?_
 refine zIX O (by omega) (by omega) U (by omega) ns (by omega) a1 a2 c1 c2 aj _ λx1 dz b1 ab _ _ ak b2=>?_
 refine rO O (by omega) aa U (by omega) a1 c1 ak _ λx2 d7 b6 al _ _ _ am b7=>?_
 refine r6 O (by omega) U (by omega) a1 c1 am _ λx3 d8 b9 ao _ _=>?_
 refine Br.bne (λh=>absurd rfl h) λ_=>Br.of (λh=>by simp at h) λ_ aq ca=>?_
 refine zGz O (by omega) (by omega) U (by omega) ns (by omega) a1 a2 c1 c2 aq _ λx4 d9 cc au _ _ aw cd=>?_
 refine zMJ _ _ _ ab au aw _ λea ce _=>Br.of (λh=>by cases h) λ_=>Br.of (λh=>by simp at h) λ_ ax cf=>?_
 refine zi _ _ _ _ al ao ax _ λeb cg _=>?_
 rw [(uI _ _).2 rfl]
 refine Br.of (λh=>by cases h) λ_ ay ch=>?_
 refine sD O (by omega) (by omega) U (by omega) a1 c1 ay _ λx5 ee ci az _ _ _ a0 cj=>?_
 refine ti O (by omega) (by omega) U (by omega) a1 c1 a0 _ λx6 ef ck a9 _ _ _ ba cm=>?_
 refine zMJ _ _ _ az a9 ba _ λeg cn _=>Br.of (λh=>by cases h) λ_ bb co=>?_
 refine zR7 hb (by omega) a c bb _ λg2 a3 e3 c3 ei cp I ej ac _ _ bc cq=>?_
 have ae:∀ x∈g2,x.ty.cnt<=1073741824:=λx hx=>oR (ac x hx) (by omega)
 refine zAV I (by omega) ae a3 c3 bc _ λa4 e4 c4 a5 e5 c5 ek cr p4 p5 _ _ _ bd ct=>?_
 refine zBH I (by omega) ae a3 c3 bd _ λa6 e6 c6 a7 e7 c7 em cw p6 p7 _ _ _ bg cx=>?_
 refine zCm p4 p6 a4 a6 c4 c6 bg _ λeo cy _=>Br.of (λh=>by cases h) λ_ bh cz=>?_
 refine zCm p5 p7 a5 a7 c5 c7 bh _ λep c0 _=>Br.of (λh=>by cases h) λ_=>?_
 have l4:=p4.all.len
 have l5:=p5.all.len
 have l2:=I.all.len
 have eq:=zKH g2
 refine Br.bne (λh=>absurd (show IntKind.i64.wrap ((e4.length:Int)+e5.length)=e3.length by rw [i64_in _ (by omega)];omega) h) λ_ bi c9=>?_
 refine s8 I (by omega) a3 c3 bi _ λer da _ bj db=>rD I (by omega) a3 c3 bj _ λet de _=>Br.of (λh=>by simp at h) λ_ bm df=>?_
 refine zFc ab (by omega) 200 bm _ λx7 eu dh hr _ _=>Br.not (λ_ ew _=>rfl) λbn=>?_
 have Y:=λh1=>zM6 (g:=g) (e:=t) (ns:=ns) bn h1
 generalize hR:qB (wa g t ns) 200=R at hr Y
 obtain ⟨y0,y1,y2,y3,y4,y5,y6,y7,y8,rfl,hv⟩:=Rs.cells hr
 refine ⟨_,rfl,Br.bne (λ_ ey _=>rfl) λh1 bp di=>?_⟩
 obtain ⟨hk,hn⟩:=Y h1
 obtain ⟨s,v,m⟩:=R
 cases v with
 | mk k nm ot n0 ty re l=>
 obtain ⟨t0,t1,r0,r1,a8,e8,c8,J,hh,bq,dj⟩:=Tm.is_mk.1 hv
 injection J with J
 injection J with e0 J
 injection J with e1 J
 injection J with e2 J
 injection J with e3 J
 subst e0;subst e3
 have hk:k=2\/k=3:=hk
 have hn:n0=(vK g t ns).1:=hn
 refine zFq bp _ _ λ_=>⟨k,rfl,Br.beq (λh2 bt ah _=>Br.of (λ_=>⟨n0,rfl,λbv ai=>by rw [hn];simp⟩) λh=>by cases h) λh2=>⟨k,rfl,λbt ah _=>?_⟩⟩
 have h3:(k==3)=true:=by rw [nl];omega
 rw [h3]
 exact Br.of (λ_=>⟨n0,rfl,λbv ai=>by rw [hn];simp⟩) λh=>by cases h
end Go.Proofs.YtlahkdflngobiaaGreat
