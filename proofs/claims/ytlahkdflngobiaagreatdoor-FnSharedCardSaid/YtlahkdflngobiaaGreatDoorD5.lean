/- Drawing: types, and terms that need not have a type. -/
import Derived.Test.YtlahkdflngobiaaGreatDoorD4
import Derived.Test.YtlahkdflngobiaaGreatDoorKf
set_option linter.unusedVariables false
set_option linter.unusedSimpArgs false
set_option maxRecDepth 100000
namespace Go.Proofs.YtlahkdflngobiaaGreatDoor
open Go Go.Proofs Go.Proofs.Tryz Go.IntWalk
/-- some type of at most this many nodes -/
def SmT (m:Nat) (d:D):Prop:=∃ t:Ty,t.Is d/\t.cnt<=m
theorem SmT.mono {m n:Nat} {d:D} (h:SmT m d) (J:m<=n):SmT n d:=by obtain ⟨t,I,O⟩:=h;exact ⟨t,I,by omega⟩
theorem SmT.cells {m:Nat} {d:D} (h:SmT m d):SmT m (.ag [d.cell 0,d.cell 1]):=by obtain ⟨t,I,J⟩:=h;exact ⟨t,Ty.is_cells I,J⟩
/-- its row has no room behind it -/
def Ex (d:D):Prop:=∃ k a es c,d=.ag [.j k,.sl a 2 es c]/\(c=es.length/\es.length<=1000)
theorem zL9 (k:Int):SmT 1 (.ag [.j k,.sl none 2 [] 0]):=⟨_,wD k,by simp [Ty.cnt,zV]⟩
theorem zQY {m:Nat} (hm:m<=1073741824) {d:D} (hd:SmT m d) (N:Nat) (Q:QT [.ag 2]) (I:∀ d' N',N<=N'->SmT (1+m) d'->Ex d'->Q d' N'):ACalls prog 149 [.ag 2] [.dg 2 d] N Q:=by
 obtain ⟨t,J,h2⟩:=hd
 refine zBl N d Q λ_ N1 O=>zT t d J (by omega) N1 _ λx N2 aa hx _ _ _=>⟨⟨rfl,rfl⟩,⟨rfl,rfl⟩,⟨rfl,rfl⟩,λa N3 ab _ N4 ac=>I _ _ (by omega) ⟨zAk t,Ty.is_mk.2 ⟨_,_,_,rfl,by simp,x,[],rfl,hx,rfl⟩,?_⟩ ⟨_,_,_,_,rfl,rfl,by simp⟩⟩
 simp only [zAk,Ty.cnt,zV]
 omega
theorem zSy {m:Nat} (hm:m<=1073741824) {d e:D} (hd:SmT m d) (I:SmT m e) (N:Nat) (Q:QT [.ag 2]) (J:∀ d' N',N<=N'->SmT (1+2*m) d'->Ex d'->Q d' N'):ACalls prog 150 [.ag 2] [.dg 2 d,.dg 2 e] N Q:=by
 obtain ⟨t,O,h2⟩:=hd
 obtain ⟨u,h3,h4⟩:=I
 refine zDv N d e Q λ_ _ N1 aa=>zT t d O (by omega) N1 _ λx N2 ab hx _ _ _ N3 ac=>zT u e h3 (by omega) N3 _ λy N4 ae hy _ _ _=>⟨⟨rfl,rfl⟩,⟨rfl,rfl⟩,⟨rfl,rfl⟩,λa N5 ah _ N6 ai=>J _ _ (by omega) ⟨tH t u,Ty.is_mk.2 ⟨_,_,_,rfl,by simp,x,[y],rfl,hx,y,[],rfl,hy,rfl⟩,?_⟩ ⟨_,_,_,_,rfl,rfl,by simp⟩⟩
 simp only [tH,Ty.cnt,zV]
 omega
def TyC (b:Int) (X:Nat):Prop:=∀ (n:Int),n<=b->∀ {es:List D} {i:Int} (_:Cu es i) (a:Option Addr) (c:Nat) (h:Int) (N:Nat) (Q:QT [.ag 2,.sl 0,.i,.i])
    (_:∀ d' J I O i' h' N',N<=N'->Cu I i'->SmT X d'->Ex d'->Q d' J I O i' h' N'),BCalls prog 129 [.ag 2,.sl 0,.i,.i] [.pb 0 0 0 0,.j n] [.var [.sv a 0 es c,.j i,.j h]] N Q
theorem zUc:TyC 1 1:=λn hn es i I a c h N Q O=>by
 refine qD N n a es c i h Q λE _=>Br.dec (λ_ N1 aa=>?_) λg=>absurd (by omega) g
 exact po (l:=[1,1,2]) I (by decide) (by decide) a c h 3 3 N1 _ λk a' ab c' i' h' N2 ac J _ _ _ _=>⟨vV,λN3 ae=>O _ _ _ _ _ _ _ (by omega) J (zL9 k) ⟨_,_,_,_,rfl,rfl,by simp⟩⟩
theorem zMY {b:Int} {X:Nat} (hb:b<=1000) (hX:1<=X) (ba:X<=1000000) (ih:TyC b X):TyC (b+1) (1+2*X):=λn hn es i I a c h N Q hQ=>by
 have pk:∀ (E:Env) {es:List D} {i:Int} (_:Cu es i) a c h N1,N<=N1->BCalls prog 109 [.i,.sl 0,.i,.i,.sl 0] [.pb 0 0 0 0,.sb 1 0 0 3 3] [.var [.sv a 0 es c,.j i,.j h],.arr 3 0 (zAa [1,1,2]) 3] N1
   (λn a es c ah ai aj aa ak N2=>N1<=N2->Bel N2 (D.sl a 0 es c)->Bel N2 (D.sl aj 0 aa ak)->vW E [.var [.sv none 0 [] 0,.j 0,.j 0]]/\∀ N3,N2<=N3->Q (D.ag [D.j n,D.sl Option.none 2 [] 0]) a es c ah ai N3):=λE es i I a c h N1 J=>
  po (l:=[1,1,2]) I (by decide) (by decide) a c h 3 3 N1 _ λk a' bb c' i' h' N2 al am _ _ _ _=>⟨vV,λN3 ab=>hQ _ _ _ _ _ _ _ (by omega) am ((zL9 k).mono (by omega)) ⟨_,_,_,_,rfl,rfl,by simp⟩⟩
 refine qD N n a es c i h Q λE _=>Br.dec (λ_ N1 J=>pk E I _ _ _ N1 J) λbc N1 J=>zBA I 2 (by omega) a c h N1 _ λb1 a1 bd c1 i1 h1 N2 al ac _ _=>Br.of (λ_ N3 ab=>pk E ac _ _ _ N3 (by omega)) λ_ N3 ab=>?_
 refine zBA ac 2 (by omega) a1 c1 h1 N3 _ λb2 a2 es2 c2 i2 h2 N4 bg ae _ _=>Br.of (λ_ N5 ao=>?_) λ_ N5 ao=>?_
 ·rw [i64_in (n - 1) (by omega)]
  exact ih (n - 1) (by omega) ae a2 c2 h2 N5 _ λd a3 aq c3 i3 h3 N6 au O hd _ _ _ _ N7 aw=>zQY (by omega) hd N7 _ λe N8 ax he hx _ _=>⟨vV,λN9 ay=>hQ _ _ _ _ _ _ _ (by omega) O (he.mono (by omega)) hx⟩
 ·rw [i64_in (n - 1) (by omega)]
  refine ih (n - 1) (by omega) ae a2 c2 h2 N5 _ λd a3 aq c3 i3 h3 N6 au O hd _ _ _ _ N7 aw=>?_
  exact ih (n - 1) (by omega) O a3 c3 h3 N7 _ λd2 a4 bh c4 i4 h4 N8 ax az a6 _ _ _ _ N9 ay=>zSy (by omega) hd a6 N9 _ λe N10 a7 he hx _ _=>⟨vV,λbi a8=>hQ _ _ _ _ _ _ _ (by omega) az he hx⟩
theorem zID:TyC 2 3:=zMY (b:=1) (by omega) (by omega) (by omega) zUc
theorem zTf:TyC 4 15:=zMY (b:=3) (by omega) (by omega) (by omega) (zMY (b:=2) (by omega) (by omega) (by omega) zID)
theorem zTG {es:List D} {i:Int} (I:Cu es i) (a:Option Addr) (c:Nat) (h:Int) (N:Nat) (Q:QT [.ag 2,.sl 0,.i,.i])
  (hQ:∀ d' a' ai c' i' h' N',N<=N'->Cu ai i'->SmT 200 d'->Q d' a' ai c' i' h' N'):BCalls prog 111 [.ag 2,.sl 0,.i,.i] [.pb 0 0 0 0] [.var [.sv a 0 es c,.j i,.j h]] N Q:=by
 refine zD9 N a es c i h Q λE _ N1 aw=>zTf 4 (by omega) I a c h N1 _ λd a1 ax c1 i1 h1 N2 ay al hd hx _ _ _ N3 az=>?_
 have lc:∀ (m:Nat) (y:D) (a es c i h) (N':Nat) (n4 n5:Int),n4<=n5+m->0<=n5->n4<=1000->m<=6->N<=N'->Cu es i->SmT (21 - m) y->w9 E Q N n4 n5 a es c i h 0 none [] 0 y N':=by
  intro m
  induction m with
  | zero=>
    intro y a es c i h N' n4 n5 h1 h2 h5 h6 h3 I O
    exact qQ _ _ _ _ _ _ _ _ _ _ _ _ _ _ _ _ (Br.dec (λg=>by omega) λ_=>⟨vV,λN4 J=>hQ _ _ _ _ _ _ _ (by omega) I (O.mono (by omega))⟩)
  | succ m ae=>
    intro y a es c i h N' n4 n5 h1 h2 h5 h6 h3 I O
    refine qQ _ _ _ _ _ _ _ _ _ _ _ _ _ _ _ _ (Br.dec (λg N4 J=>zQY (by omega) O N4 _ λe N5 aa he _ _ _=>?_) λ_=>⟨vV,λN4 J=>hQ _ _ _ _ _ _ _ (by omega) I (O.mono (by omega))⟩)
    rw [i64_in (n5+1) (by omega)]
    exact ae _ _ _ _ _ _ _ _ _ (by omega) (by omega) (by omega) (by omega) (by omega) I (he.mono (by omega))
 have lf:∀ (m k:Nat) (y:D) (a es c i h) (N':Nat),m+k=3->N<=N'->Cu es i->SmT (16*2 ^ k - 1) y->w7 E Q N k a es c i h 0 none [] 0 y N':=by
  have p3:∀ k:Nat,k<=3->2 ^ k<=8:=λk hk=>by rcases (by omega:k=0\/k=1\/k=2\/k=3) with rfl | rfl | rfl | rfl<;>decide
  intro m
  induction m with
  | zero=>
    intro k y a es c i h N' h1 h3 I O
    have:=p3 k (by omega)
    exact qB _ _ _ _ _ _ _ _ _ _ _ _ _ _ _ (Br.dec (λg=>by omega) λ_=>⟨vV,λN4 J=>hQ _ _ _ _ _ _ _ (by omega) I (O.mono (by omega))⟩)
  | succ m ae=>
    intro k y a es c i h N' h1 h3 I O
    have:=p3 k (by omega)
    have h0:1<=2 ^ k:=Nat.one_le_two_pow
    refine qB _ _ _ _ _ _ _ _ _ _ _ _ _ _ _ (Br.dec (λg N4 J=>zSy (by omega) O O N4 _ λe N5 aa he _ _ _=>?_) λ_=>⟨vV,λN4 J=>hQ _ _ _ _ _ _ _ (by omega) I (O.mono (by omega))⟩)
    rw [i64_in ((k:Int)+1) (by omega)]
    exact ae (k+1) _ _ _ _ _ _ _ (by omega) (by omega) I (he.mono (by rw [Nat.pow_succ];omega))
 obtain ⟨k,ra,rs,rc,rfl,am,a6⟩:=hx
 obtain ⟨t,ht,aj⟩:=hd
 obtain ⟨k',l,rfl⟩:∃ k l,t=Ty.mk k l:=by cases t;exact ⟨_,_,rfl⟩
 obtain ⟨_,_,_,he,hl,ab⟩:=Ty.is_mk.1 ht
 cases he
 simp only [Ty.cnt] at aj
 refine xd al 10 (by omega) a1 c1 h1 N3 _ λx a2 es2 c2 i2 h2 N4 J ac _ _ _ _ _=>Br.beq (λ_ N5 aa=>?_) λ_=>Br.beq (λ_=>⟨_,_,_,rfl,λN5 aa=>?_⟩) λ_=>Br.beq (λ_ N5 aa=>?_) λ_=>Br.beq (λ_=>?_) λ_=>⟨vV,λN5 aa=>hQ _ _ _ _ _ _ _ (by omega) ac ⟨_,ht,by simp only [Ty.cnt];omega⟩⟩
 ·exact xd ac 6 (by omega) a2 c2 h2 N5 _ λy a3 ao c3 i3 h3 N6 ak ah _ _ _ _ _=>⟨vV,λN7 aq=>hQ _ _ _ _ _ _ _ (by omega) ah ⟨.mk y l,Ty.is_mk.2 ⟨_,_,_,rfl,hl,ab⟩,by simp only [Ty.cnt];omega⟩⟩
 ·refine xW N5 _ λy N6 ak O _ _ _=>⟨?_,by unfold zB;rw [oE];simp only [oJ,oM];omega,λc4=>⟨⟨rfl,rfl⟩,⟨rfl,rfl⟩,⟨rfl,rfl⟩,⟨rfl,rfl⟩,λa4 N7 aq _=>⟨vV,λN8 a7=>hQ _ _ _ _ _ _ _ (by omega) ac ⟨.mk k (l++[tInt]),Ty.is_mk.2 ⟨_,_,_,rfl,by simp;omega,ab.snoc O⟩,?_⟩⟩⟩⟩
  ·unfold zUN
   split
   ·trivial
   ·exact ⟨am,by simp⟩
  ·have:zV (l++[tInt])=zV l+1:=by
    clear ht aj ab hl
    induction l with
    | nil=>rfl
    | cons u l au=>simp only [o9,zV,au];omega
   simp only [Ty.cnt]
   omega
 ·refine xd ac 6 (by omega) a2 c2 h2 N5 _ λy a3 ao c3 i3 h3 N6 ak ah y0 y1 _ _ _=>?_
  have y1:=y1 (by omega)
  simp only [i64_in (1+y) (by omega)]
  exact lc 6 _ _ _ _ _ _ _ _ _ (by omega) (by omega) (by omega) (by omega) (by omega) ah ⟨_,ht,by simp only [Ty.cnt];omega⟩
 ·exact lf 3 0 _ _ _ _ _ _ _ (by omega) (by omega) ac ⟨_,ht,by simp only [Ty.cnt];omega⟩
/-- the cells of some term, but for its kind and number and the place of its row -/
def PkT (m:Nat) (s I:ByteArray) (x J O x3:D) (es:List D):Prop:=∃ (ty re:Ty) (l:List Tm),s.size<=4611686018427387904/\I.size<=4611686018427387904/\ty.Is (.ag [x,J])/\re.Is (.ag [O,x3])/\All2 Tm.Is l es/\es.length<=1000/\1+ty.cnt+re.cnt+za l<=m
theorem PkT.some {m:Nat} {s I:ByteArray} {x J O x3:D} {es:List D} (h:PkT m s I x J O x3 es) (k n:Int) (a:Option Addr) (c:Nat):Some m (.ag [.j k,.t s,.t I,.j n,x,J,O,x3,.sl a 9 es c]):=by
 obtain ⟨ty,re,l,h1,h2,h3,h4,h5,h6,h7⟩:=h
 exact ⟨.mk k s I n ty re l,Tm.is_mk.2 ⟨_,_,_,_,_,_,_,rfl,⟨h1,h2,h3,h4⟩,by omega,h5⟩,by simpa only [Tm.cnt] using h7⟩
theorem PkT.mono {m n:Nat} {s I:ByteArray} {x J O x3:D} {es:List D} (h:PkT m s I x J O x3 es) (hn:m<=n):PkT n s I x J O x3 es:=by
 obtain ⟨ty,re,l,h1,h2,h3,h4,h5,h6,h7⟩:=h
 exact ⟨ty,re,l,h1,h2,h3,h4,h5,h6,by omega⟩
theorem PkT.name {m:Nat} {s I:ByteArray} {x J O x3:D} {es:List D} (h:PkT m s I x J O x3 es) {t:ByteArray} (ht:t.size<=1000):PkT m t I x J O x3 es:=by
 obtain ⟨ty,re,l,h1,h2,h3,h4,h5,h6,h7⟩:=h
 exact ⟨ty,re,l,by omega,h2,h3,h4,h5,h6,h7⟩
theorem PkT.other {m:Nat} {s s1:ByteArray} {x I J O:D} {es:List D} (h:PkT m s s1 x I J O es) {t:ByteArray} (ht:t.size<=1000):PkT m s t x I J O es:=by
 obtain ⟨ty,re,l,h1,h2,h3,h4,h5,h6,h7⟩:=h
 exact ⟨ty,re,l,h1,by omega,h3,h4,h5,h6,h7⟩
theorem PkT.type {m M:Nat} {s I:ByteArray} {x x1 J O y y1:D} {es:List D} (h:PkT m s I x x1 J O es) (hy:SmT M (.ag [y,y1])):PkT (m+M) s I y y1 J O es:=by
 obtain ⟨ty,re,l,h1,h2,h3,h4,h5,h6,h7⟩:=h
 obtain ⟨t,h8,h9⟩:=hy
 exact ⟨t,re,l,h1,h2,h8,h4,h5,h6,by omega⟩
theorem zF7 (t:Tm):∀ l:List Tm,za (l++[t])=za l+t.cnt
 | []=>by simp [za]
 | x::l=>by simp only [o9,za,zF7 t l];omega
theorem PkT.snoc {m M:Nat} {s I:ByteArray} {x J O x3 d:D} {es:List D} (h:PkT m s I x J O x3 es) (hd:Some M d) (hl:es.length<=999):PkT (m+M) s I x J O x3 (es++[d]):=by
 obtain ⟨ty,re,l,h1,h2,h3,h4,h5,h6,h7⟩:=h
 obtain ⟨t,h8,h9⟩:=hd
 exact ⟨ty,re,l++[t],h1,h2,h3,h4,h5.snoc h8,by simp;omega,by rw [zF7];omega⟩
theorem zHy {s I:ByteArray} (hs:s.size<=1000) (aa:I.size<=1000) {x J O x3:D} (h1:SmT 7 (.ag [x,J])) (h2:SmT 7 (.ag [O,x3])):PkT 15 s I x J O x3 []:=by
 obtain ⟨t,h3,h4⟩:=h1
 obtain ⟨u,h5,h6⟩:=h2
 exact ⟨t,u,[],by omega,by omega,h3,h5,rfl,by simp,by simp only [za];omega⟩
theorem zMW:SmT 7 (.ag [D.j 0,D.sl none 2 [] 0]):=(zL9 0).mono (by omega)
theorem zRi (s:ByteArray):zJx s<=3:=by
 unfold zJx
 repeat' split
 all_goals decide
theorem pv (k:Int) (s:ByteArray):zGm k s<=3:=by
 unfold zGm
 have:=zRi s
 repeat' split
 all_goals first | omega | decide
def zNg (b:Int) (X:Nat):Prop:=∀ (n:Int),n<=b->∀ {es:List D} {i:Int} (_:Cu es i) (a:Option Addr) (c:Nat) (h:Int) (N:Nat) (Q:QT [.pk,.i,.str,.str,.i,.dc,.dc,.dc,.dc,.row 36 9,.sl 0,.i,.i])
    (_:∀ k s J n' x O x2 x3 r q a' I c' i' h' N',N<=N'->Cu I i'->PkT X s J x O x2 x3 r->r.length<=3->Q k s J n' x O x2 x3 r q a' I c' i' h' N'),BCalls prog 107 [.pk,.i,.str,.str,.i,.dc,.dc,.dc,.dc,.row 36 9,.sl 0,.i,.i] [.pb 0 0 0 0,.j n] [.var [.sv a 0 es c,.j i,.j h]] N Q
theorem zSm {es:List D} {i:Int} (ai:Cu es i) (a:Option Addr) (c:Nat) (h:Int) (N:Nat) (Q:QT [.pk,.i,.str,.str,.i,.dc,.dc,.dc,.dc,.row 36 9,.sl 0,.i,.i])
  (hQ:∀ k s s1 n' x x1 x2 x3 r q a' O c' i' h' N',N<=N'->Cu O i'->PkT 15 s s1 x x1 x2 x3 r->r.length<=3->Q k s s1 n' x x1 x2 x3 r q a' O c' i' h' N'):BCalls prog 146 [.pk,.i,.str,.str,.i,.dc,.dc,.dc,.dc,.row 36 9,.sl 0,.i,.i] [.pb 0 0 0 0] [.var [.sv a 0 es c,.j i,.j h]] N Q:=by
 have z:PkT 15 (bytes []) (bytes []) (D.j 0) (D.sl none 2 [] 0) (D.j 0) (D.sl none 2 [] 0) []:=zHy (by decide) (by decide) zMW zMW
 refine zEp N a es c i h Q λE _ N1 aj=>xd ai 4 (by omega) a c h N1 _ λx a1 ak c1 i1 h1 N2 al J _ _ _ _ _=>Br.beq (λ_ N3 aa=>?_) λ_=>Br.beq (λ_ N3 aa=>?_) λ_ N3 aa=>?_
 ·exact po (l:=[0,1,2,3,10006]) J (by decide) (by decide) a1 c1 h1 5 5 N3 _ λk a2 es2 c2 i2 h2 N4 ab I _ _ _ _ N5 ac=>zHK N5 k _ λN6 ae _ _=>⟨vV,⟨rfl,rfl⟩,λN7 ah=>hQ _ _ _ _ _ _ _ _ _ _ _ _ _ _ _ _ (by omega) I z (by simp)⟩
 ·exact xd J 2 (by omega) a1 c1 h1 N3 _ λk a2 es2 c2 i2 h2 N4 ab I _ _ _ _ _ N5 ac=>zGS N5 k _ λN6 ae _ _=>⟨vV,⟨rfl,rfl⟩,λN7 ah=>hQ _ _ _ _ _ _ _ _ _ _ _ _ _ _ _ _ (by omega) I z (by simp)⟩
 ·refine rB (l:=[bytes [120],bytes [121],bytes [102]]) J (by decide) (by decide) a1 c1 h1 3 3 N3 _ λs a2 es2 c2 i2 h2 N4 ab I hs _ _ _ N5 ac=>zAw N5 s _ λN6 ae _ _=>⟨vV,⟨rfl,rfl⟩,λN7 ah=>hQ _ _ _ _ _ _ _ _ _ _ _ _ _ _ _ _ (by omega) I (z.name ?_) (by simp)⟩
  simp only [oH,om,mB] at hs
  rcases hs with rfl | rfl | rfl<;>decide
theorem zTy:zNg 1 15:=λn hn es i I a c h N Q O=>pN N n a es c i h Q λE _=>Br.dec (λ_ N1 aa=>zSm I a c h N1 _ λk s s1 n' x x1 x2 x3 r q a' ab c' i' h' N2 ac J hp hr _ _ _=>⟨vV,⟨rfl,rfl⟩,λN3 ae=>O _ _ _ _ _ _ _ _ _ _ _ _ _ _ _ _ (by omega) J hp hr⟩) λg=>absurd (by omega) g
theorem zVY {b:Int} {X:Nat} (hb:b<=1000) (hX:15<=X) (ih:zNg b X) {E:Env} {N:Nat} {Q:QT [.pk,.i,.str,.str,.i,.dc,.dc,.dc,.dc,.row 36 9,.sl 0,.i,.i]} {n:Int} (hn:n - 1<=b) (ah:2<=n) (kd n3:Int) (s J:ByteArray) (O x5 x6 x7:D) {m6:Int} (hm:m6<=3)
  (hQ:∀ r q a es c i h N',N<=N'->Cu es i->PkT (15+3*X) s J O x5 x6 x7 r->r.length<=3->Q kd s J n3 O x5 x6 x7 r q a es c i h N') :
  ∀ (rem k:Nat) (r:List D) (q:Nat) a es c i h N',m6<=k+rem->k<=3->r.length=k->N<=N'->Cu es i->PkT (15+k*X) s J O x5 x6 x7 r->vq E Q N n m6 k a es c i h 0 (bytes []) (bytes []) 0 0 none [] 0 0 none [] 0 none [] 0 kd s J n3 O x5 x6 x7 r.length q r q N':=by
 intro rem
 induction rem with
 | zero=>
   intro k r q a es c i h N' h1 h2 h3 h4 I hp
   have hk:k*X<=3*X:=o0 _ h2
   refine pC _ _ _ _ _ _ _ _ _ _ _ _ _ _ _ _ _ _ _ _ _ _ _ _ _ _ _ _ _ _ _ _ _ _ _ _ _ _ _ (Br.dec (λg=>by omega) λ_=>⟨vV,⟨rfl,rfl⟩,λN4 aa=>hQ _ _ _ _ _ _ _ _ (by omega) I (hp.mono (by omega)) (by omega)⟩)
 | succ rem ab=>
   intro k r q a es c i h N' h1 h2 h3 h4 I hp
   have hk:k*X<=3*X:=o0 _ h2
   refine pC _ _ _ _ _ _ _ _ _ _ _ _ _ _ _ _ _ _ _ _ _ _ _ _ _ _ _ _ _ _ _ _ _ _ _ _ _ _ _ (Br.dec (λg N1 ai=>?_) λ_=>⟨vV,⟨rfl,rfl⟩,λN4 aa=>hQ _ _ _ _ _ _ _ _ (by omega) I (hp.mono (by omega)) (by omega)⟩)
   rw [i64_in (n - 1) (by omega)]
   refine ih (n - 1) hn I a c h N1 _ λk' t t1 n' y y1 y2 y3 aj c' a' es2 c2 i2 h2 N2 ak ac ae _ _ _ _=>⟨⟨rfl,rfl⟩,λa1 N3 al _=>⟨⟨rfl,rfl⟩,by unfold zB;rw [oE];simp only [oJ,oM];omega,λc3=>?_⟩⟩
   rw [i64_in ((k:Int)+1) (by omega)]
   exact ab (k+1) _ c3 _ _ _ _ _ _ (by omega) (by omega) (by simp [h3]) (by omega) ac ((hp.snoc (ae.some _ _ _ _) (by omega)).mono (by rw [Nat.succ_mul];omega))
theorem zVD {b:Int} {X:Nat} (hb:b<=1000) (hX:15<=X) (ih:zNg b X) {E:Env} {N:Nat} {Q:QT [.pk,.i,.str,.str,.i,.dc,.dc,.dc,.dc,.row 36 9,.sl 0,.i,.i]} {n:Int} (hn:n - 1<=b) (J:2<=n) (O n3:Int) {s I:ByteArray} (hs:s.size<=1000) (aa:I.size<=1000) (x4 x5 x6 x7:D) (hT:SmT 7 (.ag [x4,x5])) (hR:SmT 7 (.ag [x6,x7]))
  (hQ:∀ k s I n' x x1 x2 x3 r q a es c i h N',N<=N'->Cu es i->PkT (15+3*X) s I x x1 x2 x3 r->r.length<=3->Q k s I n' x x1 x2 x3 r q a es c i h N') {es:List D} {i:Int} (ab:Cu es i) (a:Option Addr) (c:Nat) (h:Int) {N':Nat} (ac:N<=N') :
  tW E Q N n a es c i h 0 (bytes []) (bytes []) 0 0 none [] 0 0 none [] 0 none [] 0 O s I n3 x4 x5 x6 x7 0 0 [] 0 N':=by
 refine zFo _ _ _ _ _ _ _ _ _ _ _ _ _ _ _ _ _ _ _ _ _ _ _ _ _ _ _ _ _ _ _ _ _ _ _ _ _ ⟨⟨rfl,rfl⟩,λa7 _ N1 ae _=>wo N1 _ λN2 ah _=>zVY hb hX ih hn J O n3 s I x4 x5 x6 x7 (pv _ _) (λr q a es c i h N'=>hQ _ _ _ _ _ _ _ _ r q a es c i h N') 3 0 [] 0 a es c i h N2 (by have:=pv O s;omega) (by omega) rfl (by omega) ab ((zHy hs aa hT hR).mono (by omega))⟩
theorem zRk {b:Int} {X:Nat} (hb:b<=1000) (hX:15<=X) (ih:zNg b X) {E:Env} {N:Nat} {Q:QT [.pk,.i,.str,.str,.i,.dc,.dc,.dc,.dc,.row 36 9,.sl 0,.i,.i]} {n:Int} (hn:n - 1<=b) (ah:2<=n) (kd n3:Int) (s J:ByteArray) (O x5:D) {m6:Int} (hm:m6<=3)
  (hQ:∀ r q a es c i h N',N<=N'->Cu es i->PkT (15+3*X) s J O x5 (D.j 0) (D.sl none 2 [] 0) r->r.length<=3->Q kd s J n3 O x5 (D.j 0) (D.sl none 2 [] 0) r q a es c i h N') :
  ∀ (rem k:Nat) (r:List D) (q:Nat) a es c i h N',m6<=k+rem->k<=3->r.length=k->N<=N'->Cu es i->PkT (15+k*X) s J O x5 (D.j 0) (D.sl none 2 [] 0) r->wK E Q N n m6 k a es c i h 0 (bytes []) (bytes []) 0 0 none [] 0 0 none [] 0 none [] 0 kd s J n3 O x5 0 none [] 0 r.length q r q N':=by
 intro rem
 induction rem with
 | zero=>
   intro k r q a es c i h N' h1 h2 h3 h4 I hp
   have hk:k*X<=3*X:=o0 _ h2
   refine sP _ _ _ _ _ _ _ _ _ _ _ _ _ _ _ _ _ _ _ _ _ _ _ _ _ _ _ _ _ _ _ _ _ _ _ _ _ _ _ _ _ (Br.dec (λg=>by omega) λ_=>⟨vV,⟨rfl,rfl⟩,λN4 aa=>hQ _ _ _ _ _ _ _ _ (by omega) I (hp.mono (by omega)) (by omega)⟩)
 | succ rem ab=>
   intro k r q a es c i h N' h1 h2 h3 h4 I hp
   have hk:k*X<=3*X:=o0 _ h2
   refine sP _ _ _ _ _ _ _ _ _ _ _ _ _ _ _ _ _ _ _ _ _ _ _ _ _ _ _ _ _ _ _ _ _ _ _ _ _ _ _ _ _ (Br.dec (λg N1 ai=>?_) λ_=>⟨vV,⟨rfl,rfl⟩,λN4 aa=>hQ _ _ _ _ _ _ _ _ (by omega) I (hp.mono (by omega)) (by omega)⟩)
   rw [i64_in (n - 1) (by omega)]
   refine ih (n - 1) hn I a c h N1 _ λk' t t1 n' y y1 y2 y3 aj c' a' es2 c2 i2 h2 N2 ak ac ae _ _ _ _=>⟨⟨rfl,rfl⟩,λa1 N3 al _=>⟨⟨rfl,rfl⟩,by unfold zB;rw [oE];simp only [oJ,oM];omega,λc3=>?_⟩⟩
   rw [i64_in ((k:Int)+1) (by omega)]
   exact ab (k+1) _ c3 _ _ _ _ _ _ (by omega) (by omega) (by simp [h3]) (by omega) ac ((hp.snoc (ae.some _ _ _ _) (by omega)).mono (by rw [Nat.succ_mul];omega))
theorem zRd {b:Int} {X:Nat} (hb:b<=1000) (hX:15<=X) (ih:zNg b X) {E:Env} {N:Nat} {Q:QT [.pk,.i,.str,.str,.i,.dc,.dc,.dc,.dc,.row 36 9,.sl 0,.i,.i]} {n:Int} (hn:n - 1<=b) (J:2<=n) (O n3:Int) {s I:ByteArray} (hs:s.size<=1000) (aa:I.size<=1000) (x4 x5:D) (hT:SmT 7 (.ag [x4,x5])) (hR:SmT 7 (.ag [(D.j 0),(D.sl none 2 [] 0)]))
  (hQ:∀ k s I n' x x1 x2 x3 r q a es c i h N',N<=N'->Cu es i->PkT (15+3*X) s I x x1 x2 x3 r->r.length<=3->Q k s I n' x x1 x2 x3 r q a es c i h N') {es:List D} {i:Int} (ab:Cu es i) (a:Option Addr) (c:Nat) (h:Int) {N':Nat} (ac:N<=N') :
  vl E Q N n a es c i h 0 (bytes []) (bytes []) 0 0 none [] 0 0 none [] 0 none [] 0 O s I n3 x4 x5 0 none [] 0 0 0 [] 0 N':=by
 refine zCg _ _ _ _ _ _ _ _ _ _ _ _ _ _ _ _ _ _ _ _ _ _ _ _ _ _ _ _ _ _ _ _ _ _ _ _ _ _ _ ⟨⟨rfl,rfl⟩,λa7 _ N1 ae _=>wo N1 _ λN2 ah _=>zRk hb hX ih hn J O n3 s I x4 x5 (pv _ _) (λr q a es c i h N'=>hQ _ _ _ _ _ _ _ _ r q a es c i h N') 3 0 [] 0 a es c i h N2 (by have:=pv O s;omega) (by omega) rfl (by omega) ab ((zHy hs aa hT hR).mono (by omega))⟩
theorem zSH {b:Int} {X:Nat} (hb:b<=1000) (hX:15<=X) (ih:zNg b X) {E:Env} {N:Nat} {Q:QT [.pk,.i,.str,.str,.i,.dc,.dc,.dc,.dc,.row 36 9,.sl 0,.i,.i]} {n:Int} (hn:n - 1<=b) (ah:2<=n) (kd n3:Int) (s J:ByteArray) (O x7:D) {m6:Int} (hm:m6<=3)
  (hQ:∀ r q a es c i h N',N<=N'->Cu es i->PkT (15+3*X) s J (D.j 0) (D.sl none 2 [] 0) O x7 r->r.length<=3->Q kd s J n3 (D.j 0) (D.sl none 2 [] 0) O x7 r q a es c i h N') :
  ∀ (rem k:Nat) (r:List D) (q:Nat) a es c i h N',m6<=k+rem->k<=3->r.length=k->N<=N'->Cu es i->PkT (15+k*X) s J (D.j 0) (D.sl none 2 [] 0) O x7 r->x9 E Q N n m6 k a es c i h 0 (bytes []) (bytes []) 0 0 none [] 0 0 none [] 0 none [] 0 kd s J n3 0 none [] 0 O x7 r.length q r q N':=by
 intro rem
 induction rem with
 | zero=>
   intro k r q a es c i h N' h1 h2 h3 h4 I hp
   have hk:k*X<=3*X:=o0 _ h2
   refine sV _ _ _ _ _ _ _ _ _ _ _ _ _ _ _ _ _ _ _ _ _ _ _ _ _ _ _ _ _ _ _ _ _ _ _ _ _ _ _ _ _ (Br.dec (λg=>by omega) λ_=>⟨vV,⟨rfl,rfl⟩,λN4 aa=>hQ _ _ _ _ _ _ _ _ (by omega) I (hp.mono (by omega)) (by omega)⟩)
 | succ rem ab=>
   intro k r q a es c i h N' h1 h2 h3 h4 I hp
   have hk:k*X<=3*X:=o0 _ h2
   refine sV _ _ _ _ _ _ _ _ _ _ _ _ _ _ _ _ _ _ _ _ _ _ _ _ _ _ _ _ _ _ _ _ _ _ _ _ _ _ _ _ _ (Br.dec (λg N1 ai=>?_) λ_=>⟨vV,⟨rfl,rfl⟩,λN4 aa=>hQ _ _ _ _ _ _ _ _ (by omega) I (hp.mono (by omega)) (by omega)⟩)
   rw [i64_in (n - 1) (by omega)]
   refine ih (n - 1) hn I a c h N1 _ λk' t t1 n' y y1 y2 y3 aj c' a' es2 c2 i2 h2 N2 ak ac ae _ _ _ _=>⟨⟨rfl,rfl⟩,λa1 N3 al _=>⟨⟨rfl,rfl⟩,by unfold zB;rw [oE];simp only [oJ,oM];omega,λc3=>?_⟩⟩
   rw [i64_in ((k:Int)+1) (by omega)]
   exact ab (k+1) _ c3 _ _ _ _ _ _ (by omega) (by omega) (by simp [h3]) (by omega) ac ((hp.snoc (ae.some _ _ _ _) (by omega)).mono (by rw [Nat.succ_mul];omega))
theorem zR9 {b:Int} {X:Nat} (hb:b<=1000) (hX:15<=X) (ih:zNg b X) {E:Env} {N:Nat} {Q:QT [.pk,.i,.str,.str,.i,.dc,.dc,.dc,.dc,.row 36 9,.sl 0,.i,.i]} {n:Int} (hn:n - 1<=b) (J:2<=n) (O n3:Int) {s I:ByteArray} (hs:s.size<=1000) (aa:I.size<=1000) (x6 x7:D) (hT:SmT 7 (.ag [(D.j 0),(D.sl none 2 [] 0)])) (hR:SmT 7 (.ag [x6,x7]))
  (hQ:∀ k s I n' x x1 x2 x3 r q a es c i h N',N<=N'->Cu es i->PkT (15+3*X) s I x x1 x2 x3 r->r.length<=3->Q k s I n' x x1 x2 x3 r q a es c i h N') {es:List D} {i:Int} (ab:Cu es i) (a:Option Addr) (c:Nat) (h:Int) {N':Nat} (ac:N<=N') :
  vg E Q N n a es c i h 0 (bytes []) (bytes []) 0 0 none [] 0 0 none [] 0 none [] 0 O s I n3 0 none [] 0 x6 x7 0 0 [] 0 N':=by
 refine zCM _ _ _ _ _ _ _ _ _ _ _ _ _ _ _ _ _ _ _ _ _ _ _ _ _ _ _ _ _ _ _ _ _ _ _ _ _ _ _ ⟨⟨rfl,rfl⟩,λa7 _ N1 ae _=>wo N1 _ λN2 ah _=>zSH hb hX ih hn J O n3 s I x6 x7 (pv _ _) (λr q a es c i h N'=>hQ _ _ _ _ _ _ _ _ r q a es c i h N') 3 0 [] 0 a es c i h N2 (by have:=pv O s;omega) (by omega) rfl (by omega) ab ((zHy hs aa hT hR).mono (by omega))⟩
theorem zRD {b:Int} {X:Nat} (hb:b<=1000) (hX:15<=X) (ih:zNg b X) {E:Env} {N:Nat} {Q:QT [.pk,.i,.str,.str,.i,.dc,.dc,.dc,.dc,.row 36 9,.sl 0,.i,.i]} {n:Int} (hn:n - 1<=b) (ah:2<=n) (kd n3:Int) (s J:ByteArray) {m6:Int} (hm:m6<=3)
  (hQ:∀ r q a es c i h N',N<=N'->Cu es i->PkT (15+3*X) s J (D.j 0) (D.sl none 2 [] 0) (D.j 0) (D.sl none 2 [] 0) r->r.length<=3->Q kd s J n3 (D.j 0) (D.sl none 2 [] 0) (D.j 0) (D.sl none 2 [] 0) r q a es c i h N') :
  ∀ (rem k:Nat) (r:List D) (q:Nat) a es c i h N',m6<=k+rem->k<=3->r.length=k->N<=N'->Cu es i->PkT (15+k*X) s J (D.j 0) (D.sl none 2 [] 0) (D.j 0) (D.sl none 2 [] 0) r->wC E Q N n m6 k a es c i h 0 (bytes []) (bytes []) 0 0 none [] 0 0 none [] 0 none [] 0 kd s J n3 0 none [] 0 0 none [] 0 r.length q r q N':=by
 intro rem
 induction rem with
 | zero=>
   intro k r q a es c i h N' h1 O h3 h4 I hp
   have hk:k*X<=3*X:=o0 _ O
   refine sT _ _ _ _ _ _ _ _ _ _ _ _ _ _ _ _ _ _ _ _ _ _ _ _ _ _ _ _ _ _ _ _ _ _ _ _ _ _ _ _ _ _ _ (Br.dec (λg=>by omega) λ_=>⟨vV,⟨rfl,rfl⟩,λN4 aa=>hQ _ _ _ _ _ _ _ _ (by omega) I (hp.mono (by omega)) (by omega)⟩)
 | succ rem ab=>
   intro k r q a es c i h N' h1 O h3 h4 I hp
   have hk:k*X<=3*X:=o0 _ O
   refine sT _ _ _ _ _ _ _ _ _ _ _ _ _ _ _ _ _ _ _ _ _ _ _ _ _ _ _ _ _ _ _ _ _ _ _ _ _ _ _ _ _ _ _ (Br.dec (λg N1 ai=>?_) λ_=>⟨vV,⟨rfl,rfl⟩,λN4 aa=>hQ _ _ _ _ _ _ _ _ (by omega) I (hp.mono (by omega)) (by omega)⟩)
   rw [i64_in (n - 1) (by omega)]
   refine ih (n - 1) hn I a c h N1 _ λk' t t1 n' y y1 y2 y3 aj c' a' es2 c2 i2 O N2 ak ac ae _ _ _ _=>⟨⟨rfl,rfl⟩,λa1 N3 al _=>⟨⟨rfl,rfl⟩,by unfold zB;rw [oE];simp only [oJ,oM];omega,λc3=>?_⟩⟩
   rw [i64_in ((k:Int)+1) (by omega)]
   exact ab (k+1) _ c3 _ _ _ _ _ _ (by omega) (by omega) (by simp [h3]) (by omega) ac ((hp.snoc (ae.some _ _ _ _) (by omega)).mono (by rw [Nat.succ_mul];omega))
theorem zRs {b:Int} {X:Nat} (hb:b<=1000) (hX:15<=X) (ih:zNg b X) {E:Env} {N:Nat} {Q:QT [.pk,.i,.str,.str,.i,.dc,.dc,.dc,.dc,.row 36 9,.sl 0,.i,.i]} {n:Int} (hn:n - 1<=b) (J:2<=n) (O n3:Int) {s I:ByteArray} (hs:s.size<=1000) (aa:I.size<=1000) (hT:SmT 7 (.ag [(D.j 0),(D.sl none 2 [] 0)])) (hR:SmT 7 (.ag [(D.j 0),(D.sl none 2 [] 0)]))
  (hQ:∀ k s I n' x x1 x2 x3 r q a es c i h N',N<=N'->Cu es i->PkT (15+3*X) s I x x1 x2 x3 r->r.length<=3->Q k s I n' x x1 x2 x3 r q a es c i h N') {es:List D} {i:Int} (ab:Cu es i) (a:Option Addr) (c:Nat) (h:Int) {N':Nat} (ac:N<=N') :
  vw E Q N n a es c i h 0 (bytes []) (bytes []) 0 0 none [] 0 0 none [] 0 none [] 0 O s I n3 0 none [] 0 0 none [] 0 0 0 [] 0 N':=by
 refine zCo _ _ _ _ _ _ _ _ _ _ _ _ _ _ _ _ _ _ _ _ _ _ _ _ _ _ _ _ _ _ _ _ _ _ _ _ _ _ _ _ _ ⟨⟨rfl,rfl⟩,λa7 _ N1 ae _=>wo N1 _ λN2 ah _=>zRD hb hX ih hn J O n3 s I  (pv _ _) (λr q a es c i h N'=>hQ _ _ _ _ _ _ _ _ r q a es c i h N') 3 0 [] 0 a es c i h N2 (by have:=pv O s;omega) (by omega) rfl (by omega) ab ((zHy hs aa hT hR).mono (by omega))⟩
theorem zUW {b:Int} {X:Nat} (hb:b<=1000) (hX:15<=X) (ih:zNg b X) {E:Env} {N:Nat} {Q:QT [.pk,.i,.str,.str,.i,.dc,.dc,.dc,.dc,.row 36 9,.sl 0,.i,.i]} {n:Int} (hn:n - 1<=b) (I:2<=n) (kd n3:Int) {s:ByteArray} (hs:s.size<=1000) (O x5:D) (hT:SmT 7 (.ag [O,x5]))
  (hQ:∀ k s s1 n' x x1 x2 x3 r q a es c i h N',N<=N'->Cu es i->PkT (15+3*X) s s1 x x1 x2 x3 r->r.length<=3->Q k s s1 n' x x1 x2 x3 r q a es c i h N') {es:List D} {i:Int} (J:Cu es i) (a:Option Addr) (c:Nat) (h:Int) {N':Nat} (aa:N<=N') :
  vn E Q N n a es c i h 0 (bytes []) (bytes []) 0 0 none [] 0 0 none [] 0 none [] 0 kd s (bytes []) n3 O x5 0 none [] 0 0 0 [] 0 N':=by
 refine zFy _ _ _ _ _ _ _ _ _ _ _ _ _ _ _ _ _ _ _ _ _ _ _ _ _ _ _ _ _ _ _ _ _ _ _ _ _ _ _ (Br.beq (λ_ N1 ae=>?_) λ_=>zRd hb hX ih hn I kd n3 hs (by decide) O x5 hT zMW hQ J a c h aa)
 refine rB (l:=[bytes [122],bytes [119]]) J (by decide) (by decide) a c h 2 2 N1 _ λt a1 ah c1 i1 h1 N2 ai ab ht _ _ _ N3 aj=>?_
 have ht:t.size<=1000:=by
  simp only [oH,om,mB] at ht
  rcases ht with rfl | rfl<;>decide
 exact zID 2 (by omega) ab a1 c1 h1 N3 _ λd a2 es2 c2 i2 h2 N4 ak ac hd _ _ _ _=>zVD hb hX ih hn I kd n3 hs ht O x5 _ _ hT (hd.cells.mono (by omega)) hQ ac a2 c2 h2 (by omega)
theorem zRz {b:Int} {X:Nat} (hb:b<=1000) (hX:15<=X) (ih:zNg b X) {E:Env} {N:Nat} {Q:QT [.pk,.i,.str,.str,.i,.dc,.dc,.dc,.dc,.row 36 9,.sl 0,.i,.i]} {n:Int} (hn:n - 1<=b) (I:2<=n) (kd n3:Int) {s:ByteArray} (hs:s.size<=1000) (hT:SmT 7 (.ag [(D.j 0),(D.sl none 2 [] 0)]))
  (hQ:∀ k s s1 n' x x1 x2 x3 r q a es c i h N',N<=N'->Cu es i->PkT (15+3*X) s s1 x x1 x2 x3 r->r.length<=3->Q k s s1 n' x x1 x2 x3 r q a es c i h N') {es:List D} {i:Int} (J:Cu es i) (a:Option Addr) (c:Nat) (h:Int) {N':Nat} (aa:N<=N') :
  uB E Q N n a es c i h 0 (bytes []) (bytes []) 0 0 none [] 0 0 none [] 0 none [] 0 kd s (bytes []) n3 0 none [] 0 0 none [] 0 0 0 [] 0 N':=by
 refine zCd _ _ _ _ _ _ _ _ _ _ _ _ _ _ _ _ _ _ _ _ _ _ _ _ _ _ _ _ _ _ _ _ _ _ _ _ _ _ _ _ _ (Br.beq (λ_ N1 ae=>?_) λ_=>zRs hb hX ih hn I kd n3 hs (by decide) hT zMW hQ J a c h aa)
 refine rB (l:=[bytes [122],bytes [119]]) J (by decide) (by decide) a c h 2 2 N1 _ λt a1 ah c1 i1 h1 N2 ai ab O _ _ _ N3 aj=>?_
 have O:t.size<=1000:=by
  simp only [oH,om,mB] at O
  rcases O with rfl | rfl<;>decide
 exact zID 2 (by omega) ab a1 c1 h1 N3 _ λd a2 es2 c2 i2 h2 N4 ak ac hd _ _ _ _=>zR9 hb hX ih hn I kd n3 hs O _ _ hT (hd.cells.mono (by omega)) hQ ac a2 c2 h2 (by omega)
theorem zJH {b:Int} {X:Nat} (hb:b<=1000) (hX:15<=X) (ih:zNg b X):zNg (b+1) (15+3*X):=λn hn es i J a c h N Q hQ=>by
 have lf:∀ (E:Env) {es:List D} {i:Int} (_:Cu es i) a c h N1,N<=N1->BCalls prog 146 [.pk,.i,.str,.str,.i,.dc,.dc,.dc,.dc,.row 36 9,.sl 0,.i,.i] [.pb 0 0 0 0] [.var [.sv a 0 es c,.j i,.j h]] N1 (λn s aq ae x au aw ax es c a ab ac ah ay N2=>N1<=N2->Bel N2 (D.sl a 0 ab ac)->Bel N2 (D.ag es)->vW E [.var [.sv none 0 [] 0,.j 0,.j 0]]/\(es.length=es.length/\c=c)/\∀ N3,N2<=N3->Q n s aq ae x au aw ax es c a ab ac ah ay N3):=λE es i J a c h N1 ai=>
  zSm J a c h N1 _ λk s s1 n' x x1 x2 x3 r q a' bb c' i' h' N2 az a6 hp hr _ _ _=>⟨vV,⟨rfl,rfl⟩,λN3 am=>hQ _ _ _ _ _ _ _ _ _ _ _ _ _ _ _ _ (by omega) a6 (hp.mono (by omega)) hr⟩
 refine pN N n a es c i h Q λE _=>Br.dec (λ_ N1 ai=>lf E J a c h N1 ai) λbc N1 ai=>zBA J 5 (by omega) a c h N1 _ λb1 a1 bd c1 i1 h1 N2 az ao _ _=>Br.of (λ_ N3 am=>lf E ao a1 c1 h1 N3 (by omega)) λ_ N3 am=>?_
 refine po (l:=[4,5,6,7,8,9,10,11,12,13,10,4]) ao (by decide) (by decide) a1 c1 h1 12 12 N3 _ λkd a2 es2 c2 i2 h2 N4 bg aa _ _ _ _=>?_
 have aj:∀ {s:ByteArray} (_:s.size<=1000) {es:List D} {i:Int} (_:Cu es i) a c h N',N<=N'->yS E Q N n a es c i h 0 (bytes []) (bytes []) 0 0 none [] 0 0 none [] 0 none [] 0 kd s (bytes []) 0 0 none [] 0 0 none [] 0 0 0 [] 0 N':=λhs es i J a c h N' a7=>by
  refine zE8 _ _ _ _ _ _ _ _ _ _ _ _ _ _ _ _ _ _ _ _ _ _ _ _ _ _ _ _ _ _ _ _ _ _ _ _ _ _ _ _ _ (Br.beq (λ_ O I=>zID 2 (by omega) J a c h O _ λd a2 es2 c2 i2 h2 N6 ak aa hd _ _ _ _=>zUW hb hX ih (by omega) (by omega) kd 0 hs _ _ (hd.cells.mono (by omega)) hQ aa a2 c2 h2 (by omega)) λ_=>Br.beq (λ_ O I=>zID 2 (by omega) J a c h O _ λd a2 es2 c2 i2 h2 N6 ak aa hd _ _ _ _=>zUW hb hX ih (by omega) (by omega) kd 0 hs _ _ (hd.cells.mono (by omega)) hQ aa a2 c2 h2 (by omega)) λ_=>zRz hb hX ih (by omega) (by omega) kd 0 hs zMW hQ J a c h a7)
 have L3:∀ O,N4<=O->BCalls prog 110 [.str,.sl 0,.i,.i,.sl 0] [.pb 0 0 0 0,.sb 1 0 0 3 3] [.var [.sv a2 0 es2 c2,.j i2,.j h2],.arr 9 0 (zA [bytes [120],bytes [121],bytes [102]]) 3] O (λs a es c ae ah a8 ab ac N6=>O<=N6->Bel N6 (D.sl a 0 es c)->Bel N6 (D.sl a8 0 ab ac)->yS E Q N n a es c ae ah 0 (bytes []) (bytes []) 0 0 none [] 0 0 none [] 0 none [] 0 kd s (bytes []) 0 0 none [] 0 0 none [] 0 0 0 [] 0 N6):=λO I=>
  rB (l:=[bytes [120],bytes [121],bytes [102]]) aa (by decide) (by decide) a2 c2 h2 3 3 O _ λt a3 ba c3 i3 h3 N6 ak al ht _ _ _=>aj (by
   simp only [oH,om,mB] at ht
   rcases ht with rfl | rfl | rfl<;>decide) al a3 c3 h3 N6 (by omega)
 refine Br.beq (λ_ O I=>?_) λ_=>Br.beq (λ_ O I=>L3 O I) λ_=>Br.beq (λ_ O I=>L3 O I) λ_=>Br.beq (λ_ O I=>L3 O I) λ_=>aj (by decide) aa a2 c2 h2 N4 (by omega)
 refine rB (l:=[bytes [43],bytes [45],bytes [42],bytes [61],bytes [60],bytes [38],bytes [124],bytes [33]]) aa (by decide) (by decide) a2 c2 h2 8 8 O _ λt a3 ba c3 i3 h3 N6 ak al ht _ _ _=>aj ?_ al a3 c3 h3 N6 (by omega)
 simp only [oH,om,mB] at ht
 rcases ht with rfl | rfl | rfl | rfl | rfl | rfl | rfl | rfl<;>decide
theorem zSU:zNg 4 600:=by
 have h:=zJH (b:=3) (by omega) (by omega) (zJH (b:=2) (by omega) (by omega) (zJH (b:=1) (by omega) (by omega) zTy))
 exact λn hn es i I a c J N Q O=>h n (by omega) I a c J N Q λk s s1 n' x x1 x2 x3 r q a' aa c' i' J N' h1 h2 h3 h4=>O _ _ _ _ _ _ _ _ _ _ _ _ _ _ _ _ h1 h2 (h3.mono (by omega)) h4
theorem zQB {es:List D} {i:Int} (ai:Cu es i) (a:Option Addr) (c:Nat) (h:Int) (N:Nat) (Q:QT [.ag 9,.sl 0,.i,.i])
  (hQ:∀ d' a' ah c' i' h' N',N<=N'->Cu ah i'->Some 1000 d'->Q d' a' ah c' i' h' N'):BCalls prog 66 [.ag 9,.sl 0,.i,.i] [.pb 0 0 0 0] [.var [.sv a 0 es c,.j i,.j h]] N Q:=by
 have z:PkT 15 (bytes [120]) (bytes []) (D.j 0) (D.sl none 2 [] 0) (D.j 0) (D.sl none 2 [] 0) []:=zHy (by decide) (by decide) zMW zMW
 refine zEE N a es c i h Q λE _ N1 am=>xd ai 4 (by omega) a c h N1 _ λx a1 ao c1 i1 h1 N2 aq aj x0 x1 _ _ _ N3 au=>?_
 have x1:=x1 (by omega)
 rw [i64_in (1+x) (by omega)]
 refine zSU (1+x) (by omega) aj a1 c1 h1 N3 _ λk s s1 n y y1 y2 y3 r q a2 es2 c2 i2 h2 N4 aw ak hp hr _ _ _ N5 ax=>?_
 refine xd ak 14 (by omega) a2 c2 h2 N5 _ λz1 a3 ay c3 i3 h3 N6 az O _ _ _ _ _=>Br.beq (λ_ N7 ab=>?_) λ_=>Br.beq (λ_ N7 ab=>?_) λ_=>Br.beq (λ_ N7 ab=>?_) λ_=>Br.beq (λ_ N7 ab=>?_) λ_=>Br.beq (λ_ N7 ab=>?_) λ_=>Br.beq (λ_ N7 ab=>?_) λ_=>?_
 ·exact xd O 15 (by omega) a3 c3 h3 N7 _ λw a4 ae c4 i4 h4 N8 ac J _ _ _ _ _=>⟨⟨rfl,rfl⟩,⟨rfl,rfl⟩,⟨rfl,rfl⟩,⟨rfl,rfl⟩,λa5 N9 aa _=>⟨vV,λN10 I=>hQ _ _ _ _ _ _ _ (by omega) J ((hp.some _ _ _ _).mono (by omega))⟩⟩
 ·exact po (l:=[0,1,10006,10007, -1]) O (by decide) (by decide) a3 c3 h3 5 5 N7 _ λw a4 ae c4 i4 h4 N8 ac J _ _ _ _=>⟨⟨rfl,rfl⟩,⟨rfl,rfl⟩,⟨rfl,rfl⟩,⟨rfl,rfl⟩,λa5 N9 aa _=>⟨vV,λN10 I=>hQ _ _ _ _ _ _ _ (by omega) J ((hp.some _ _ _ _).mono (by omega))⟩⟩
 ·refine rB (l:=[bytes [],bytes [120],bytes [108,101,116],bytes [97,98,99,100,101],bytes [43]]) O (by decide) (by decide) a3 c3 h3 5 5 N7 _ λw a4 ae c4 i4 h4 N8 ac J hw _ _ _=>⟨⟨rfl,rfl⟩,⟨rfl,rfl⟩,⟨rfl,rfl⟩,⟨rfl,rfl⟩,λa5 N9 aa _=>⟨vV,λN10 I=>hQ _ _ _ _ _ _ _ (by omega) J (((hp.name ?_).some _ _ _ _).mono (by omega))⟩⟩
  simp only [oH,om,mB] at hw
  rcases hw with rfl | rfl | rfl | rfl | rfl<;>decide
 ·exact zAw N7 _ _ λN8 ac _ _=>⟨⟨rfl,rfl⟩,λa5 N9 aa _=>⟨⟨rfl,rfl⟩,by unfold zB;rw [oE];simp only [oJ,oM];omega,λc9=>⟨⟨rfl,rfl⟩,⟨rfl,rfl⟩,⟨rfl,rfl⟩,⟨rfl,rfl⟩,λa6 N10 I _=>⟨vV,λa7 al=>hQ _ _ _ _ _ _ _ (by omega) O (((hp.snoc (z.some _ _ _ _) (by omega)).some _ _ _ _).mono (by omega))⟩⟩⟩⟩
 ·exact zTG O a3 c3 h3 N7 _ λw a4 ae c4 i4 h4 N8 ac J hw _ _ _=>⟨⟨rfl,rfl⟩,⟨rfl,rfl⟩,⟨rfl,rfl⟩,⟨rfl,rfl⟩,λa5 N9 aa _=>⟨vV,λN10 I=>hQ _ _ _ _ _ _ _ (by omega) J (((hp.type hw.cells).some _ _ _ _).mono (by omega))⟩⟩
 ·refine rB (l:=[bytes [120],bytes [122]]) O (by decide) (by decide) a3 c3 h3 2 2 N7 _ λw a4 ae c4 i4 h4 N8 ac J hw _ _ _=>⟨⟨rfl,rfl⟩,⟨rfl,rfl⟩,⟨rfl,rfl⟩,⟨rfl,rfl⟩,λa5 N9 aa _=>⟨vV,λN10 I=>hQ _ _ _ _ _ _ _ (by omega) J (((hp.other ?_).some _ _ _ _).mono (by omega))⟩⟩
  simp only [oH,om,mB] at hw
  rcases hw with rfl | rfl<;>decide
 ·exact ⟨⟨rfl,rfl⟩,⟨rfl,rfl⟩,⟨rfl,rfl⟩,⟨rfl,rfl⟩,λa5 N9 aa _=>⟨vV,λN10 I=>hQ _ _ _ _ _ _ _ (by omega) O ((hp.some _ _ _ _).mono (by omega))⟩⟩
end Go.Proofs.YtlahkdflngobiaaGreatDoor
set_option maxRecDepth 100000
namespace Go.Proofs.YtlahkdflngobiaaGreatDoor
open Go Go.Proofs Go.Proofs.Tryz Go.IntWalk
theorem zSM {es:List D} {i:Int} (ab:Cu es i) (a:Option Addr) (c:Nat) (h:Int) (N:Nat) (Q:QT [.sl 4,.ag 9,.sl 0,.i,.i])
  (hQ:∀ g a1 e1 c1 d a' ah c' i' h' N',N<=N'->Cu ah i'->Pms g e1->g.length<=4->(∀ x∈g,x.ty.cnt<=3)->Some 4096 d->Q a1 e1 c1 d a' ah c' i' h' N'):BCalls prog 95 [.sl 4,.ag 9,.sl 0,.i,.i] [.pb 0 0 0 0] [.var [.sv a 0 es c,.j i,.j h]] N Q:=by
 refine zDL N a es c i h Q λE _ N1 au=>zUP ab a c h N1 _ λg e1 c1 d a2 es2 c2 i2 h2 N2 aw al hg g1 g4 gc hd _ _ _ _ N3 ax=>?_
 have ay:=hg.all.len
 have L9:∀ (g:List Pm) (e1:List D) {es:List D} {i:Int} (_:Cu es i) a c h N',N<=N'->Pms g e1->g.length<=4->(∀ x∈g,x.ty.cnt<=3)->xq E Q N e1.length c1 a es c i h 0 (bytes []) (bytes []) 0 0 none [] 0 0 none [] 0 none [] 0 e1 c1 d N':=λg e1 es i ab a c h N' az hg g4 gc=>by
  refine zED _ _ _ _ _ _ _ _ _ _ _ _ _ _ _ _ _ _ _ _ _ _ _ _ _ _ _ _ _ ⟨⟨rfl,rfl⟩,⟨rfl,rfl⟩,⟨rfl,rfl⟩,λa4 N5 ac _=>⟨vV,λN6 ae=>hQ g _ _ _ _ _ _ _ _ _ _ (by omega) ab hg g4 gc hd⟩⟩
 have J:∀ x∈g,x.ty.cnt<=3:=λx hx=>oZ (gc x hx) (by omega)
 have ai:=hg.len
 obtain ⟨p,g',rfl⟩:∃ p g',g=p::g':=by
  cases g with
  | nil=>simp at g1
  | cons p g'=>exact ⟨p,g',rfl⟩
 obtain ⟨dp,ds,rfl,⟨t0,t1,rfl,am,ao⟩,aa⟩:=hg.all
 have aj:∀ {s a b c:ByteArray},s∈[a,b,c]->a.size<=1000->b.size<=1000->c.size<=1000->s.size<=1000:=λ{s a b c} h ha hb hc=>by
  simp only [oH,om,mB] at h
  rcases h with rfl | rfl | rfl<;>assumption
 refine xd al 8 (by omega) a2 c2 h2 N3 _ λx a3 a6 c3 i3 h3 N4 a7 O _ _ _ _ _=>Br.beq (λ_ N5 ac=>?_) λ_=>Br.beq (λ_ N5 ac=>?_) λ_=>Br.beq (λ_ N5 ac=>?_) λ_=>L9 _ _ O _ _ _ N4 (by omega) hg g4 J
 ·refine rB (l:=[bytes [121],bytes [108,101,116],bytes [120]]) O (by decide) (by decide) a3 c3 h3 3 3 N5 _ λs a4 ak c4 i4 h4 N6 ae I hs _ _ _=>⟨⟨by omega,by simp,by simp⟩,by simp,?_⟩
  have hs:=aj hs (by decide) (by decide) (by decide)
  have:=L9 (⟨s,p.ty,p.dy⟩::g') (D.ag [.t s,t0,t1,.lit (.bool p.dy)]::ds) I a4 c4 h4 N6 (by omega) ⟨by simpa using ai,⟨_,_,rfl,⟨t0,t1,rfl,by show s.size<=_;omega,ao⟩,aa⟩⟩ (by simpa using g4) (by simpa using J)
  simpa [qh,D.cells] using this
 ·refine zID 2 (by omega) O a3 c3 h3 N5 _ λy a4 ak c4 i4 h4 N6 ae I hy _ _ _ _=>⟨⟨by omega,by simp,by simp⟩,by simp,?_⟩
  obtain ⟨t,ht,aq⟩:=hy.cells
  have:=L9 (⟨p.nm,t,p.dy⟩::g') (D.ag [.t p.nm,y.cell 0,y.cell 1,.lit (.bool p.dy)]::ds) I a4 c4 h4 N6 (by omega) ⟨by simpa using ai,⟨_,_,rfl,⟨_,_,rfl,am,ht⟩,aa⟩⟩ (by simpa using g4) (λz hz=>by
   rcases oH.1 hz with rfl | hz
   ·exact aq
   ·exact J z (by simp [hz]))
  simpa [qh,D.cells] using this
 ·exact zQB O a3 c3 h3 N5 _ λy a4 ak c4 i4 h4 N6 ae I hy _ _ _=>⟨⟨rfl,rfl⟩,⟨rfl,rfl⟩,⟨rfl,rfl⟩,⟨rfl,rfl⟩,λa5 N7 a8 _=>⟨vV,λN8 ba=>hQ _ _ _ _ _ _ _ _ _ _ _ (by omega) I hg g4 J (hy.mono (by omega))⟩⟩
theorem zMT (l:List ByteArray) (hl:l.length<=1073741824) (a b:Option Addr) (c O:Nat):uN 26 [.sv a 0 (zA l) c,.sv b 0 (zA l) O] true:=λN Q hQ=>by
 have ab:=zO l
 refine zD8 N a _ c b _ O Q λ_ _=>Br.bne (λh=>absurd rfl h) λ_=>?_
 refine up (xk l) (by omega) (λi xs=>∀ (N':Nat),N<=N'->wJ Q N a (zA l) c b (zA l) O i N') ?_ ?_ N (oB _)
 ·intro i aa _ N' J
  refine sL _ _ _ _ _ _ _ _ _ _ ?_
  rw [aa]
  exact λN2 ac=>hQ _ (by omega)
 ·intro i x xs I _ ih N' J
  have hb:=I.b
  refine sL _ _ _ _ _ _ _ _ _ _ ?_
  rw [I.lt,I.w,oK]
  exact ⟨⟨by omega,by omega⟩,x,I.r,⟨by omega,by omega⟩,x,I.r,Br.not (λh=>by simp at h) λ_=>ih N' J⟩
end Go.Proofs.YtlahkdflngobiaaGreatDoor
