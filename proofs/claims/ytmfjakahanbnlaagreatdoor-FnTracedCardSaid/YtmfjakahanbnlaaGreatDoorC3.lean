/- Drawing: types, and terms that need not have a type. -/
import Derived.Test.YtmfjakahanbnlaaGreatDoorC1
import Derived.Test.YtmfjakahanbnlaaGreatDoorKe
set_option linter.unusedVariables false
set_option linter.unusedSimpArgs false
set_option maxRecDepth 100000
namespace Go.Proofs.YtmfjakahanbnlaaGreatDoor
open Go Go.Proofs Go.Proofs.Tryz Go.IntWalk
/-- some type of at most this many nodes -/
def SmT (m:Nat) (d:D):Prop:=∃ t:Ty,t.Is d/\t.cnt<=m
theorem SmT.mono {m n:Nat} {d:D} (h:SmT m d) (J:m<=n):SmT n d:=by obtain ⟨t,I,O⟩:=h;exact ⟨t,I,by omega⟩
theorem SmT.cells {m:Nat} {d:D} (h:SmT m d):SmT m (.ag [d.cell 0,d.cell 1]):=by obtain ⟨t,I,J⟩:=h;exact ⟨t,Ty.is_cells I,J⟩
/-- its row has no room behind it -/
def Ex (d:D):Prop:=∃ k a es c,d=.ag [.lit (.int .i64 k),.sl a 2 es c]/\(c=es.length/\es.length<=1000)
theorem zLP (k:Int):SmT 1 (.ag [.lit (.int .i64 k),.sl none 2 [] 0]):=⟨_,xb k,by simp [Ty.cnt,zi]⟩
theorem zOp {m:Nat} (hm:m<=1073741824) {d:D} (hd:SmT m d) (N:Nat) (Q:QT [.ag 2]) (I:∀ d' N',N<=N'->SmT (1+m) d'->Ex d'->Q d' N'):ACalls prog 152 [.ag 2] [.dg 2 d] N Q:=by
 obtain ⟨t,J,h2⟩:=hd
 refine zAG N d Q λ_ N1 O=>zS t d J (by omega) N1 _ λx N2 U Y _ _ _=>⟨⟨rfl,rfl⟩,⟨rfl,rfl⟩,⟨rfl,rfl⟩,λa N3 aa _ N4 ab=>I _ _ (by omega) ⟨zAX t,Ty.is_mk.2 ⟨_,_,_,rfl,by simp,x,[],rfl,Y,rfl⟩,?_⟩ ⟨_,_,_,_,rfl,rfl,by simp⟩⟩
 simp only [zAX,Ty.cnt,zi]
 omega
theorem zQ9 {m:Nat} (hm:m<=1073741824) {d e:D} (hd:SmT m d) (I:SmT m e) (N:Nat) (Q:QT [.ag 2]) (J:∀ d' N',N<=N'->SmT (1+2*m) d'->Ex d'->Q d' N'):ACalls prog 153 [.ag 2] [.dg 2 d,.dg 2 e] N Q:=by
 obtain ⟨t,O,h2⟩:=hd
 obtain ⟨u,U,h4⟩:=I
 refine zCU N d e Q λ_ _ N1 Y=>zS t d O (by omega) N1 _ λx N2 aa hx _ _ _ N3 ab=>zS u e U (by omega) N3 _ λy N4 ac hy _ _ _=>⟨⟨rfl,rfl⟩,⟨rfl,rfl⟩,⟨rfl,rfl⟩,λa N5 ae _ N6 ah=>J _ _ (by omega) ⟨zPX t u,Ty.is_mk.2 ⟨_,_,_,rfl,by simp,x,[y],rfl,hx,y,[],rfl,hy,rfl⟩,?_⟩ ⟨_,_,_,_,rfl,rfl,by simp⟩⟩
 simp only [zPX,Ty.cnt,zi]
 omega
def TyC (b:Int) (X:Nat):Prop:=∀ (n:Int),n<=b->∀ {es:List D} {i:Int} (_:Cu es i) (a:Option Addr) (c:Nat) (h:Int) (N:Nat) (Q:QT [.ag 2,.sl 0,.int .i64,.int .i64])
    (_:∀ d' J I O i' U N',N<=N'->Cu I i'->SmT X d'->Ex d'->Q d' J I O i' U N'),BCalls prog 220 [.ag 2,.sl 0,.int .i64,.int .i64] [.pb 0 0 0 0,.int .i64 n] [.var [.sv a 0 es c,.int .i64 i,.int .i64 h]] N Q
theorem zTj:TyC 1 1:=λn hn es i I a c h N Q O=>by
 refine sX N n a es c i h Q λE _=>Br.dec (λ_ N1 U=>?_) λg=>absurd (by omega) g
 exact wv (l:=[1,1,2]) I (by decide) (by decide) a c h 3 3 N1 _ λk a' Y c' i' h' N2 aa J _ _ _ _=>⟨zU,λN3 ab=>O _ _ _ _ _ _ _ (by omega) J (zLP k) ⟨_,_,_,_,rfl,rfl,by simp⟩⟩
theorem zLD {b:Int} {X:Nat} (hb:b<=1000) (hX:1<=X) (a7:X<=1000000) (ih:TyC b X):TyC (b+1) (1+2*X):=λn hn es i I a c h N Q hQ=>by
 have pk:∀ (E:Env) {es:List D} {i:Int} (_:Cu es i) a c h N1,N<=N1->BCalls prog 93 [.int .i64,.sl 0,.int .i64,.int .i64,.sl 0] [.pb 0 0 0 0,.sb 1 0 0 3 3] [.var [.sv a 0 es c,.int .i64 i,.int .i64 h],.arr 3 0 (zL [1,1,2]) 3] N1
   (λn a es c ac ae ah U ai N2=>N1<=N2->Bel N2 (D.sl a 0 es c)->Bel N2 (D.sl ah 0 U ai)->zN E [.var [.sv none 0 [] 0,.int .i64 0,.int .i64 0]]/\∀ N3,N2<=N3->Q (D.ag [D.lit (.int .i64 n),D.sl Option.none 2 [] 0]) a es c ac ae N3):=λE es i I a c h N1 J=>
  wv (l:=[1,1,2]) I (by decide) (by decide) a c h 3 3 N1 _ λk a' a8 c' i' h' N2 aj ak _ _ _ _=>⟨zU,λN3 Y=>hQ _ _ _ _ _ _ _ (by omega) ak ((zLP k).mono (by omega)) ⟨_,_,_,_,rfl,rfl,by simp⟩⟩
 refine sX N n a es c i h Q λE _=>Br.dec (λ_ N1 J=>pk E I _ _ _ N1 J) λba N1 J=>sw I 2 (by omega) a c h N1 _ λb1 a1 bb c1 i1 h1 N2 aj aa _ _=>Br.of (λ_ N3 Y=>pk E aa _ _ _ N3 (by omega)) λ_ N3 Y=>?_
 refine sw aa 2 (by omega) a1 c1 h1 N3 _ λb2 a2 bc c2 i2 h2 N4 bd ab _ _=>Br.of (λ_ N5 al=>?_) λ_ N5 al=>?_
 ·rw [i64_in (n - 1) (by omega)]
  exact ih (n - 1) (by omega) ab a2 c2 h2 N5 _ λd a3 am c3 i3 h3 N6 ao O hd _ _ _ _ N7 aq=>zOp (by omega) hd N7 _ λe N8 au he hx _ _=>⟨zU,λN9 aw=>hQ _ _ _ _ _ _ _ (by omega) O (he.mono (by omega)) hx⟩
 ·rw [i64_in (n - 1) (by omega)]
  refine ih (n - 1) (by omega) ab a2 c2 h2 N5 _ λd a3 am c3 i3 h3 N6 ao O hd _ _ _ _ N7 aq=>?_
  exact ih (n - 1) (by omega) O a3 c3 h3 N7 _ λd2 a4 bg c4 i4 h4 N8 au ax ay _ _ _ _ N9 aw=>zQ9 (by omega) hd ay N9 _ λe bh az he hx _ _=>⟨zU,λbi a6=>hQ _ _ _ _ _ _ _ (by omega) ax he hx⟩
theorem zKD:TyC 2 3:=zLD (b:=1) (by omega) (by omega) (by omega) zTj
theorem zSY:TyC 4 15:=zLD (b:=3) (by omega) (by omega) (by omega) (zLD (b:=2) (by omega) (by omega) (by omega) zKD)
theorem zRo {es:List D} {i:Int} (I:Cu es i) (a:Option Addr) (c:Nat) (h:Int) (N:Nat) (Q:QT [.ag 2,.sl 0,.int .i64,.int .i64])
  (hQ:∀ d' a' ae c' i' h' N',N<=N'->Cu ae i'->SmT 200 d'->Q d' a' ae c' i' h' N'):BCalls prog 158 [.ag 2,.sl 0,.int .i64,.int .i64] [.pb 0 0 0 0] [.var [.sv a 0 es c,.int .i64 i,.int .i64 h]] N Q:=by
 refine zC1 N a es c i h Q λE _ N1 aq=>zSY 4 (by omega) I a c h N1 _ λd a1 au c1 i1 h1 N2 aw aj hd hx _ _ _ N3 ax=>?_
 have lc:∀ (m:Nat) (y:D) (a es c i h) (N':Nat) (n4 n5:Int),n4<=n5+m->0<=n5->n4<=1000->m<=6->N<=N'->Cu es i->SmT (21 - m) y->xt E Q N n4 n5 a es c i h 0 none [] 0 y N':=by
  intro m
  induction m with
  | zero=>
    intro y a es c i h N' n4 n5 h1 h2 h5 h6 h3 I O
    exact sx _ _ _ _ _ _ _ _ _ _ _ _ _ _ _ _ (Br.dec (λg=>by omega) λ_=>⟨zU,λN4 J=>hQ _ _ _ _ _ _ _ (by omega) I (O.mono (by omega))⟩)
  | succ m ab=>
    intro y a es c i h N' n4 n5 h1 h2 h5 h6 h3 I O
    refine sx _ _ _ _ _ _ _ _ _ _ _ _ _ _ _ _ (Br.dec (λg N4 J=>zOp (by omega) O N4 _ λe N5 U he _ _ _=>?_) λ_=>⟨zU,λN4 J=>hQ _ _ _ _ _ _ _ (by omega) I (O.mono (by omega))⟩)
    rw [i64_in (n5+1) (by omega)]
    exact ab _ _ _ _ _ _ _ _ _ (by omega) (by omega) (by omega) (by omega) (by omega) I (he.mono (by omega))
 have lf:∀ (m k:Nat) (y:D) (a es c i h) (N':Nat),m+k=3->N<=N'->Cu es i->SmT (16*2 ^ k - 1) y->xq E Q N k a es c i h 0 none [] 0 y N':=by
  have p3:∀ k:Nat,k<=3->2 ^ k<=8:=λk hk=>by rcases (by omega:k=0\/k=1\/k=2\/k=3) with rfl | rfl | rfl | rfl<;>decide
  intro m
  induction m with
  | zero=>
    intro k y a es c i h N' h1 h3 I O
    have:=p3 k (by omega)
    exact s3 _ _ _ _ _ _ _ _ _ _ _ _ _ _ _ (Br.dec (λg=>by omega) λ_=>⟨zU,λN4 J=>hQ _ _ _ _ _ _ _ (by omega) I (O.mono (by omega))⟩)
  | succ m ab=>
    intro k y a es c i h N' h1 h3 I O
    have:=p3 k (by omega)
    have h0:1<=2 ^ k:=Nat.one_le_two_pow
    refine s3 _ _ _ _ _ _ _ _ _ _ _ _ _ _ _ (Br.dec (λg N4 J=>zQ9 (by omega) O O N4 _ λe N5 U he _ _ _=>?_) λ_=>⟨zU,λN4 J=>hQ _ _ _ _ _ _ _ (by omega) I (O.mono (by omega))⟩)
    rw [i64_in ((k:Int)+1) (by omega)]
    exact ab (k+1) _ _ _ _ _ _ _ (by omega) (by omega) I (he.mono (by rw [Nat.pow_succ];omega))
 obtain ⟨k,ra,rs,rc,rfl,ak,ay⟩:=hx
 obtain ⟨t,ht,ah⟩:=hd
 obtain ⟨k',l,rfl⟩:∃ k l,t=Ty.mk k l:=by cases t;exact ⟨_,_,rfl⟩
 obtain ⟨_,_,_,he,hl,Y⟩:=Ty.is_mk.1 ht
 cases he
 simp only [Ty.cnt] at ah
 refine yZ aj 10 (by omega) a1 c1 h1 N3 _ λx a2 az c2 i2 h2 N4 J aa _ _ _ _ _=>Br.beq (λ_ N5 U=>?_) λ_=>Br.beq (λ_=>⟨_,_,_,rfl,λN5 U=>?_⟩) λ_=>Br.beq (λ_ N5 U=>?_) λ_=>Br.beq (λ_=>?_) λ_=>⟨zU,λN5 U=>hQ _ _ _ _ _ _ _ (by omega) aa ⟨_,ht,by simp only [Ty.cnt];omega⟩⟩
 ·exact yZ aa 6 (by omega) a2 c2 h2 N5 _ λy a3 al c3 i3 h3 N6 ai ac _ _ _ _ _=>⟨zU,λN7 am=>hQ _ _ _ _ _ _ _ (by omega) ac ⟨.mk y l,Ty.is_mk.2 ⟨_,_,_,rfl,hl,Y⟩,by simp only [Ty.cnt];omega⟩⟩
 ·refine vS N5 _ λy N6 ai O _ _ _=>⟨?_,by unfold zB;rw [oH];simp only [oN,oV];omega,λc4=>⟨⟨rfl,rfl⟩,⟨rfl,rfl⟩,⟨rfl,rfl⟩,⟨rfl,rfl⟩,λa4 N7 am _=>⟨zU,λN8 a6=>hQ _ _ _ _ _ _ _ (by omega) aa ⟨.mk k (l++[tInt]),Ty.is_mk.2 ⟨_,_,_,rfl,by simp;omega,Y.snoc O⟩,?_⟩⟩⟩⟩
  ·unfold zRG
   split
   ·trivial
   ·exact ⟨ak,by simp⟩
  ·have:zi (l++[tInt])=zi l+1:=by
    clear ht ah Y hl
    induction l with
    | nil=>rfl
    | cons u l ao=>simp only [nC,zi,ao];omega
   simp only [Ty.cnt]
   omega
 ·refine yZ aa 6 (by omega) a2 c2 h2 N5 _ λy a3 al c3 i3 h3 N6 ai ac y0 y1 _ _ _=>?_
  have y1:=y1 (by omega)
  rw [i64_in (1+y) (by omega)]
  exact lc 6 _ _ _ _ _ _ _ _ _ (by omega) (by omega) (by omega) (by omega) (by omega) ac ⟨_,ht,by simp only [Ty.cnt];omega⟩
 ·exact lf 3 0 _ _ _ _ _ _ _ (by omega) (by omega) aa ⟨_,ht,by simp only [Ty.cnt];omega⟩
/-- the cells of some term, but for its kind and number and the place of its row -/
def PkT (m:Nat) (s I:ByteArray) (x J O U:D) (es:List D):Prop:=∃ (ty re:Ty) (l:List Tm),s.size<=4611686018427387904/\I.size<=4611686018427387904/\ty.Is (.ag [x,J])/\re.Is (.ag [O,U])/\All2 Tm.Is l es/\es.length<=1000/\1+ty.cnt+re.cnt+zJ l<=m
theorem PkT.some {m:Nat} {s I:ByteArray} {x J O U:D} {es:List D} (h:PkT m s I x J O U es) (k n:Int) (a:Option Addr) (c:Nat):Some m (.ag [.lit (.int .i64 k),.lit (.string s),.lit (.string I),.lit (.int .i64 n),x,J,O,U,.sl a 9 es c]):=by
 obtain ⟨ty,re,l,Y,h2,h3,h4,h5,h6,h7⟩:=h
 exact ⟨.mk k s I n ty re l,Tm.is_mk.2 ⟨_,_,_,_,_,_,_,rfl,⟨Y,h2,h3,h4⟩,by omega,h5⟩,by simpa only [Tm.cnt] using h7⟩
theorem PkT.mono {m n:Nat} {s I:ByteArray} {x J O U:D} {es:List D} (h:PkT m s I x J O U es) (hn:m<=n):PkT n s I x J O U es:=by
 obtain ⟨ty,re,l,Y,h2,h3,h4,h5,h6,h7⟩:=h
 exact ⟨ty,re,l,Y,h2,h3,h4,h5,h6,by omega⟩
theorem PkT.name {m:Nat} {s I:ByteArray} {x J O U:D} {es:List D} (h:PkT m s I x J O U es) {t:ByteArray} (ht:t.size<=1000):PkT m t I x J O U es:=by
 obtain ⟨ty,re,l,h1,Y,h3,h4,h5,h6,h7⟩:=h
 exact ⟨ty,re,l,by omega,Y,h3,h4,h5,h6,h7⟩
theorem PkT.other {m:Nat} {s U:ByteArray} {x I J O:D} {es:List D} (h:PkT m s U x I J O es) {t:ByteArray} (ht:t.size<=1000):PkT m s t x I J O es:=by
 obtain ⟨ty,re,l,Y,h2,h3,h4,h5,h6,h7⟩:=h
 exact ⟨ty,re,l,Y,by omega,h3,h4,h5,h6,h7⟩
theorem PkT.type {m M:Nat} {s I:ByteArray} {x Y J O y U:D} {es:List D} (h:PkT m s I x Y J O es) (hy:SmT M (.ag [y,U])):PkT (m+M) s I y U J O es:=by
 obtain ⟨ty,re,l,h1,h2,h3,h4,h5,h6,h7⟩:=h
 obtain ⟨t,h8,h9⟩:=hy
 exact ⟨t,re,l,h1,h2,h8,h4,h5,h6,by omega⟩
theorem zFF (t:Tm):∀ l:List Tm,zJ (l++[t])=zJ l+t.cnt
 | []=>by simp [zJ]
 | x::l=>by simp only [nC,zJ,zFF t l];omega
theorem PkT.snoc {m M:Nat} {s I:ByteArray} {x J O U d:D} {es:List D} (h:PkT m s I x J O U es) (hd:Some M d) (hl:es.length<=999):PkT (m+M) s I x J O U (es++[d]):=by
 obtain ⟨ty,re,l,Y,h2,h3,h4,h5,h6,h7⟩:=h
 obtain ⟨t,h8,h9⟩:=hd
 exact ⟨ty,re,l++[t],Y,h2,h3,h4,h5.snoc h8,by simp;omega,by rw [zFF];omega⟩
theorem zHB {s I:ByteArray} (hs:s.size<=1000) (Y:I.size<=1000) {x J O U:D} (h1:SmT 7 (.ag [x,J])) (h2:SmT 7 (.ag [O,U])):PkT 15 s I x J O U []:=by
 obtain ⟨t,h3,h4⟩:=h1
 obtain ⟨u,h5,h6⟩:=h2
 exact ⟨t,u,[],by omega,by omega,h3,h5,rfl,by simp,by simp only [zJ];omega⟩
theorem zKb:SmT 7 (.ag [D.lit (.int .i64 0),D.sl none 2 [] 0]):=(zLP 0).mono (by omega)
theorem zQw (s:ByteArray):zDC s<=3:=by
 unfold zDC
 repeat' split
 all_goals decide
theorem rR (k:Int) (s:ByteArray):zFR k s<=3:=by
 unfold zFR
 have:=zQw s
 repeat' split
 all_goals first | omega | decide
def zLt (b:Int) (X:Nat):Prop:=∀ (n:Int),n<=b->∀ {es:List D} {i:Int} (_:Cu es i) (a:Option Addr) (c:Nat) (h:Int) (N:Nat) (Q:QT [.pk,.int .i64,.str,.str,.int .i64,.dc,.dc,.dc,.dc,.row 35 9,.sl 0,.int .i64,.int .i64])
    (_:∀ k s J n' x O U Y r q a' I c' i' h' N',N<=N'->Cu I i'->PkT X s J x O U Y r->r.length<=3->Q k s J n' x O U Y r q a' I c' i' h' N'),BCalls prog 155 [.pk,.int .i64,.str,.str,.int .i64,.dc,.dc,.dc,.dc,.row 35 9,.sl 0,.int .i64,.int .i64] [.pb 0 0 0 0,.int .i64 n] [.var [.sv a 0 es c,.int .i64 i,.int .i64 h]] N Q
theorem zRK {es:List D} {i:Int} (ah:Cu es i) (a:Option Addr) (c:Nat) (h:Int) (N:Nat) (Q:QT [.pk,.int .i64,.str,.str,.int .i64,.dc,.dc,.dc,.dc,.row 35 9,.sl 0,.int .i64,.int .i64])
  (hQ:∀ k s s1 n' x x1 x2 x3 r q a' O c' i' h' N',N<=N'->Cu O i'->PkT 15 s s1 x x1 x2 x3 r->r.length<=3->Q k s s1 n' x x1 x2 x3 r q a' O c' i' h' N'):BCalls prog 219 [.pk,.int .i64,.str,.str,.int .i64,.dc,.dc,.dc,.dc,.row 35 9,.sl 0,.int .i64,.int .i64] [.pb 0 0 0 0] [.var [.sv a 0 es c,.int .i64 i,.int .i64 h]] N Q:=by
 have z:PkT 15 (bytes []) (bytes []) (D.lit (.int .i64 0)) (D.sl none 2 [] 0) (D.lit (.int .i64 0)) (D.sl none 2 [] 0) []:=zHB (by decide) (by decide) zKb zKb
 refine zDE N a es c i h Q λE _ N1 ai=>yZ ah 4 (by omega) a c h N1 _ λx a1 aj c1 i1 h1 N2 ak J _ _ _ _ _=>Br.beq (λ_ N3 U=>?_) λ_=>Br.beq (λ_ N3 U=>?_) λ_ N3 U=>?_
 ·exact wv (l:=[0,1,2,3,10006]) J (by decide) (by decide) a1 c1 h1 5 5 N3 _ λk a2 Y c2 i2 h2 N4 aa I _ _ _ _ N5 ab=>zFZ N5 k _ λN6 ac _ _=>⟨zU,⟨rfl,rfl⟩,λN7 ae=>hQ _ _ _ _ _ _ _ _ _ _ _ _ _ _ _ _ (by omega) I z (by simp)⟩
 ·exact yZ J 2 (by omega) a1 c1 h1 N3 _ λk a2 Y c2 i2 h2 N4 aa I _ _ _ _ _ N5 ab=>zDy N5 k _ λN6 ac _ _=>⟨zU,⟨rfl,rfl⟩,λN7 ae=>hQ _ _ _ _ _ _ _ _ _ _ _ _ _ _ _ _ (by omega) I z (by simp)⟩
 ·refine tg (l:=[bytes [120],bytes [121],bytes [102]]) J (by decide) (by decide) a1 c1 h1 3 3 N3 _ λs a2 Y c2 i2 h2 N4 aa I hs _ _ _ N5 ab=>pF N5 s _ λN6 ac _ _=>⟨zU,⟨rfl,rfl⟩,λN7 ae=>hQ _ _ _ _ _ _ _ _ _ _ _ _ _ _ _ _ (by omega) I (z.name ?_) (by simp)⟩
  simp only [oI,nG,mZ] at hs
  rcases hs with rfl | rfl | rfl<;>decide
theorem zR3:zLt 1 15:=λn hn es i I a c h N Q O=>rj N n a es c i h Q λE _=>Br.dec (λ_ N1 U=>zRK I a c h N1 _ λk s s1 n' x x1 x2 x3 r q a' Y c' i' h' N2 aa J hp hr _ _ _=>⟨zU,⟨rfl,rfl⟩,λN3 ab=>O _ _ _ _ _ _ _ _ _ _ _ _ _ _ _ _ (by omega) J hp hr⟩) λg=>absurd (by omega) g
theorem zTr {b:Int} {X:Nat} (hb:b<=1000) (hX:15<=X) (ih:zLt b X) {E:Env} {N:Nat} {Q:QT [.pk,.int .i64,.str,.str,.int .i64,.dc,.dc,.dc,.dc,.row 35 9,.sl 0,.int .i64,.int .i64]} {n:Int} (hn:n - 1<=b) (ah:2<=n) (kd n3:Int) (s J:ByteArray) (O U Y x7:D) {m6:Int} (hm:m6<=3)
  (hQ:∀ r q a es c i h N',N<=N'->Cu es i->PkT (15+3*X) s J O U Y x7 r->r.length<=3->Q kd s J n3 O U Y x7 r q a es c i h N') :
  ∀ (rem k:Nat) (r:List D) (q:Nat) a es c i h N',m6<=k+rem->k<=3->r.length=k->N<=N'->Cu es i->PkT (15+k*X) s J O U Y x7 r->wQ E Q N n m6 k a es c i h 0 (bytes []) (bytes []) 0 0 none [] 0 0 none [] 0 none [] 0 kd s J n3 O U Y x7 r.length q r q N':=by
 intro rem
 induction rem with
 | zero=>
   intro k r q a es c i h N' h1 h2 h3 h4 I hp
   have hk:k*X<=3*X:=od _ h2
   refine qG _ _ _ _ _ _ _ _ _ _ _ _ _ _ _ _ _ _ _ _ _ _ _ _ _ _ _ _ _ _ _ _ _ _ _ _ _ _ _ (Br.dec (λg=>by omega) λ_=>⟨zU,⟨rfl,rfl⟩,λN4 aa=>hQ _ _ _ _ _ _ _ _ (by omega) I (hp.mono (by omega)) (by omega)⟩)
 | succ rem ab=>
   intro k r q a es c i h N' h1 h2 h3 h4 I hp
   have hk:k*X<=3*X:=od _ h2
   refine qG _ _ _ _ _ _ _ _ _ _ _ _ _ _ _ _ _ _ _ _ _ _ _ _ _ _ _ _ _ _ _ _ _ _ _ _ _ _ _ (Br.dec (λg N1 ai=>?_) λ_=>⟨zU,⟨rfl,rfl⟩,λN4 aa=>hQ _ _ _ _ _ _ _ _ (by omega) I (hp.mono (by omega)) (by omega)⟩)
   rw [i64_in (n - 1) (by omega)]
   refine ih (n - 1) hn I a c h N1 _ λk' t t1 n' y y1 y2 y3 aj c' a' ak c2 i2 h2 N2 al ac ae _ _ _ _=>⟨⟨rfl,rfl⟩,λa1 N3 am _=>⟨⟨rfl,rfl⟩,by unfold zB;rw [oH];simp only [oN,oV];omega,λc3=>?_⟩⟩
   rw [i64_in ((k:Int)+1) (by omega)]
   exact ab (k+1) _ c3 _ _ _ _ _ _ (by omega) (by omega) (by simp [h3]) (by omega) ac ((hp.snoc (ae.some _ _ _ _) (by omega)).mono (by rw [Nat.succ_mul];omega))
theorem zUM {b:Int} {X:Nat} (hb:b<=1000) (hX:15<=X) (ih:zLt b X) {E:Env} {N:Nat} {Q:QT [.pk,.int .i64,.str,.str,.int .i64,.dc,.dc,.dc,.dc,.row 35 9,.sl 0,.int .i64,.int .i64]} {n:Int} (hn:n - 1<=b) (J:2<=n) (kd n3:Int) {s I:ByteArray} (hs:s.size<=1000) (O:I.size<=1000) (U Y x6 x7:D) (hT:SmT 7 (.ag [U,Y])) (hR:SmT 7 (.ag [x6,x7]))
  (hQ:∀ k s I n' x x1 x2 x3 r q a es c i h N',N<=N'->Cu es i->PkT (15+3*X) s I x x1 x2 x3 r->r.length<=3->Q k s I n' x x1 x2 x3 r q a es c i h N') {es:List D} {i:Int} (aa:Cu es i) (a:Option Addr) (c:Nat) (h:Int) {N':Nat} (ab:N<=N') :
  uK E Q N n a es c i h 0 (bytes []) (bytes []) 0 0 none [] 0 0 none [] 0 none [] 0 kd s I n3 U Y x6 x7 0 0 [] 0 N':=by
 refine zEB _ _ _ _ _ _ _ _ _ _ _ _ _ _ _ _ _ _ _ _ _ _ _ _ _ _ _ _ _ _ _ _ _ _ _ _ _ ⟨⟨rfl,rfl⟩,λa7 _ N1 ac _=>xh N1 _ λN2 ae _=>zTr hb hX ih hn J kd n3 s I U Y x6 x7 (rR _ _) (λr q a es c i h N'=>hQ _ _ _ _ _ _ _ _ r q a es c i h N') 3 0 [] 0 a es c i h N2 (by have:=rR kd s;omega) (by omega) rfl (by omega) aa ((zHB hs O hT hR).mono (by omega))⟩
theorem zQP {b:Int} {X:Nat} (hb:b<=1000) (hX:15<=X) (ih:zLt b X) {E:Env} {N:Nat} {Q:QT [.pk,.int .i64,.str,.str,.int .i64,.dc,.dc,.dc,.dc,.row 35 9,.sl 0,.int .i64,.int .i64]} {n:Int} (hn:n - 1<=b) (ah:2<=n) (kd n3:Int) (s J:ByteArray) (O U:D) {m6:Int} (hm:m6<=3)
  (hQ:∀ r q a es c i h N',N<=N'->Cu es i->PkT (15+3*X) s J O U (D.lit (.int .i64 0)) (D.sl none 2 [] 0) r->r.length<=3->Q kd s J n3 O U (D.lit (.int .i64 0)) (D.sl none 2 [] 0) r q a es c i h N') :
  ∀ (rem k:Nat) (r:List D) (q:Nat) a es c i h N',m6<=k+rem->k<=3->r.length=k->N<=N'->Cu es i->PkT (15+k*X) s J O U (D.lit (.int .i64 0)) (D.sl none 2 [] 0) r->xM E Q N n m6 k a es c i h 0 (bytes []) (bytes []) 0 0 none [] 0 0 none [] 0 none [] 0 kd s J n3 O U 0 none [] 0 r.length q r q N':=by
 intro rem
 induction rem with
 | zero=>
   intro k r q a es c i h N' h1 Y h3 h4 I hp
   have hk:k*X<=3*X:=od _ Y
   refine tC _ _ _ _ _ _ _ _ _ _ _ _ _ _ _ _ _ _ _ _ _ _ _ _ _ _ _ _ _ _ _ _ _ _ _ _ _ _ _ _ _ (Br.dec (λg=>by omega) λ_=>⟨zU,⟨rfl,rfl⟩,λN4 aa=>hQ _ _ _ _ _ _ _ _ (by omega) I (hp.mono (by omega)) (by omega)⟩)
 | succ rem ab=>
   intro k r q a es c i h N' h1 Y h3 h4 I hp
   have hk:k*X<=3*X:=od _ Y
   refine tC _ _ _ _ _ _ _ _ _ _ _ _ _ _ _ _ _ _ _ _ _ _ _ _ _ _ _ _ _ _ _ _ _ _ _ _ _ _ _ _ _ (Br.dec (λg N1 ai=>?_) λ_=>⟨zU,⟨rfl,rfl⟩,λN4 aa=>hQ _ _ _ _ _ _ _ _ (by omega) I (hp.mono (by omega)) (by omega)⟩)
   rw [i64_in (n - 1) (by omega)]
   refine ih (n - 1) hn I a c h N1 _ λk' t t1 n' y y1 y2 y3 aj c' a' ak c2 i2 Y N2 al ac ae _ _ _ _=>⟨⟨rfl,rfl⟩,λa1 N3 am _=>⟨⟨rfl,rfl⟩,by unfold zB;rw [oH];simp only [oN,oV];omega,λc3=>?_⟩⟩
   rw [i64_in ((k:Int)+1) (by omega)]
   exact ab (k+1) _ c3 _ _ _ _ _ _ (by omega) (by omega) (by simp [h3]) (by omega) ac ((hp.snoc (ae.some _ _ _ _) (by omega)).mono (by rw [Nat.succ_mul];omega))
theorem zQT {b:Int} {X:Nat} (hb:b<=1000) (hX:15<=X) (ih:zLt b X) {E:Env} {N:Nat} {Q:QT [.pk,.int .i64,.str,.str,.int .i64,.dc,.dc,.dc,.dc,.row 35 9,.sl 0,.int .i64,.int .i64]} {n:Int} (hn:n - 1<=b) (J:2<=n) (kd n3:Int) {s I:ByteArray} (hs:s.size<=1000) (O:I.size<=1000) (U Y:D) (hT:SmT 7 (.ag [U,Y])) (hR:SmT 7 (.ag [(D.lit (.int .i64 0)),(D.sl none 2 [] 0)]))
  (hQ:∀ k s I n' x x1 x2 x3 r q a es c i h N',N<=N'->Cu es i->PkT (15+3*X) s I x x1 x2 x3 r->r.length<=3->Q k s I n' x x1 x2 x3 r q a es c i h N') {es:List D} {i:Int} (aa:Cu es i) (a:Option Addr) (c:Nat) (h:Int) {N':Nat} (ab:N<=N') :
  wM E Q N n a es c i h 0 (bytes []) (bytes []) 0 0 none [] 0 0 none [] 0 none [] 0 kd s I n3 U Y 0 none [] 0 0 0 [] 0 N':=by
 refine zAP _ _ _ _ _ _ _ _ _ _ _ _ _ _ _ _ _ _ _ _ _ _ _ _ _ _ _ _ _ _ _ _ _ _ _ _ _ _ _ ⟨⟨rfl,rfl⟩,λa7 _ N1 ac _=>xh N1 _ λN2 ae _=>zQP hb hX ih hn J kd n3 s I U Y (rR _ _) (λr q a es c i h N'=>hQ _ _ _ _ _ _ _ _ r q a es c i h N') 3 0 [] 0 a es c i h N2 (by have:=rR kd s;omega) (by omega) rfl (by omega) aa ((zHB hs O hT hR).mono (by omega))⟩
theorem zP0 {b:Int} {X:Nat} (hb:b<=1000) (hX:15<=X) (ih:zLt b X) {E:Env} {N:Nat} {Q:QT [.pk,.int .i64,.str,.str,.int .i64,.dc,.dc,.dc,.dc,.row 35 9,.sl 0,.int .i64,.int .i64]} {n:Int} (hn:n - 1<=b) (ah:2<=n) (kd n3:Int) (s J:ByteArray) (O U:D) {m6:Int} (hm:m6<=3)
  (hQ:∀ r q a es c i h N',N<=N'->Cu es i->PkT (15+3*X) s J (D.lit (.int .i64 0)) (D.sl none 2 [] 0) O U r->r.length<=3->Q kd s J n3 (D.lit (.int .i64 0)) (D.sl none 2 [] 0) O U r q a es c i h N') :
  ∀ (rem k:Nat) (r:List D) (q:Nat) a es c i h N',m6<=k+rem->k<=3->r.length=k->N<=N'->Cu es i->PkT (15+k*X) s J (D.lit (.int .i64 0)) (D.sl none 2 [] 0) O U r->xL E Q N n m6 k a es c i h 0 (bytes []) (bytes []) 0 0 none [] 0 0 none [] 0 none [] 0 kd s J n3 0 none [] 0 O U r.length q r q N':=by
 intro rem
 induction rem with
 | zero=>
   intro k r q a es c i h N' h1 Y h3 h4 I hp
   have hk:k*X<=3*X:=od _ Y
   refine ux _ _ _ _ _ _ _ _ _ _ _ _ _ _ _ _ _ _ _ _ _ _ _ _ _ _ _ _ _ _ _ _ _ _ _ _ _ _ _ _ _ (Br.dec (λg=>by omega) λ_=>⟨zU,⟨rfl,rfl⟩,λN4 aa=>hQ _ _ _ _ _ _ _ _ (by omega) I (hp.mono (by omega)) (by omega)⟩)
 | succ rem ab=>
   intro k r q a es c i h N' h1 Y h3 h4 I hp
   have hk:k*X<=3*X:=od _ Y
   refine ux _ _ _ _ _ _ _ _ _ _ _ _ _ _ _ _ _ _ _ _ _ _ _ _ _ _ _ _ _ _ _ _ _ _ _ _ _ _ _ _ _ (Br.dec (λg N1 ai=>?_) λ_=>⟨zU,⟨rfl,rfl⟩,λN4 aa=>hQ _ _ _ _ _ _ _ _ (by omega) I (hp.mono (by omega)) (by omega)⟩)
   rw [i64_in (n - 1) (by omega)]
   refine ih (n - 1) hn I a c h N1 _ λk' t t1 n' y y1 y2 y3 aj c' a' ak c2 i2 Y N2 al ac ae _ _ _ _=>⟨⟨rfl,rfl⟩,λa1 N3 am _=>⟨⟨rfl,rfl⟩,by unfold zB;rw [oH];simp only [oN,oV];omega,λc3=>?_⟩⟩
   rw [i64_in ((k:Int)+1) (by omega)]
   exact ab (k+1) _ c3 _ _ _ _ _ _ (by omega) (by omega) (by simp [h3]) (by omega) ac ((hp.snoc (ae.some _ _ _ _) (by omega)).mono (by rw [Nat.succ_mul];omega))
theorem zPk {b:Int} {X:Nat} (hb:b<=1000) (hX:15<=X) (ih:zLt b X) {E:Env} {N:Nat} {Q:QT [.pk,.int .i64,.str,.str,.int .i64,.dc,.dc,.dc,.dc,.row 35 9,.sl 0,.int .i64,.int .i64]} {n:Int} (hn:n - 1<=b) (J:2<=n) (kd n3:Int) {s I:ByteArray} (hs:s.size<=1000) (O:I.size<=1000) (U Y:D) (hT:SmT 7 (.ag [(D.lit (.int .i64 0)),(D.sl none 2 [] 0)])) (hR:SmT 7 (.ag [U,Y]))
  (hQ:∀ k s I n' x x1 x2 x3 r q a es c i h N',N<=N'->Cu es i->PkT (15+3*X) s I x x1 x2 x3 r->r.length<=3->Q k s I n' x x1 x2 x3 r q a es c i h N') {es:List D} {i:Int} (aa:Cu es i) (a:Option Addr) (c:Nat) (h:Int) {N':Nat} (ab:N<=N') :
  wd E Q N n a es c i h 0 (bytes []) (bytes []) 0 0 none [] 0 0 none [] 0 none [] 0 kd s I n3 0 none [] 0 U Y 0 0 [] 0 N':=by
 refine zBF _ _ _ _ _ _ _ _ _ _ _ _ _ _ _ _ _ _ _ _ _ _ _ _ _ _ _ _ _ _ _ _ _ _ _ _ _ _ _ ⟨⟨rfl,rfl⟩,λa7 _ N1 ac _=>xh N1 _ λN2 ae _=>zP0 hb hX ih hn J kd n3 s I U Y (rR _ _) (λr q a es c i h N'=>hQ _ _ _ _ _ _ _ _ r q a es c i h N') 3 0 [] 0 a es c i h N2 (by have:=rR kd s;omega) (by omega) rfl (by omega) aa ((zHB hs O hT hR).mono (by omega))⟩
theorem zQI {b:Int} {X:Nat} (hb:b<=1000) (hX:15<=X) (ih:zLt b X) {E:Env} {N:Nat} {Q:QT [.pk,.int .i64,.str,.str,.int .i64,.dc,.dc,.dc,.dc,.row 35 9,.sl 0,.int .i64,.int .i64]} {n:Int} (hn:n - 1<=b) (ah:2<=n) (kd n3:Int) (s J:ByteArray) {Y:Int} (hm:Y<=3)
  (hQ:∀ r q a es c i h N',N<=N'->Cu es i->PkT (15+3*X) s J (D.lit (.int .i64 0)) (D.sl none 2 [] 0) (D.lit (.int .i64 0)) (D.sl none 2 [] 0) r->r.length<=3->Q kd s J n3 (D.lit (.int .i64 0)) (D.sl none 2 [] 0) (D.lit (.int .i64 0)) (D.sl none 2 [] 0) r q a es c i h N') :
  ∀ (rem k:Nat) (r:List D) (q:Nat) a es c i h N',Y<=k+rem->k<=3->r.length=k->N<=N'->Cu es i->PkT (15+k*X) s J (D.lit (.int .i64 0)) (D.sl none 2 [] 0) (D.lit (.int .i64 0)) (D.sl none 2 [] 0) r->xH E Q N n Y k a es c i h 0 (bytes []) (bytes []) 0 0 none [] 0 0 none [] 0 none [] 0 kd s J n3 0 none [] 0 0 none [] 0 r.length q r q N':=by
 intro rem
 induction rem with
 | zero=>
   intro k r q a es c i h N' h1 O h3 h4 I U
   have hk:k*X<=3*X:=od _ O
   refine tA _ _ _ _ _ _ _ _ _ _ _ _ _ _ _ _ _ _ _ _ _ _ _ _ _ _ _ _ _ _ _ _ _ _ _ _ _ _ _ _ _ _ _ (Br.dec (λg=>by omega) λ_=>⟨zU,⟨rfl,rfl⟩,λN4 aa=>hQ _ _ _ _ _ _ _ _ (by omega) I (U.mono (by omega)) (by omega)⟩)
 | succ rem ab=>
   intro k r q a es c i h N' h1 O h3 h4 I U
   have hk:k*X<=3*X:=od _ O
   refine tA _ _ _ _ _ _ _ _ _ _ _ _ _ _ _ _ _ _ _ _ _ _ _ _ _ _ _ _ _ _ _ _ _ _ _ _ _ _ _ _ _ _ _ (Br.dec (λg N1 ai=>?_) λ_=>⟨zU,⟨rfl,rfl⟩,λN4 aa=>hQ _ _ _ _ _ _ _ _ (by omega) I (U.mono (by omega)) (by omega)⟩)
   rw [i64_in (n - 1) (by omega)]
   refine ih (n - 1) hn I a c h N1 _ λk' t t1 n' y y1 y2 y3 aj c' a' ak c2 i2 O N2 al ac ae _ _ _ _=>⟨⟨rfl,rfl⟩,λa1 N3 am _=>⟨⟨rfl,rfl⟩,by unfold zB;rw [oH];simp only [oN,oV];omega,λc3=>?_⟩⟩
   rw [i64_in ((k:Int)+1) (by omega)]
   exact ab (k+1) _ c3 _ _ _ _ _ _ (by omega) (by omega) (by simp [h3]) (by omega) ac ((U.snoc (ae.some _ _ _ _) (by omega)).mono (by rw [Nat.succ_mul];omega))
theorem zQy {b:Int} {X:Nat} (hb:b<=1000) (hX:15<=X) (ih:zLt b X) {E:Env} {N:Nat} {Q:QT [.pk,.int .i64,.str,.str,.int .i64,.dc,.dc,.dc,.dc,.row 35 9,.sl 0,.int .i64,.int .i64]} {n:Int} (hn:n - 1<=b) (J:2<=n) (kd Y:Int) {s I:ByteArray} (hs:s.size<=1000) (O:I.size<=1000) (hT:SmT 7 (.ag [(D.lit (.int .i64 0)),(D.sl none 2 [] 0)])) (hR:SmT 7 (.ag [(D.lit (.int .i64 0)),(D.sl none 2 [] 0)]))
  (hQ:∀ k s I n' x x1 x2 x3 r q a es c i h N',N<=N'->Cu es i->PkT (15+3*X) s I x x1 x2 x3 r->r.length<=3->Q k s I n' x x1 x2 x3 r q a es c i h N') {es:List D} {i:Int} (U:Cu es i) (a:Option Addr) (c:Nat) (h:Int) {N':Nat} (aa:N<=N') :
  wO E Q N n a es c i h 0 (bytes []) (bytes []) 0 0 none [] 0 0 none [] 0 none [] 0 kd s I Y 0 none [] 0 0 none [] 0 0 0 [] 0 N':=by
 refine pw _ _ _ _ _ _ _ _ _ _ _ _ _ _ _ _ _ _ _ _ _ _ _ _ _ _ _ _ _ _ _ _ _ _ _ _ _ _ _ _ _ ⟨⟨rfl,rfl⟩,λa7 _ N1 ab _=>xh N1 _ λN2 ac _=>zQI hb hX ih hn J kd Y s I  (rR _ _) (λr q a es c i h N'=>hQ _ _ _ _ _ _ _ _ r q a es c i h N') 3 0 [] 0 a es c i h N2 (by have:=rR kd s;omega) (by omega) rfl (by omega) U ((zHB hs O hT hR).mono (by omega))⟩
theorem zS9 {b:Int} {X:Nat} (hb:b<=1000) (hX:15<=X) (ih:zLt b X) {E:Env} {N:Nat} {Q:QT [.pk,.int .i64,.str,.str,.int .i64,.dc,.dc,.dc,.dc,.row 35 9,.sl 0,.int .i64,.int .i64]} {n:Int} (hn:n - 1<=b) (I:2<=n) (kd n3:Int) {s:ByteArray} (hs:s.size<=1000) (O U:D) (hT:SmT 7 (.ag [O,U]))
  (hQ:∀ k s s1 n' x x1 x2 x3 r q a es c i h N',N<=N'->Cu es i->PkT (15+3*X) s s1 x x1 x2 x3 r->r.length<=3->Q k s s1 n' x x1 x2 x3 r q a es c i h N') {es:List D} {i:Int} (J:Cu es i) (a:Option Addr) (c:Nat) (h:Int) {N':Nat} (aa:N<=N') :
  wh E Q N n a es c i h 0 (bytes []) (bytes []) 0 0 none [] 0 0 none [] 0 none [] 0 kd s (bytes []) n3 O U 0 none [] 0 0 0 [] 0 N':=by
 refine zEA _ _ _ _ _ _ _ _ _ _ _ _ _ _ _ _ _ _ _ _ _ _ _ _ _ _ _ _ _ _ _ _ _ _ _ _ _ _ _ (Br.beq (λ_ N1 ae=>?_) λ_=>zQT hb hX ih hn I kd n3 hs (by decide) O U hT zKb hQ J a c h aa)
 refine tg (l:=[bytes [122],bytes [119]]) J (by decide) (by decide) a c h 2 2 N1 _ λt a1 ah c1 i1 h1 N2 ai ab Y _ _ _ N3 aj=>?_
 have Y:t.size<=1000:=by
  simp only [oI,nG,mZ] at Y
  rcases Y with rfl | rfl<;>decide
 exact zKD 2 (by omega) ab a1 c1 h1 N3 _ λd a2 ak c2 i2 h2 N4 al ac hd _ _ _ _=>zUM hb hX ih hn I kd n3 hs Y O U _ _ hT (hd.cells.mono (by omega)) hQ ac a2 c2 h2 (by omega)
theorem zQ2 {b:Int} {X:Nat} (hb:b<=1000) (hX:15<=X) (ih:zLt b X) {E:Env} {N:Nat} {Q:QT [.pk,.int .i64,.str,.str,.int .i64,.dc,.dc,.dc,.dc,.row 35 9,.sl 0,.int .i64,.int .i64]} {n:Int} (hn:n - 1<=b) (I:2<=n) (kd U:Int) {s:ByteArray} (hs:s.size<=1000) (hT:SmT 7 (.ag [(D.lit (.int .i64 0)),(D.sl none 2 [] 0)]))
  (hQ:∀ k s s1 n' x x1 x2 x3 r q a es c i h N',N<=N'->Cu es i->PkT (15+3*X) s s1 x x1 x2 x3 r->r.length<=3->Q k s s1 n' x x1 x2 x3 r q a es c i h N') {es:List D} {i:Int} (J:Cu es i) (a:Option Addr) (c:Nat) (h:Int) {N':Nat} (Y:N<=N') :
  wg E Q N n a es c i h 0 (bytes []) (bytes []) 0 0 none [] 0 0 none [] 0 none [] 0 kd s (bytes []) U 0 none [] 0 0 none [] 0 0 0 [] 0 N':=by
 refine zA2 _ _ _ _ _ _ _ _ _ _ _ _ _ _ _ _ _ _ _ _ _ _ _ _ _ _ _ _ _ _ _ _ _ _ _ _ _ _ _ _ _ (Br.beq (λ_ N1 ac=>?_) λ_=>zQy hb hX ih hn I kd U hs (by decide) hT zKb hQ J a c h Y)
 refine tg (l:=[bytes [122],bytes [119]]) J (by decide) (by decide) a c h 2 2 N1 _ λt a1 ae c1 i1 h1 N2 ah aa O _ _ _ N3 ai=>?_
 have O:t.size<=1000:=by
  simp only [oI,nG,mZ] at O
  rcases O with rfl | rfl<;>decide
 exact zKD 2 (by omega) aa a1 c1 h1 N3 _ λd a2 aj c2 i2 h2 N4 ak ab hd _ _ _ _=>zPk hb hX ih hn I kd U hs O _ _ hT (hd.cells.mono (by omega)) hQ ab a2 c2 h2 (by omega)
theorem zIs {b:Int} {X:Nat} (hb:b<=1000) (hX:15<=X) (ih:zLt b X):zLt (b+1) (15+3*X):=λn hn es i J a c h N Q hQ=>by
 have lf:∀ (E:Env) {es:List D} {i:Int} (_:Cu es i) a c h N1,N<=N1->BCalls prog 219 [.pk,.int .i64,.str,.str,.int .i64,.dc,.dc,.dc,.dc,.row 35 9,.sl 0,.int .i64,.int .i64] [.pb 0 0 0 0] [.var [.sv a 0 es c,.int .i64 i,.int .i64 h]] N1 (λn s am aa x ao aq au es c a U Y ab aw N2=>N1<=N2->Bel N2 (D.sl a 0 U Y)->Bel N2 (D.ag es)->zN E [.var [.sv none 0 [] 0,.int .i64 0,.int .i64 0]]/\(es.length=es.length/\c=c)/\∀ N3,N2<=N3->Q n s am aa x ao aq au es c a U Y ab aw N3):=λE es i J a c h N1 ac=>
  zRK J a c h N1 _ λk s s1 n' x x1 x2 x3 r q a' a8 c' i' h' N2 ax ay hp hr _ _ _=>⟨zU,⟨rfl,rfl⟩,λN3 ak=>hQ _ _ _ _ _ _ _ _ _ _ _ _ _ _ _ _ (by omega) ay (hp.mono (by omega)) hr⟩
 refine rj N n a es c i h Q λE _=>Br.dec (λ_ N1 ac=>lf E J a c h N1 ac) λba N1 ac=>sw J 5 (by omega) a c h N1 _ λb1 a1 bb c1 i1 h1 N2 ax al _ _=>Br.of (λ_ N3 ak=>lf E al a1 c1 h1 N3 (by omega)) λ_ N3 ak=>?_
 refine wv (l:=[4,5,6,7,8,9,10,11,12,13,10,4]) al (by decide) (by decide) a1 c1 h1 12 12 N3 _ λkd a2 ae c2 i2 h2 N4 bc O _ _ _ _=>?_
 have ah:∀ {s:ByteArray} (_:s.size<=1000) {es:List D} {i:Int} (_:Cu es i) a c h N',N<=N'->zw E Q N n a es c i h 0 (bytes []) (bytes []) 0 0 none [] 0 0 none [] 0 none [] 0 kd s (bytes []) 0 0 none [] 0 0 none [] 0 0 0 [] 0 N':=λhs es i J a c h N' az=>by
  refine zDt _ _ _ _ _ _ _ _ _ _ _ _ _ _ _ _ _ _ _ _ _ _ _ _ _ _ _ _ _ _ _ _ _ _ _ _ _ _ _ _ _ (Br.beq (λ_ N5 I=>zKD 2 (by omega) J a c h N5 _ λd a2 ae c2 i2 h2 N6 ai O hd _ _ _ _=>zS9 hb hX ih (by omega) (by omega) kd 0 hs _ _ (hd.cells.mono (by omega)) hQ O a2 c2 h2 (by omega)) λ_=>Br.beq (λ_ N5 I=>zKD 2 (by omega) J a c h N5 _ λd a2 ae c2 i2 h2 N6 ai O hd _ _ _ _=>zS9 hb hX ih (by omega) (by omega) kd 0 hs _ _ (hd.cells.mono (by omega)) hQ O a2 c2 h2 (by omega)) λ_=>zQ2 hb hX ih (by omega) (by omega) kd 0 hs zKb hQ J a c h az)
 have L3:∀ N5,N4<=N5->BCalls prog 156 [.str,.sl 0,.int .i64,.int .i64,.sl 0] [.pb 0 0 0 0,.sb 1 0 0 3 3] [.var [.sv a2 0 ae c2,.int .i64 i2,.int .i64 h2],.arr 9 0 (zA [bytes [120],bytes [121],bytes [102]]) 3] N5 (λs a es c aa ab a6 U Y N6=>N5<=N6->Bel N6 (D.sl a 0 es c)->Bel N6 (D.sl a6 0 U Y)->zw E Q N n a es c aa ab 0 (bytes []) (bytes []) 0 0 none [] 0 0 none [] 0 none [] 0 kd s (bytes []) 0 0 none [] 0 0 none [] 0 0 0 [] 0 N6):=λN5 I=>
  tg (l:=[bytes [120],bytes [121],bytes [102]]) O (by decide) (by decide) a2 c2 h2 3 3 N5 _ λt a3 a7 c3 i3 h3 N6 ai aj ht _ _ _=>ah (by
   simp only [oI,nG,mZ] at ht
   rcases ht with rfl | rfl | rfl<;>decide) aj a3 c3 h3 N6 (by omega)
 refine Br.beq (λ_ N5 I=>?_) λ_=>Br.beq (λ_ N5 I=>L3 N5 I) λ_=>Br.beq (λ_ N5 I=>L3 N5 I) λ_=>Br.beq (λ_ N5 I=>L3 N5 I) λ_=>ah (by decide) O a2 c2 h2 N4 (by omega)
 refine tg (l:=[bytes [43],bytes [45],bytes [42],bytes [61],bytes [60],bytes [38],bytes [124],bytes [33]]) O (by decide) (by decide) a2 c2 h2 8 8 N5 _ λt a3 a7 c3 i3 h3 N6 ai aj ht _ _ _=>ah ?_ aj a3 c3 h3 N6 (by omega)
 simp only [oI,nG,mZ] at ht
 rcases ht with rfl | rfl | rfl | rfl | rfl | rfl | rfl | rfl<;>decide
theorem zQB:zLt 4 600:=by
 have h:=zIs (b:=3) (by omega) (by omega) (zIs (b:=2) (by omega) (by omega) (zIs (b:=1) (by omega) (by omega) zR3))
 exact λn hn es i I a c J N Q O=>h n (by omega) I a c J N Q λk s s1 n' x x1 x2 x3 r q a' U c' i' J N' Y h2 h3 h4=>O _ _ _ _ _ _ _ _ _ _ _ _ _ _ _ _ Y h2 (h3.mono (by omega)) h4
theorem zOs {es:List D} {i:Int} (ah:Cu es i) (a:Option Addr) (c:Nat) (h:Int) (N:Nat) (Q:QT [.ag 9,.sl 0,.int .i64,.int .i64])
  (hQ:∀ d' a' ae c' i' h' N',N<=N'->Cu ae i'->Some 1000 d'->Q d' a' ae c' i' h' N'):BCalls prog 92 [.ag 9,.sl 0,.int .i64,.int .i64] [.pb 0 0 0 0] [.var [.sv a 0 es c,.int .i64 i,.int .i64 h]] N Q:=by
 have z:PkT 15 (bytes [120]) (bytes []) (D.lit (.int .i64 0)) (D.sl none 2 [] 0) (D.lit (.int .i64 0)) (D.sl none 2 [] 0) []:=zHB (by decide) (by decide) zKb zKb
 refine zDH N a es c i h Q λE _ N1 al=>yZ ah 4 (by omega) a c h N1 _ λx a1 am c1 i1 h1 N2 ao ai x0 x1 _ _ _ N3 aq=>?_
 have x1:=x1 (by omega)
 rw [i64_in (1+x) (by omega)]
 refine zQB (1+x) (by omega) ai a1 c1 h1 N3 _ λk s s1 n y y1 y2 y3 r q a2 au c2 i2 h2 N4 aw aj hp hr _ _ _ N5 ax=>?_
 refine yZ aj 14 (by omega) a2 c2 h2 N5 _ λz1 a3 ay c3 i3 h3 N6 az O _ _ _ _ _=>Br.beq (λ_ N7 aa=>?_) λ_=>Br.beq (λ_ N7 aa=>?_) λ_=>Br.beq (λ_ N7 aa=>?_) λ_=>Br.beq (λ_ N7 aa=>?_) λ_=>Br.beq (λ_ N7 aa=>?_) λ_=>Br.beq (λ_ N7 aa=>?_) λ_=>?_
 ·exact yZ O 15 (by omega) a3 c3 h3 N7 _ λw a4 ac c4 i4 h4 N8 ab J _ _ _ _ _=>⟨⟨rfl,rfl⟩,⟨rfl,rfl⟩,⟨rfl,rfl⟩,⟨rfl,rfl⟩,λa5 N9 U _=>⟨zU,λY I=>hQ _ _ _ _ _ _ _ (by omega) J ((hp.some _ _ _ _).mono (by omega))⟩⟩
 ·exact wv (l:=[0,1,10006,10007, -1]) O (by decide) (by decide) a3 c3 h3 5 5 N7 _ λw a4 ac c4 i4 h4 N8 ab J _ _ _ _=>⟨⟨rfl,rfl⟩,⟨rfl,rfl⟩,⟨rfl,rfl⟩,⟨rfl,rfl⟩,λa5 N9 U _=>⟨zU,λY I=>hQ _ _ _ _ _ _ _ (by omega) J ((hp.some _ _ _ _).mono (by omega))⟩⟩
 ·refine tg (l:=[bytes [],bytes [120],bytes [108,101,116],bytes [97,98,99,100,101],bytes [43]]) O (by decide) (by decide) a3 c3 h3 5 5 N7 _ λw a4 ac c4 i4 h4 N8 ab J hw _ _ _=>⟨⟨rfl,rfl⟩,⟨rfl,rfl⟩,⟨rfl,rfl⟩,⟨rfl,rfl⟩,λa5 N9 U _=>⟨zU,λY I=>hQ _ _ _ _ _ _ _ (by omega) J (((hp.name ?_).some _ _ _ _).mono (by omega))⟩⟩
  simp only [oI,nG,mZ] at hw
  rcases hw with rfl | rfl | rfl | rfl | rfl<;>decide
 ·exact pF N7 _ _ λN8 ab _ _=>⟨⟨rfl,rfl⟩,λa5 N9 U _=>⟨⟨rfl,rfl⟩,by unfold zB;rw [oH];simp only [oN,oV];omega,λc9=>⟨⟨rfl,rfl⟩,⟨rfl,rfl⟩,⟨rfl,rfl⟩,⟨rfl,rfl⟩,λa6 Y I _=>⟨zU,λa7 ak=>hQ _ _ _ _ _ _ _ (by omega) O (((hp.snoc (z.some _ _ _ _) (by omega)).some _ _ _ _).mono (by omega))⟩⟩⟩⟩
 ·exact zRo O a3 c3 h3 N7 _ λw a4 ac c4 i4 h4 N8 ab J hw _ _ _=>⟨⟨rfl,rfl⟩,⟨rfl,rfl⟩,⟨rfl,rfl⟩,⟨rfl,rfl⟩,λa5 N9 U _=>⟨zU,λY I=>hQ _ _ _ _ _ _ _ (by omega) J (((hp.type hw.cells).some _ _ _ _).mono (by omega))⟩⟩
 ·refine tg (l:=[bytes [120],bytes [122]]) O (by decide) (by decide) a3 c3 h3 2 2 N7 _ λw a4 ac c4 i4 h4 N8 ab J hw _ _ _=>⟨⟨rfl,rfl⟩,⟨rfl,rfl⟩,⟨rfl,rfl⟩,⟨rfl,rfl⟩,λa5 N9 U _=>⟨zU,λY I=>hQ _ _ _ _ _ _ _ (by omega) J (((hp.other ?_).some _ _ _ _).mono (by omega))⟩⟩
  simp only [oI,nG,mZ] at hw
  rcases hw with rfl | rfl<;>decide
 ·exact ⟨⟨rfl,rfl⟩,⟨rfl,rfl⟩,⟨rfl,rfl⟩,⟨rfl,rfl⟩,λa5 N9 U _=>⟨zU,λY I=>hQ _ _ _ _ _ _ _ (by omega) O ((hp.some _ _ _ _).mono (by omega))⟩⟩
end Go.Proofs.YtmfjakahanbnlaaGreatDoor
