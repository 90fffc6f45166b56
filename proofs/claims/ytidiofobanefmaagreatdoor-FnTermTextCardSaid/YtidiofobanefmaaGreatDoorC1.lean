/- Binders, one within the other; a weight that counts them (no program in sight). -/
import Derived.Test.YtidiofobanefmaaGreatDoorA5
import Derived.Test.YtidiofobanefmaaGreatDoorA1
import Derived.Test.YtidiofobanefmaaGreatDoorKa
import Derived.Test.YtidiofobanefmaaGreatDoorKd
set_option linter.unusedVariables false
set_option linter.unusedSimpArgs false
namespace Go.Proofs.YtidiofobanefmaaGreatDoor
open Go Go.Proofs Go.Proofs.Tryz Go.IntWalk
def bn (k:Int):Nat:=if k=6 then 1 else if k=8 then 1 else if k=9 then 2 else 0
theorem NX (k:Int):bn k<=2:=by
 unfold bn;split
 ·decide
 ·split
  ·decide
  ·split<;>decide
mutual
def Tm.bd:Tm->Nat
 | .mk k _ _ _ _ _ l=>bn k+M8 l
def M8:List Tm->Nat
 | []=>0
 | t::ts=>max t.bd (M8 ts)
end
mutual
def Tm.wt:Tm->Nat
 | .mk k _ _ _ ty re l=>1+ty.cnt+re.cnt+2 ^ bn k*qL l
def qL:List Tm->Nat
 | []=>0
 | t::ts=>t.wt+qL ts
end
theorem NE (k:Int)(n:Nat):n<=2 ^ bn k*n:=Nat.le_mul_of_pos_left _ (Nat.two_pow_pos _)
theorem GE {f:Tm->Nat}:∀ {l:List Tm},(∀ x∈l,f x<=x.wt)->(l.map f).sum<=qL l
 | [],_=>by simp[qL]
 | t::ts,h=>by have J:=h t (by simp);have O:=GE (l:=ts) λx I=>h x (by simp[I]);simp only[o7,List.sum_cons,qL];omega
theorem B6:∀ l:List Tm,xZ l=(l.map Tm.cnt).sum
 | []=>rfl
 | t::ts=>by simp only[xZ,o7,List.sum_cons,B6 ts]
theorem Tm.cnt_wt:∀ t:Tm,t.cnt<=t.wt:=by
 refine Tm.ind λk nm ot n ty re l I=>?_;have h:=GE I
 have:=NE k (qL l)
 simp only[Tm.cnt,Tm.wt,B6];omega
def Eu (l:List Int):List D:=l.map λn=>.j n
theorem Hz (l:List Int):(Eu l).length=l.length:=by simp[Eu]
end Go.Proofs.YtidiofobanefmaaGreatDoor
set_option maxRecDepth 100000
namespace Go.Proofs.YtidiofobanefmaaGreatDoor
open Go Go.Proofs Go.Proofs.Tryz Go.IntWalk
theorem Hv {l:List D}{i:Nat}(h:i<l.length):l.getD i default∈l:=by rw[oA,oF h];exact mO h
structure Cu (es:List D) (i:Int):Prop where
 b:∀ d∈es,∃ n:Int,d=.lit (.int .u8 n)
 l:es.length<=1073741824
 lo:0<=i
 hi:i<=es.length
theorem FY (x:Int):0<=IntKind.i64.wrap ((BitVec.ofInt 64 x &&& BitVec.ofInt 64 255).toNat:Int)/\IntKind.i64.wrap ((BitVec.ofInt 64 x &&& BitVec.ofInt 64 255).toNat:Int)<=255:=by
 have h:(BitVec.ofInt 64 x &&& BitVec.ofInt 64 255).toNat<=255:=by rw[BitVec.toNat_and];exact o8 Nat.and_le_right (by decide)
 rw[i64_in _ (by omega)];omega
theorem LF {es:List D} (hb:∀ d∈es,∃ n:Int,d=.lit (.int .u8 n)) (hl:es.length<=1073741824) (a:Option Addr) (c:Nat) (N:Nat) (Q:QT [.cu])
  (O:∀ h N',N<=N'->Cu es 0->Q a es c 0 h N'):ACalls prog 17 [.cu] [.sv a 0 es c] N Q:=by
 refine EP N a es c Q λ_=>?_;have fin:∀ h N',N<=N'->Q a es c 0 h N':=λh N' I=>O h N' I ⟨hb,hl,by omega,by omega⟩;have key:∀(n i:Nat) (h:Int) (N':Nat),i+n=es.length->N<=N'->xo Q N a es c h i N':=by
  intro n
  induction n with
  | zero=>intro i h N' hi I;refine tU ?_;rw[nV (by omega)];exact λN1 J=>fin _ _ (by omega)
  | succ n U=>
    intro i h N' hi I;refine tU ?_;rw[nU (by omega)];rw[Y3];rcases Int.lt_or_le (i:Int) 4000 with h4 | h4
    rotate_left
    ·rw[nV (by omega)];exact λN1 J=>fin _ _ (by omega)
    rw[nU h4,Y3];refine And.intro ⟨by omega,by omega⟩ ?_;rw[oX];obtain⟨x,V⟩:=hb (es.getD i default) (Hv (by omega));refine⟨x,V,?_⟩;rw[i64_in ((i:Int)+1) (by omega)];exact U (i+1) _ N' (by omega) I
 exact key es.length 0 _ N (by omega) (oJ _)
theorem Da {es:List D} {i:Int} (hc:Cu es i) (a:Option Addr) (c:Nat) (h:Int) (N:Nat) (Q:QT [.i,.sl 0,.i,.i])
  (U:∀ x V J Y i' Z N',N<=N'->Cu J i'->0<=x->x<=255->Q x V J Y i' Z N'):BCalls prog 71 [.i,.sl 0,.i,.i] [.pb 0 0 0 0] [.var [.sv a 0 es c,.j i,.j h]] N Q:=by
 have h1:=hc.lo;have h2:=hc.hi;have h3:=hc.l;refine q9 N a es c i h Q λE _=>⟨by omega,by omega,Br.dec (λO=>⟨⟨h1,O⟩,?_⟩) λ_=>⟨zG,λN1 I=>U _ _ _ _ _ _ _ I hc (FY _).1 (FY _).2⟩⟩
 obtain⟨x,hx⟩:=hc.b (es.getD i.toNat default) (Hv (by omega));refine⟨x,hx,zG,λN1 I=>U _ _ _ _ _ _ _ I ?_ (FY _).1 (FY _).2⟩;rw[i64_in (i+1) (by omega)];exact⟨hc.b,hc.l,by omega,by omega⟩
theorem xj {es:List D} {i:Int} (hc:Cu es i) (n:Int) (hn:n<=4294967296) (a:Option Addr) (c:Nat) (h:Int) (N:Nat) (Q:QT [.i,.sl 0,.i,.i])
  (hQ:∀ x O J U i' V N',N<=N'->Cu J i'->0<=x->(0<n->x<n)->(n<=0->x=0)->Q x O J U i' V N'):BCalls prog 32 [.i,.sl 0,.i,.i] [.pb 0 0 0 0,.j n] [.var [.sv a 0 es c,.j i,.j h]] N Q:=by
 have Z:∀ x:Int,0<=x->0<n->0<=Int.tmod x n/\Int.tmod x n<n:=λx hx h0=>⟨Int.tmod_nonneg _ hx,Int.tmod_lt_of_pos _ h0⟩
 refine qT N n a es c i h Q λE _=>Br.dec (λh0=>⟨zG,λN1 Y=>hQ _ _ _ _ _ _ _ Y hc (by omega) (by omega) λ_=>rfl⟩) λh0=>Br.dec (λhs N1 Y=>?_) λhs N1 Y=>?_
 ·exact Da hc a c h N1 _ λx O J U i' V N2 aa I x0 x1 _ _=>⟨by omega,zG,λN3 ab=>hQ _ _ _ _ _ _ _ (by omega) I (Z x x0 (by omega)).1 (λg=>(Z x x0 g).2) λg=>by omega⟩
 ·refine Da hc a c h N1 _ λx O J U i' V N2 aa I x0 x1 _ _ N3 ab=>?_;refine Da I O U V N3 _ λy O J U i' V N4 ac I y0 y1 _ _ N5 ae=>?_;refine Da I O U V N5 _ λz O J U i' V N6 ah I z0 z1 _ _ N7 ai=>?_;refine Da I O U V N7 _ λw O J U i' V N8 aj I w0 w1 _ _=>⟨by omega,zG,λN9 ak=>?_⟩
  have e:IntKind.i64.wrap (IntKind.i64.wrap (IntKind.i64.wrap (IntKind.i64.wrap (x*16777216)+IntKind.i64.wrap (y*65536))+IntKind.i64.wrap (z*256))+w)=x*16777216+y*65536+z*256+w:=by rw[i64_in (x*16777216) (by omega),i64_in (y*65536) (by omega),i64_in (z*256) (by omega),i64_in (x*16777216+y*65536) (by omega),i64_in (x*16777216+y*65536+z*256) (by omega),i64_in _ (by omega)]
  have hq:=hQ (Int.tmod (x*16777216+y*65536+z*256+w) n) O J U i' V N9 (by omega) I (Z _ (by omega) (by omega)).1 (λg=>(Z _ (by omega) g).2) λg=>by omega
  rw[<-e]at hq;exact hq
theorem Hj {es:List D} {i:Int} (hc:Cu es i) (n:Int) (Y:n<=4294967296) (a:Option Addr) (c:Nat) (h:Int) (N:Nat) (Q:QT [.bool,.sl 0,.i,.i])
  (Z:∀ b O I U i' V N',N<=N'->Cu I i'->Q b O I U i' V N'):BCalls prog 68 [.bool,.sl 0,.i,.i] [.pb 0 0 0 0,.j n] [.var [.sv a 0 es c,.j i,.j h]] N Q:=
 pA N n a es c i h Q λE _ N1 aa=>xj hc n Y a c h N1 _ λx O I U i' V N2 ab J _ _ _ _ _=>⟨zG,λN3 ac=>Z _ _ _ _ _ _ _ (by omega) J⟩
theorem qZ {es:List D} {i:Int} (hc:Cu es i) (l:List ByteArray) (h0:0<l.length) (hl:l.length<=4294967296) (a:Option Addr) (c:Nat) (h:Int) (k q:Nat) (N:Nat) (Q:QT [.str,.sl 0,.i,.i,.sl 0])
  (hQ:∀ s U I V i' Y N',N<=N'->Cu I i'->s∈l->Q s U I V i' Y none (zD l) q N'):BCalls prog 34 [.str,.sl 0,.i,.i,.sl 0] [.pb 0 0 0 0,.sb 1 0 0 l.length k] [.var [.sv a 0 es c,.j i,.j h],.arr 9 0 (zD l) q] N Q:=by
 have aa:=yz l;refine pC N l.length k a es c i h (zD l) q Q λE _ _ N1 ab=>?_;refine xj hc l.length (by omega) a c h N1 _ λx U I V i' Y N2 ac J x0 O _ _ _=>?_;have O:=O (by omega);have Z:x.toNat<l.length:=by omega
 refine⟨⟨x0,O,by omega⟩,by omega,l[x.toNat],?_,zG,λN3 ae=>hQ _ _ _ _ _ _ _ (by omega) J (mO Z)⟩;simp[zD,oA,oE,oF Z]
theorem uD {es:List D} {i:Int} (hc:Cu es i) (l:List Int) (h0:0<l.length) (hl:l.length<=4294967296) (a:Option Addr) (c:Nat) (h:Int) (k q:Nat) (N:Nat) (Q:QT [.i,.sl 0,.i,.i,.sl 0])
  (hQ:∀ s U I V i' Y N',N<=N'->Cu I i'->s∈l->Q s U I V i' Y none (Eu l) q N'):BCalls prog 33 [.i,.sl 0,.i,.i,.sl 0] [.pb 0 0 0 0,.sb 1 0 0 l.length k] [.var [.sv a 0 es c,.j i,.j h],.arr 3 0 (Eu l) q] N Q:=by
 have aa:=Hz l;refine tw N l.length k a es c i h (Eu l) q Q λE _ _ N1 ab=>?_;refine xj hc l.length (by omega) a c h N1 _ λx U I V i' Y N2 ac J x0 O _ _ _=>?_;have O:=O (by omega);have Z:x.toNat<l.length:=by omega
 refine⟨⟨x0,O,by omega⟩,by omega,l[x.toNat],?_,zG,λN3 ae=>hQ _ _ _ _ _ _ _ (by omega) J (mO Z)⟩;simp[Eu,oA,oE,oF Z]
end Go.Proofs.YtidiofobanefmaaGreatDoor
set_option maxRecDepth 100000
namespace Go.Proofs.YtidiofobanefmaaGreatDoor
open Go Go.Proofs Go.Proofs.Tryz Go.IntWalk
def Some (m:Nat)(d:D):Prop:=∃ t:Tm,t.Is d/\t.wt<=m
def SomB (m:Nat)(d:D):Prop:=∃ t:Tm,t.Is d/\t.cnt<=m/\t.bd<=20
theorem SomB.mono {m n:Nat}{d:D}(h:SomB m d)(O:m<=n):SomB n d:=by obtain⟨t,I,U,J⟩:=h;exact⟨t,I,by omega,J⟩
theorem Some.mono {m n:Nat}{d:D}(h:Some m d)(J:m<=n):Some n d:=by obtain⟨t,I,O⟩:=h;exact⟨t,I,by omega⟩
end Go.Proofs.YtidiofobanefmaaGreatDoor
set_option maxRecDepth 100000
namespace Go.Proofs.YtidiofobanefmaaGreatDoor
open Go Go.Proofs Go.Proofs.Tryz Go.IntWalk
def SmT (m:Nat)(d:D):Prop:=∃ t:Ty,t.Is d/\t.cnt<=m
theorem SmT.mono {m n:Nat}{d:D}(h:SmT m d)(J:m<=n):SmT n d:=by obtain⟨t,I,O⟩:=h;exact⟨t,I,by omega⟩
theorem SmT.cells {m:Nat}{d:D}(h:SmT m d):SmT m (.ag [d.cell 0,d.cell 1]):=by obtain⟨t,I,J⟩:=h;exact⟨t,Ty.is_cells I,J⟩
def Ex (d:D):Prop:=∃ k a es c,d=.ag [.j k,.sl a 2 es c]/\(c=es.length/\es.length<=1000)
theorem FJ (k:Int):SmT 1 (.ag [.j k,.sl none 2 [] 0]):=⟨_,vG k,by simp[Ty.cnt,yM]⟩
theorem Hi {m:Nat}(hm:m<=1073741824){d:D}(hd:SmT m d)(N:Nat)(Q:QT [.ag 2])(J:∀ I N',N<=N'->SmT (1+m) I->Ex I->Q I N'):ACalls prog 73 [.ag 2] [.dg 2 d] N Q:=by
 obtain⟨t,O,h2⟩:=hd;refine C8 N d Q λ_ N1 U=>vP t d O (by omega) N1 _ λx N2 V Y _ _ _=>⟨⟨rfl,rfl⟩,⟨rfl,rfl⟩,⟨rfl,rfl⟩,λa N3 Z _ N4 aa=>J _ _ (by omega) ⟨vK t,Ty.is_mk.2 ⟨_,_,_,rfl,by simp,x,[],rfl,Y,rfl⟩,?_⟩ ⟨_,_,_,_,rfl,rfl,by simp⟩⟩
 simp only[vK,Ty.cnt,yM];omega
theorem KZ {m:Nat}(hm:m<=1073741824){d e:D}(hd:SmT m d)(J:SmT m e)(N:Nat)(Q:QT [.ag 2])(O:∀ I N',N<=N'->SmT (1+2*m) I->Ex I->Q I N'):ACalls prog 74 [.ag 2] [.dg 2 d,.dg 2 e] N Q:=by
 obtain⟨t,U,h2⟩:=hd;obtain⟨u,V,h4⟩:=J;refine EQ N d e Q λ_ _ N1 Y=>vP t d U (by omega) N1 _ λx N2 Z hx _ _ _ N3 aa=>vP u e V (by omega) N3 _ λy N4 ab hy _ _ _=>⟨⟨rfl,rfl⟩,⟨rfl,rfl⟩,⟨rfl,rfl⟩,λa N5 ac _ N6 ae=>O _ _ (by omega) ⟨B5 t u,Ty.is_mk.2 ⟨_,_,_,rfl,by simp,x,[y],rfl,hx,y,[],rfl,hy,rfl⟩,?_⟩ ⟨_,_,_,_,rfl,rfl,by simp⟩⟩
 simp only[B5,Ty.cnt,yM];omega
def TyC (b:Int) (X:Nat):Prop:=∀(n:Int),n<=b->∀ {es:List D} {i:Int} (_:Cu es i) (a:Option Addr) (c:Nat) (h:Int) (N:Nat) (Q:QT [.ag 2,.sl 0,.i,.i])
    (_:∀ J O I U i' V N',N<=N'->Cu I i'->SmT X J->Ex J->Q J O I U i' V N'),BCalls prog 70 [.ag 2,.sl 0,.i,.i] [.pb 0 0 0 0,.j n] [.var [.sv a 0 es c,.j i,.j h]] N Q
theorem NB:TyC 1 1:=λn hn es i I a c h N Q O=>by refine vm N n a es c i h Q λE _=>Br.dec (λ_ N1 U=>?_) λg=>absurd (by omega) g;exact uD (l:=[1,1,2]) I (by decide) (by decide) a c h 3 3 N1 _ λk a' V c' i' h' N2 Y J _ _ _ _=>⟨zG,λN3 Z=>O _ _ _ _ _ _ _ (by omega) J (FJ k) ⟨_,_,_,_,rfl,rfl,by simp⟩⟩
theorem FP {b:Int}{X:Nat}(hb:b<=1000)(hX:1<=X)(a7:X<=1000000)(ih:TyC b X):TyC (b+1) (1+2*X):=λn hn es i I a c h N Q hQ=>by
 have pk:∀(E:Env) {es:List D} {i:Int} (_:Cu es i) a c h N1,N<=N1->BCalls prog 33 [.i,.sl 0,.i,.i,.sl 0] [.pb 0 0 0 0,.sb 1 0 0 3 3] [.var [.sv a 0 es c,.j i,.j h],.arr 3 0 (Eu [1,1,2]) 3] N1
   (λn a es c ab ac ae V ah U=>N1<=U->Bel U (D.sl a 0 es c)->Bel U (D.sl ae 0 V ah)->zC E [.var [.sv none 0 [] 0,.j 0,.j 0]]/\∀ N3,U<=N3->Q (D.ag [D.j n,D.sl Option.none 2 [] 0]) a es c ab ac N3):=λE es i I a c h N1 J=>
  uD (l:=[1,1,2]) I (by decide) (by decide) a c h 3 3 N1 _ λk a' a8 c' i' h' U ai aj _ _ _ _=>⟨zG,λN3 Y=>hQ _ _ _ _ _ _ _ (by omega) aj ((FJ k).mono (by omega)) ⟨_,_,_,_,rfl,rfl,by simp⟩⟩
 refine vm N n a es c i h Q λE _=>Br.dec (λ_ N1 J=>pk E I _ _ _ N1 J) λba N1 J=>Hj I 2 (by omega) a c h N1 _ λb1 a1 bb c1 i1 h1 U ai Z _ _=>Br.of (λ_ N3 Y=>pk E Z _ _ _ N3 (by omega)) λ_ N3 Y=>?_;refine Hj Z 2 (by omega) a1 c1 h1 N3 _ λb2 a2 bc c2 i2 h2 N4 bg aa _ _=>Br.of (λ_ N5 ak=>?_) λ_ N5 ak=>?_
 ·rw[i64_in (n - 1) (by omega)];exact ih (n - 1) (by omega) aa a2 c2 h2 N5 _ λd a3 al c3 i3 h3 N6 ao O hd _ _ _ _ N7 aq=>Hi (by omega) hd N7 _ λe N8 au he hx _ _=>⟨zG,λN9 aw=>hQ _ _ _ _ _ _ _ (by omega) O (he.mono (by omega)) hx⟩
 ·rw[i64_in (n - 1) (by omega)];refine ih (n - 1) (by omega) aa a2 c2 h2 N5 _ λd a3 al c3 i3 h3 N6 ao O hd _ _ _ _ N7 aq=>?_;exact ih (n - 1) (by omega) O a3 c3 h3 N7 _ λd2 a4 bh c4 i4 h4 N8 au ax ay _ _ _ _ N9 aw=>KZ (by omega) hd ay N9 _ λe bi az he hx _ _=>⟨zG,λbj a6=>hQ _ _ _ _ _ _ _ (by omega) ax he hx⟩
theorem EG:TyC 2 3:=FP (b:=1) (by omega) (by omega) (by omega) NB
theorem L1:TyC 4 15:=FP (b:=3) (by omega) (by omega) (by omega) (FP (b:=2) (by omega) (by omega) (by omega) EG)
theorem LE {es:List D} {i:Int} (I:Cu es i) (a:Option Addr) (c:Nat) (h:Int) (N:Nat) (Q:QT [.ag 2,.sl 0,.i,.i])
  (hQ:∀ d' a' ac c' i' h' N',N<=N'->Cu ac i'->SmT 200 d'->Q d' a' ac c' i' h' N'):BCalls prog 36 [.ag 2,.sl 0,.i,.i] [.pb 0 0 0 0] [.var [.sv a 0 es c,.j i,.j h]] N Q:=by
 refine pD N a es c i h Q λE _ N1 aq=>L1 4 (by omega) I a c h N1 _ λd a1 au c1 i1 h1 N2 aw ai hd hx _ _ _ N3 ax=>?_;have lc:∀(m:Nat) (y:D) (a es c i h) (N':Nat) (n4 n5:Int),n4<=n5+m->0<=n5->n4<=1000->m<=6->N<=N'->Cu es i->SmT (21 - m) y->yf E Q N n4 n5 a es c i h 0 none [] 0 y N':=by
  intro m
  induction m with
  | zero=>intro y a es c i h N' n4 n5 h1 h2 h5 h6 h3 I O;exact vi _ _ _ _ _ _ _ _ _ _ _ _ _ _ _ _ (Br.dec (λg=>by omega) λ_=>⟨zG,λZ J=>hQ _ _ _ _ _ _ _ (by omega) I (O.mono (by omega))⟩)
  | succ m aa=>intro y a es c i h N' n4 n5 h1 h2 h5 h6 h3 I O;refine vi _ _ _ _ _ _ _ _ _ _ _ _ _ _ _ _ (Br.dec (λg Z J=>Hi (by omega) O Z _ λe N5 U he _ _ _=>?_) λ_=>⟨zG,λZ J=>hQ _ _ _ _ _ _ _ (by omega) I (O.mono (by omega))⟩);rw[i64_in (n5+1) (by omega)];exact aa _ _ _ _ _ _ _ _ _ (by omega) (by omega) (by omega) (by omega) (by omega) I (he.mono (by omega))
 have lf:∀(m k:Nat) (y:D) (a es c i h) (N':Nat),m+k=3->N<=N'->Cu es i->SmT (16*2 ^ k - 1) y->yg E Q N k a es c i h 0 none [] 0 y N':=by
  have p3:∀ k:Nat,k<=3->2 ^ k<=8:=λk hk=>by rcases(by omega:k=0\/k=1\/k=2\/k=3)with rfl | rfl | rfl | rfl<;>decide
  intro m
  induction m with
  | zero=>
    intro k y a es c i h N' h1 h3 I O
    have:=p3 k (by omega)
    exact vk _ _ _ _ _ _ _ _ _ _ _ _ _ _ _ (Br.dec (λg=>by omega) λ_=>⟨zG,λZ J=>hQ _ _ _ _ _ _ _ (by omega) I (O.mono (by omega))⟩)
  | succ m aa=>
    intro k y a es c i h N' h1 h3 I O
    have:=p3 k (by omega)
    have h0:1<=2 ^ k:=Nat.one_le_two_pow;refine vk _ _ _ _ _ _ _ _ _ _ _ _ _ _ _ (Br.dec (λg Z J=>KZ (by omega) O O Z _ λe N5 U he _ _ _=>?_) λ_=>⟨zG,λZ J=>hQ _ _ _ _ _ _ _ (by omega) I (O.mono (by omega))⟩);rw[i64_in ((k:Int)+1) (by omega)];exact aa (k+1) _ _ _ _ _ _ _ (by omega) (by omega) I (he.mono (by rw[mX];omega))
 obtain⟨k,ra,rs,rc,rfl,aj,ay⟩:=hx;obtain⟨t,ht,ae⟩:=hd;obtain⟨k',l,rfl⟩:∃ k l,t=Ty.mk k l:=by cases t;exact⟨_,_,rfl⟩
 obtain⟨_,_,_,he,hl,V⟩:=Ty.is_mk.1 ht;cases he;simp only[Ty.cnt]at ae;refine xj ai 10 (by omega) a1 c1 h1 N3 _ λx a2 az c2 i2 h2 Z J Y _ _ _ _ _=>Br.beq (λ_ N5 U=>?_) λ_=>Br.beq (λ_=>⟨_,_,_,rfl,λN5 U=>?_⟩) λ_=>Br.beq (λ_ N5 U=>?_) λ_=>Br.beq (λ_=>?_) λ_=>⟨zG,λN5 U=>hQ _ _ _ _ _ _ _ (by omega) Y ⟨_,ht,by simp only[Ty.cnt];omega⟩⟩
 ·exact xj Y 6 (by omega) a2 c2 h2 N5 _ λy a3 ak c3 i3 h3 N6 ah ab _ _ _ _ _=>⟨zG,λN7 al=>hQ _ _ _ _ _ _ _ (by omega) ab ⟨.mk y l,Ty.is_mk.2 ⟨_,_,_,rfl,hl,V⟩,by simp only[Ty.cnt];omega⟩⟩
 ·refine qX N5 _ λy N6 ah O _ _ _=>⟨?_,by unfold zA;rw[oH];simp only[oN,oa];omega,λc4=>⟨⟨rfl,rfl⟩,⟨rfl,rfl⟩,⟨rfl,rfl⟩,⟨rfl,rfl⟩,λa4 N7 al _=>⟨zG,λN8 a6=>hQ _ _ _ _ _ _ _ (by omega) Y ⟨.mk k (l++[tInt]),Ty.is_mk.2 ⟨_,_,_,rfl,by simp;omega,V.snoc O⟩,?_⟩⟩⟩⟩
  ·unfold KT;split
   ·trivial
   ·exact⟨aj,by simp⟩
  ·have:yM (l++[tInt])=yM l+1:=by
    clear ht ae V hl
    induction l with
    | nil=>rfl
    | cons u l ao=>simp only[nA,yM,ao];omega
   simp only[Ty.cnt];omega
 ·refine xj Y 6 (by omega) a2 c2 h2 N5 _ λy a3 ak c3 i3 h3 N6 ah ab y0 y1 _ _ _=>?_;have y1:=y1 (by omega);simp only[i64_in (1+y) (by omega)];exact lc 6 _ _ _ _ _ _ _ _ _ (by omega) (by omega) (by omega) (by omega) (by omega) ab ⟨_,ht,by simp only[Ty.cnt];omega⟩
 ·exact lf 3 0 _ _ _ _ _ _ _ (by omega) (by omega) Y ⟨_,ht,by simp only[Ty.cnt];omega⟩
def PkT (m:Nat)(s I:ByteArray)(x J O U:D)(es:List D):Prop:=∃(ty re:Ty) (l:List Tm),s.size<=4611686018427387904/\I.size<=4611686018427387904/\ty.Is (.ag [x,J])/\re.Is (.ag [O,U])/\All2 Tm.Is l es/\es.length<=1000/\1+ty.cnt+re.cnt+4*qL l<=m
theorem PkT.some {m:Nat}{s I:ByteArray}{x J O U:D}{es:List D}(h:PkT m s I x J O U es)(k n:Int)(a:Option Addr)(c:Nat):Some m (.ag [.j k,.t s,.t I,.j n,x,J,O,U,.sl a 9 es c]):=by obtain⟨ty,re,l,V,Y,Z,h4,h5,h6,h7⟩:=h;exact⟨.mk k s I n ty re l,Tm.is_mk.2 ⟨_,_,_,_,_,_,_,rfl,⟨V,Y,Z,h4⟩,by omega,h5⟩,by have h8:2 ^ bn k<=2 ^ 2:=mN (by omega) (NX k);have h9:=oi (qL l) h8;simp only[Tm.wt];omega⟩
theorem PkT.mono {m n:Nat}{s I:ByteArray}{x J O U:D}{es:List D}(h:PkT m s I x J O U es)(hn:m<=n):PkT n s I x J O U es:=by obtain⟨ty,re,l,V,Y,Z,h4,h5,h6,h7⟩:=h;exact⟨ty,re,l,V,Y,Z,h4,h5,h6,by omega⟩
theorem PkT.name {m:Nat}{s I:ByteArray}{x J O U:D}{es:List D}(h:PkT m s I x J O U es){t:ByteArray}(ht:t.size<=1000):PkT m t I x J O U es:=by obtain⟨ty,re,l,h1,V,Y,Z,h5,h6,h7⟩:=h;exact⟨ty,re,l,by omega,V,Y,Z,h5,h6,h7⟩
theorem PkT.other {m:Nat}{s U:ByteArray}{x I J O:D}{es:List D}(h:PkT m s U x I J O es){t:ByteArray}(ht:t.size<=1000):PkT m s t x I J O es:=by obtain⟨ty,re,l,V,h2,Y,Z,h5,h6,h7⟩:=h;exact⟨ty,re,l,V,by omega,Y,Z,h5,h6,h7⟩
theorem PkT.type {m M:Nat}{s I:ByteArray}{x V J O y U:D}{es:List D}(h:PkT m s I x V J O es)(Y:SmT M (.ag [y,U])):PkT (m+M) s I y U J O es:=by obtain⟨ty,re,l,Z,h2,h3,h4,h5,h6,h7⟩:=h;obtain⟨t,h8,h9⟩:=Y;exact⟨t,re,l,Z,h2,h8,h4,h5,h6,by omega⟩
theorem B7 (t:Tm):∀ l:List Tm,qL (l++[t])=qL l+t.wt
 | []=>by simp[qL]
 | x::l=>by simp only[nA,qL,B7 t l];omega
theorem PkT.snoc {m M:Nat}{s I:ByteArray}{x J O U d:D}{es:List D}(h:PkT m s I x J O U es)(hd:Some M d)(hl:es.length<=999):PkT (m+4*M) s I x J O U (es++[d]):=by obtain⟨ty,re,l,V,Y,Z,h4,h5,h6,h7⟩:=h;obtain⟨t,h8,h9⟩:=hd;exact⟨ty,re,l++[t],V,Y,Z,h4,h5.snoc h8,by simp;omega,by rw[B7];omega⟩
theorem Bt {s I:ByteArray}(hs:s.size<=1000)(V:I.size<=1000){x J O U:D}(Y:SmT 7 (.ag [x,J]))(Z:SmT 7 (.ag [O,U])):PkT 15 s I x J O U []:=by obtain⟨t,h3,h4⟩:=Y;obtain⟨u,h5,h6⟩:=Z;exact⟨t,u,[],by omega,by omega,h3,h5,rfl,by simp,by simp only[qL];omega⟩
theorem FK:SmT 7 (.ag [D.j 0,D.sl none 2 [] 0]):=(FJ 0).mono (by omega)
def FU (b:Int) (X:Nat):Prop:=∀(n:Int),n<=b->∀ {es:List D} {i:Int} (_:Cu es i) (a:Option Addr) (c:Nat) (h:Int) (N:Nat) (Q:QT [.pk,.i,.str,.str,.i,.dc,.dc,.dc,.dc,.row 29 9,.sl 0,.i,.i])
    (_:∀ k s J n' x O U V r q Y I Z i' h' N',N<=N'->Cu I i'->PkT X s J x O U V r->r.length<=3->Q k s J n' x O U V r q Y I Z i' h' N'),BCalls prog 31 [.pk,.i,.str,.str,.i,.dc,.dc,.dc,.dc,.row 29 9,.sl 0,.i,.i] [.pb 0 0 0 0,.j n] [.var [.sv a 0 es c,.j i,.j h]] N Q
theorem Ka {es:List D} {i:Int} (ae:Cu es i) (a:Option Addr) (c:Nat) (h:Int) (N:Nat) (Q:QT [.pk,.i,.str,.str,.i,.dc,.dc,.dc,.dc,.row 29 9,.sl 0,.i,.i])
  (hQ:∀ k s s1 n' x x1 x2 x3 r q a' O c' i' h' N',N<=N'->Cu O i'->PkT 15 s s1 x x1 x2 x3 r->r.length<=3->Q k s s1 n' x x1 x2 x3 r q a' O c' i' h' N'):BCalls prog 69 [.pk,.i,.str,.str,.i,.dc,.dc,.dc,.dc,.row 29 9,.sl 0,.i,.i] [.pb 0 0 0 0] [.var [.sv a 0 es c,.j i,.j h]] N Q:=by
 have z:PkT 15 (bytes []) (bytes []) (D.j 0) (D.sl none 2 [] 0) (D.j 0) (D.sl none 2 [] 0) []:=Bt (by decide) (by decide) FK FK;refine pI N a es c i h Q λE _ N1 ah=>xj ae 4 (by omega) a c h N1 _ λx a1 ai c1 i1 h1 N2 aj J _ _ _ _ _=>Br.beq (λ_ N3 U=>?_) λ_=>Br.beq (λ_ N3 U=>?_) λ_ N3 U=>?_
 ·exact uD (l:=[0,1,2,3,10006]) J (by decide) (by decide) a1 c1 h1 5 5 N3 _ λk a2 V c2 i2 h2 N4 Y I _ _ _ _ Z aa=>BT Z k _ λN6 ab _ _=>⟨zG,⟨rfl,rfl⟩,λN7 ac=>hQ _ _ _ _ _ _ _ _ _ _ _ _ _ _ _ _ (by omega) I z (by simp)⟩
 ·exact xj J 2 (by omega) a1 c1 h1 N3 _ λk a2 V c2 i2 h2 N4 Y I _ _ _ _ _ Z aa=>A1 Z k _ λN6 ab _ _=>⟨zG,⟨rfl,rfl⟩,λN7 ac=>hQ _ _ _ _ _ _ _ _ _ _ _ _ _ _ _ _ (by omega) I z (by simp)⟩
 ·refine qZ (l:=[bytes [120],bytes [121],bytes [102]]) J (by decide) (by decide) a1 c1 h1 3 3 N3 _ λs a2 V c2 i2 h2 N4 Y I hs _ _ _ Z aa=>tY Z s _ λN6 ab _ _=>⟨zG,⟨rfl,rfl⟩,λN7 ac=>hQ _ _ _ _ _ _ _ _ _ _ _ _ _ _ _ _ (by omega) I (z.name ?_) (by simp)⟩
  simp only[oG,nX,mZ]at hs;rcases hs with rfl | rfl | rfl<;>decide
theorem K4:FU 1 15:=λn hn es i I a c h N Q O=>uj N n a es c i h Q λE _=>Br.dec (λ_ N1 U=>Ka I a c h N1 _ λk s s1 n' x x1 x2 x3 r q a' V c' i' h' N2 Y J Z hr _ _ _=>⟨zG,⟨rfl,rfl⟩,λN3 aa=>O _ _ _ _ _ _ _ _ _ _ _ _ _ _ _ _ (by omega) J Z hr⟩) λg=>absurd (by omega) g
theorem NT {b:Int} {X:Nat} (hb:b<=1000) (hX:15<=X) (ih:FU b X) {E:Env} {N:Nat} {Q:QT [.pk,.i,.str,.str,.i,.dc,.dc,.dc,.dc,.row 29 9,.sl 0,.i,.i]} {n:Int} (hn:n - 1<=b) (ah:2<=n) (kd n3:Int) (s J:ByteArray) (O U V Y:D) {m6:Int} (hm:m6<=3)
  (hQ:∀ r q a es c i h N',N<=N'->Cu es i->PkT (15+3*(4*X)) s J O U V Y r->r.length<=3->Q kd s J n3 O U V Y r q a es c i h N') :
  ∀(rem k:Nat) (r:List D) (q:Nat) a es c i h N',m6<=k+rem->k<=3->r.length=k->N<=N'->Cu es i->PkT (15+k*(4*X)) s J O U V Y r->xK E Q N n m6 k a es c i h 0 (bytes []) (bytes []) 0 0 none [] 0 0 none [] 0 none [] 0 kd s J n3 O U V Y r.length q r q N':=by
 intro rem
 induction rem with
 | zero=>intro k r q a es c i h N' h1 Z h3 h4 I hp;have hk:k*(4*X)<=3*(4*X):=oi _ Z;refine uS _ _ _ _ _ _ _ _ _ _ _ _ _ _ _ _ _ _ _ _ _ _ _ _ _ _ _ _ _ _ _ _ _ _ _ _ _ _ _ (Br.dec (λg=>by omega) λ_=>⟨zG,⟨rfl,rfl⟩,λN4 aa=>hQ _ _ _ _ _ _ _ _ (by omega) I (hp.mono (by omega)) (by omega)⟩)
 | succ rem ab=>
   intro k r q a es c i h N' h1 Z h3 h4 I hp;have hk:k*(4*X)<=3*(4*X):=oi _ Z;refine uS _ _ _ _ _ _ _ _ _ _ _ _ _ _ _ _ _ _ _ _ _ _ _ _ _ _ _ _ _ _ _ _ _ _ _ _ _ _ _ (Br.dec (λg N1 ai=>?_) λ_=>⟨zG,⟨rfl,rfl⟩,λN4 aa=>hQ _ _ _ _ _ _ _ _ (by omega) I (hp.mono (by omega)) (by omega)⟩);rw[i64_in (n - 1) (by omega)];refine ih (n - 1) hn I a c h N1 _ λk' t t1 n' y y1 y2 y3 aj c' a' ak c2 i2 Z N2 al ac ae _ _ _ _=>⟨⟨rfl,rfl⟩,λa1 N3 ao _=>⟨⟨rfl,rfl⟩,by unfold zA;rw[oH];simp only[oN,oa];omega,λc3=>?_⟩⟩
   rw[i64_in ((k:Int)+1) (by omega)];exact ab (k+1) _ c3 _ _ _ _ _ _ (by omega) (by omega) (by simp[h3]) (by omega) ac ((hp.snoc (ae.some _ _ _ _) (by omega)).mono (by rw[nE,md];omega))
theorem NS {b:Int} {X:Nat} (hb:b<=1000) (hX:15<=X) (ih:FU b X) {E:Env} {N:Nat} {Q:QT [.pk,.i,.str,.str,.i,.dc,.dc,.dc,.dc,.row 29 9,.sl 0,.i,.i]} {n:Int} (hn:n - 1<=b) (J:2<=n) (O n3:Int) {s I:ByteArray} (hs:s.size<=1000) (U:I.size<=1000) (V Y Z x7:D) (hT:SmT 7 (.ag [V,Y])) (hR:SmT 7 (.ag [Z,x7]))
  (hQ:∀ k s I n' x x1 x2 x3 r q a es c i h N',N<=N'->Cu es i->PkT (15+3*(4*X)) s I x x1 x2 x3 r->r.length<=3->Q k s I n' x x1 x2 x3 r q a es c i h N') {es:List D} {i:Int} (aa:Cu es i) (a:Option Addr) (c:Nat) (h:Int) {N':Nat} (ab:N<=N') :
  wS E Q N n a es c i h 0 (bytes []) (bytes []) 0 0 none [] 0 0 none [] 0 none [] 0 O s I n3 V Y Z x7 0 0 [] 0 N':=by
 refine AL _ _ _ _ _ _ _ _ _ _ _ _ _ _ _ _ _ _ _ _ _ _ _ _ _ _ _ _ _ _ _ _ _ _ _ _ _ ⟨⟨rfl,rfl⟩,λa7 _ N1 ac _=>yU N1 _ λN2 ae _=>NT hb hX ih hn J O n3 s I V Y Z x7 (v8 _ _) (λr q a es c i h N'=>hQ _ _ _ _ _ _ _ _ r q a es c i h N') 3 0 [] 0 a es c i h N2 (by have:=v8 O s;omega) (by omega) rfl (by omega) aa ((Bt hs U hT hR).mono (by omega))⟩
theorem JA {b:Int} {X:Nat} (hb:b<=1000) (hX:15<=X) (ih:FU b X) {E:Env} {N:Nat} {Q:QT [.pk,.i,.str,.str,.i,.dc,.dc,.dc,.dc,.row 29 9,.sl 0,.i,.i]} {n:Int} (hn:n - 1<=b) (ah:2<=n) (kd n3:Int) (s J:ByteArray) (O U:D) {Z:Int} (hm:Z<=3)
  (hQ:∀ r q a es c i h N',N<=N'->Cu es i->PkT (15+3*(4*X)) s J O U (D.j 0) (D.sl none 2 [] 0) r->r.length<=3->Q kd s J n3 O U (D.j 0) (D.sl none 2 [] 0) r q a es c i h N') :
  ∀(rem k:Nat) (r:List D) (q:Nat) a es c i h N',Z<=k+rem->k<=3->r.length=k->N<=N'->Cu es i->PkT (15+k*(4*X)) s J O U (D.j 0) (D.sl none 2 [] 0) r->yI E Q N n Z k a es c i h 0 (bytes []) (bytes []) 0 0 none [] 0 0 none [] 0 none [] 0 kd s J n3 O U 0 none [] 0 r.length q r q N':=by
 intro rem
 induction rem with
 | zero=>intro k r q a es c i h N' h1 V h3 h4 I Y;have hk:k*(4*X)<=3*(4*X):=oi _ V;refine wq _ _ _ _ _ _ _ _ _ _ _ _ _ _ _ _ _ _ _ _ _ _ _ _ _ _ _ _ _ _ _ _ _ _ _ _ _ _ _ _ _ (Br.dec (λg=>by omega) λ_=>⟨zG,⟨rfl,rfl⟩,λN4 aa=>hQ _ _ _ _ _ _ _ _ (by omega) I (Y.mono (by omega)) (by omega)⟩)
 | succ rem ab=>
   intro k r q a es c i h N' h1 V h3 h4 I Y;have hk:k*(4*X)<=3*(4*X):=oi _ V;refine wq _ _ _ _ _ _ _ _ _ _ _ _ _ _ _ _ _ _ _ _ _ _ _ _ _ _ _ _ _ _ _ _ _ _ _ _ _ _ _ _ _ (Br.dec (λg N1 ai=>?_) λ_=>⟨zG,⟨rfl,rfl⟩,λN4 aa=>hQ _ _ _ _ _ _ _ _ (by omega) I (Y.mono (by omega)) (by omega)⟩);rw[i64_in (n - 1) (by omega)];refine ih (n - 1) hn I a c h N1 _ λk' t t1 n' y y1 y2 y3 aj c' a' ak c2 i2 V N2 al ac ae _ _ _ _=>⟨⟨rfl,rfl⟩,λa1 N3 ao _=>⟨⟨rfl,rfl⟩,by unfold zA;rw[oH];simp only[oN,oa];omega,λc3=>?_⟩⟩
   rw[i64_in ((k:Int)+1) (by omega)];exact ab (k+1) _ c3 _ _ _ _ _ _ (by omega) (by omega) (by simp[h3]) (by omega) ac ((Y.snoc (ae.some _ _ _ _) (by omega)).mono (by rw[nE,md];omega))
theorem I7 {b:Int} {X:Nat} (hb:b<=1000) (hX:15<=X) (ih:FU b X) {E:Env} {N:Nat} {Q:QT [.pk,.i,.str,.str,.i,.dc,.dc,.dc,.dc,.row 29 9,.sl 0,.i,.i]} {n:Int} (hn:n - 1<=b) (J:2<=n) (O n3:Int) {s I:ByteArray} (hs:s.size<=1000) (U:I.size<=1000) (V Y:D) (hT:SmT 7 (.ag [V,Y])) (hR:SmT 7 (.ag [(D.j 0),(D.sl none 2 [] 0)]))
  (hQ:∀ k s I n' x x1 x2 x3 r q a es c i h N',N<=N'->Cu es i->PkT (15+3*(4*X)) s I x x1 x2 x3 r->r.length<=3->Q k s I n' x x1 x2 x3 r q a es c i h N') {es:List D} {i:Int} (Z:Cu es i) (a:Option Addr) (c:Nat) (h:Int) {N':Nat} (aa:N<=N') :
  xH E Q N n a es c i h 0 (bytes []) (bytes []) 0 0 none [] 0 0 none [] 0 none [] 0 O s I n3 V Y 0 none [] 0 0 0 [] 0 N':=by
 refine sg _ _ _ _ _ _ _ _ _ _ _ _ _ _ _ _ _ _ _ _ _ _ _ _ _ _ _ _ _ _ _ _ _ _ _ _ _ _ _ ⟨⟨rfl,rfl⟩,λa7 _ N1 ab _=>yU N1 _ λN2 ac _=>JA hb hX ih hn J O n3 s I V Y (v8 _ _) (λr q a es c i h N'=>hQ _ _ _ _ _ _ _ _ r q a es c i h N') 3 0 [] 0 a es c i h N2 (by have:=v8 O s;omega) (by omega) rfl (by omega) Z ((Bt hs U hT hR).mono (by omega))⟩
theorem JB {b:Int} {X:Nat} (hb:b<=1000) (hX:15<=X) (ih:FU b X) {E:Env} {N:Nat} {Q:QT [.pk,.i,.str,.str,.i,.dc,.dc,.dc,.dc,.row 29 9,.sl 0,.i,.i]} {n:Int} (hn:n - 1<=b) (ah:2<=n) (kd n3:Int) (s J:ByteArray) (O U:D) {Z:Int} (hm:Z<=3)
  (hQ:∀ r q a es c i h N',N<=N'->Cu es i->PkT (15+3*(4*X)) s J (D.j 0) (D.sl none 2 [] 0) O U r->r.length<=3->Q kd s J n3 (D.j 0) (D.sl none 2 [] 0) O U r q a es c i h N') :
  ∀(rem k:Nat) (r:List D) (q:Nat) a es c i h N',Z<=k+rem->k<=3->r.length=k->N<=N'->Cu es i->PkT (15+k*(4*X)) s J (D.j 0) (D.sl none 2 [] 0) O U r->yJ E Q N n Z k a es c i h 0 (bytes []) (bytes []) 0 0 none [] 0 0 none [] 0 none [] 0 kd s J n3 0 none [] 0 O U r.length q r q N':=by
 intro rem
 induction rem with
 | zero=>intro k r q a es c i h N' h1 V h3 h4 I Y;have hk:k*(4*X)<=3*(4*X):=oi _ V;refine wr _ _ _ _ _ _ _ _ _ _ _ _ _ _ _ _ _ _ _ _ _ _ _ _ _ _ _ _ _ _ _ _ _ _ _ _ _ _ _ _ _ (Br.dec (λg=>by omega) λ_=>⟨zG,⟨rfl,rfl⟩,λN4 aa=>hQ _ _ _ _ _ _ _ _ (by omega) I (Y.mono (by omega)) (by omega)⟩)
 | succ rem ab=>
   intro k r q a es c i h N' h1 V h3 h4 I Y;have hk:k*(4*X)<=3*(4*X):=oi _ V;refine wr _ _ _ _ _ _ _ _ _ _ _ _ _ _ _ _ _ _ _ _ _ _ _ _ _ _ _ _ _ _ _ _ _ _ _ _ _ _ _ _ _ (Br.dec (λg N1 ai=>?_) λ_=>⟨zG,⟨rfl,rfl⟩,λN4 aa=>hQ _ _ _ _ _ _ _ _ (by omega) I (Y.mono (by omega)) (by omega)⟩);rw[i64_in (n - 1) (by omega)];refine ih (n - 1) hn I a c h N1 _ λk' t t1 n' y y1 y2 y3 aj c' a' ak c2 i2 V N2 al ac ae _ _ _ _=>⟨⟨rfl,rfl⟩,λa1 N3 ao _=>⟨⟨rfl,rfl⟩,by unfold zA;rw[oH];simp only[oN,oa];omega,λc3=>?_⟩⟩
   rw[i64_in ((k:Int)+1) (by omega)];exact ab (k+1) _ c3 _ _ _ _ _ _ (by omega) (by omega) (by simp[h3]) (by omega) ac ((Y.snoc (ae.some _ _ _ _) (by omega)).mono (by rw[nE,md];omega))
theorem I8 {b:Int} {X:Nat} (hb:b<=1000) (hX:15<=X) (ih:FU b X) {E:Env} {N:Nat} {Q:QT [.pk,.i,.str,.str,.i,.dc,.dc,.dc,.dc,.row 29 9,.sl 0,.i,.i]} {n:Int} (hn:n - 1<=b) (J:2<=n) (O n3:Int) {s I:ByteArray} (hs:s.size<=1000) (U:I.size<=1000) (V Y:D) (hT:SmT 7 (.ag [(D.j 0),(D.sl none 2 [] 0)])) (hR:SmT 7 (.ag [V,Y]))
  (hQ:∀ k s I n' x x1 x2 x3 r q a es c i h N',N<=N'->Cu es i->PkT (15+3*(4*X)) s I x x1 x2 x3 r->r.length<=3->Q k s I n' x x1 x2 x3 r q a es c i h N') {es:List D} {i:Int} (Z:Cu es i) (a:Option Addr) (c:Nat) (h:Int) {N':Nat} (aa:N<=N') :
  xI E Q N n a es c i h 0 (bytes []) (bytes []) 0 0 none [] 0 0 none [] 0 none [] 0 O s I n3 0 none [] 0 V Y 0 0 [] 0 N':=by
 refine si _ _ _ _ _ _ _ _ _ _ _ _ _ _ _ _ _ _ _ _ _ _ _ _ _ _ _ _ _ _ _ _ _ _ _ _ _ _ _ ⟨⟨rfl,rfl⟩,λa7 _ N1 ab _=>yU N1 _ λN2 ac _=>JB hb hX ih hn J O n3 s I V Y (v8 _ _) (λr q a es c i h N'=>hQ _ _ _ _ _ _ _ _ r q a es c i h N') 3 0 [] 0 a es c i h N2 (by have:=v8 O s;omega) (by omega) rfl (by omega) Z ((Bt hs U hT hR).mono (by omega))⟩
theorem JC {b:Int} {X:Nat} (hb:b<=1000) (hX:15<=X) (ih:FU b X) {E:Env} {N:Nat} {Q:QT [.pk,.i,.str,.str,.i,.dc,.dc,.dc,.dc,.row 29 9,.sl 0,.i,.i]} {n:Int} (hn:n - 1<=b) (ac:2<=n) (kd n3:Int) (s J:ByteArray) {V:Int} (hm:V<=3)
  (hQ:∀ r q a es c i h N',N<=N'->Cu es i->PkT (15+3*(4*X)) s J (D.j 0) (D.sl none 2 [] 0) (D.j 0) (D.sl none 2 [] 0) r->r.length<=3->Q kd s J n3 (D.j 0) (D.sl none 2 [] 0) (D.j 0) (D.sl none 2 [] 0) r q a es c i h N') :
  ∀(rem k:Nat) (r:List D) (q:Nat) a es c i h N',V<=k+rem->k<=3->r.length=k->N<=N'->Cu es i->PkT (15+k*(4*X)) s J (D.j 0) (D.sl none 2 [] 0) (D.j 0) (D.sl none 2 [] 0) r->yK E Q N n V k a es c i h 0 (bytes []) (bytes []) 0 0 none [] 0 0 none [] 0 none [] 0 kd s J n3 0 none [] 0 0 none [] 0 r.length q r q N':=by
 intro rem
 induction rem with
 | zero=>intro k r q a es c i h N' h1 O h3 h4 I U;have hk:k*(4*X)<=3*(4*X):=oi _ O;refine wu _ _ _ _ _ _ _ _ _ _ _ _ _ _ _ _ _ _ _ _ _ _ _ _ _ _ _ _ _ _ _ _ _ _ _ _ _ _ _ _ _ _ _ (Br.dec (λg=>by omega) λ_=>⟨zG,⟨rfl,rfl⟩,λN4 Y=>hQ _ _ _ _ _ _ _ _ (by omega) I (U.mono (by omega)) (by omega)⟩)
 | succ rem Z=>
   intro k r q a es c i h N' h1 O h3 h4 I U;have hk:k*(4*X)<=3*(4*X):=oi _ O;refine wu _ _ _ _ _ _ _ _ _ _ _ _ _ _ _ _ _ _ _ _ _ _ _ _ _ _ _ _ _ _ _ _ _ _ _ _ _ _ _ _ _ _ _ (Br.dec (λg N1 ae=>?_) λ_=>⟨zG,⟨rfl,rfl⟩,λN4 Y=>hQ _ _ _ _ _ _ _ _ (by omega) I (U.mono (by omega)) (by omega)⟩);rw[i64_in (n - 1) (by omega)];refine ih (n - 1) hn I a c h N1 _ λk' t t1 n' y y1 y2 y3 ah c' a' ai c2 i2 O N2 aj aa ab _ _ _ _=>⟨⟨rfl,rfl⟩,λa1 N3 ak _=>⟨⟨rfl,rfl⟩,by unfold zA;rw[oH];simp only[oN,oa];omega,λc3=>?_⟩⟩
   rw[i64_in ((k:Int)+1) (by omega)];exact Z (k+1) _ c3 _ _ _ _ _ _ (by omega) (by omega) (by simp[h3]) (by omega) aa ((U.snoc (ab.some _ _ _ _) (by omega)).mono (by rw[nE,md];omega))
theorem I9 {b:Int} {X:Nat} (hb:b<=1000) (hX:15<=X) (ih:FU b X) {E:Env} {N:Nat} {Q:QT [.pk,.i,.str,.str,.i,.dc,.dc,.dc,.dc,.row 29 9,.sl 0,.i,.i]} {n:Int} (hn:n - 1<=b) (J:2<=n) (O Y:Int) {s I:ByteArray} (hs:s.size<=1000) (U:I.size<=1000) (hT:SmT 7 (.ag [(D.j 0),(D.sl none 2 [] 0)])) (hR:SmT 7 (.ag [(D.j 0),(D.sl none 2 [] 0)]))
  (hQ:∀ k s I n' x Z x2 x3 r q a es c i h N',N<=N'->Cu es i->PkT (15+3*(4*X)) s I x Z x2 x3 r->r.length<=3->Q k s I n' x Z x2 x3 r q a es c i h N') {es:List D} {i:Int} (V:Cu es i) (a:Option Addr) (c:Nat) (h:Int) {N':Nat} (aa:N<=N') :
  xJ E Q N n a es c i h 0 (bytes []) (bytes []) 0 0 none [] 0 0 none [] 0 none [] 0 O s I Y 0 none [] 0 0 none [] 0 0 0 [] 0 N':=by
 refine sj _ _ _ _ _ _ _ _ _ _ _ _ _ _ _ _ _ _ _ _ _ _ _ _ _ _ _ _ _ _ _ _ _ _ _ _ _ _ _ _ _ ⟨⟨rfl,rfl⟩,λa7 _ N1 ab _=>yU N1 _ λN2 ac _=>JC hb hX ih hn J O Y s I  (v8 _ _) (λr q a es c i h N'=>hQ _ _ _ _ _ _ _ _ r q a es c i h N') 3 0 [] 0 a es c i h N2 (by have:=v8 O s;omega) (by omega) rfl (by omega) V ((Bt hs U hT hR).mono (by omega))⟩
theorem MM {b:Int} {X:Nat} (hb:b<=1000) (hX:15<=X) (ih:FU b X) {E:Env} {N:Nat} {Q:QT [.pk,.i,.str,.str,.i,.dc,.dc,.dc,.dc,.row 29 9,.sl 0,.i,.i]} {n:Int} (hn:n - 1<=b) (I:2<=n) (Y Z:Int) {s:ByteArray} (hs:s.size<=1000) (O U:D) (hT:SmT 7 (.ag [O,U]))
  (hQ:∀ k s s1 n' x x1 x2 x3 r q a es c i h N',N<=N'->Cu es i->PkT (15+3*(4*X)) s s1 x x1 x2 x3 r->r.length<=3->Q k s s1 n' x x1 x2 x3 r q a es c i h N') {es:List D} {i:Int} (J:Cu es i) (a:Option Addr) (c:Nat) (h:Int) {N':Nat} (aa:N<=N') :
  xF E Q N n a es c i h 0 (bytes []) (bytes []) 0 0 none [] 0 0 none [] 0 none [] 0 Y s (bytes []) Z O U 0 none [] 0 0 0 [] 0 N':=by
 refine AK _ _ _ _ _ _ _ _ _ _ _ _ _ _ _ _ _ _ _ _ _ _ _ _ _ _ _ _ _ _ _ _ _ _ _ _ _ _ _ (Br.beq (λ_ N1 ae=>?_) λ_=>I7 hb hX ih hn I Y Z hs (by decide) O U hT FK hQ J a c h aa);refine qZ (l:=[bytes [122],bytes [119]]) J (by decide) (by decide) a c h 2 2 N1 _ λt a1 ah c1 i1 h1 N2 ai ab V _ _ _ N3 aj=>?_;have V:t.size<=1000:=by simp only[oG,nX,mZ]at V;rcases V with rfl | rfl<;>decide
 exact EG 2 (by omega) ab a1 c1 h1 N3 _ λd a2 ak c2 i2 h2 N4 al ac hd _ _ _ _=>NS hb hX ih hn I Y Z hs V O U _ _ hT (hd.cells.mono (by omega)) hQ ac a2 c2 h2 (by omega)
theorem I6 {b:Int} {X:Nat} (hb:b<=1000) (hX:15<=X) (ih:FU b X) {E:Env} {N:Nat} {Q:QT [.pk,.i,.str,.str,.i,.dc,.dc,.dc,.dc,.row 29 9,.sl 0,.i,.i]} {n:Int} (hn:n - 1<=b) (I:2<=n) (U V:Int) {s:ByteArray} (hs:s.size<=1000) (hT:SmT 7 (.ag [(D.j 0),(D.sl none 2 [] 0)]))
  (hQ:∀ k s s1 n' x x1 x2 x3 r q a es c i h N',N<=N'->Cu es i->PkT (15+3*(4*X)) s s1 x x1 x2 x3 r->r.length<=3->Q k s s1 n' x x1 x2 x3 r q a es c i h N') {es:List D} {i:Int} (J:Cu es i) (a:Option Addr) (c:Nat) (h:Int) {N':Nat} (Y:N<=N') :
  xG E Q N n a es c i h 0 (bytes []) (bytes []) 0 0 none [] 0 0 none [] 0 none [] 0 U s (bytes []) V 0 none [] 0 0 none [] 0 0 0 [] 0 N':=by
 refine sf _ _ _ _ _ _ _ _ _ _ _ _ _ _ _ _ _ _ _ _ _ _ _ _ _ _ _ _ _ _ _ _ _ _ _ _ _ _ _ _ _ (Br.beq (λ_ N1 ab=>?_) λ_=>I9 hb hX ih hn I U V hs (by decide) hT FK hQ J a c h Y);refine qZ (l:=[bytes [122],bytes [119]]) J (by decide) (by decide) a c h 2 2 N1 _ λt a1 ac c1 i1 h1 N2 ae Z O _ _ _ N3 ah=>?_;have O:t.size<=1000:=by simp only[oG,nX,mZ]at O;rcases O with rfl | rfl<;>decide
 exact EG 2 (by omega) Z a1 c1 h1 N3 _ λd a2 ai c2 i2 h2 N4 aj aa hd _ _ _ _=>I8 hb hX ih hn I U V hs O _ _ hT (hd.cells.mono (by omega)) hQ aa a2 c2 h2 (by omega)
theorem CO {b:Int}{X:Nat}(hb:b<=1000)(hX:15<=X)(ih:FU b X):FU (b+1) (15+3*(4*X)):=λn hn es i J a c h N Q hQ=>by
 have lf:∀(E:Env) {es:List D} {i:Int} (_:Cu es i) a c h N1,N<=N1->BCalls prog 69 [.pk,.i,.str,.str,.i,.dc,.dc,.dc,.dc,.row 29 9,.sl 0,.i,.i] [.pb 0 0 0 0] [.var [.sv a 0 es c,.j i,.j h]] N1 (λn s ao aa x aq au aw es c a V Z ab ax N2=>N1<=N2->Bel N2 (D.sl a 0 V Z)->Bel N2 (D.ag es)->zC E [.var [.sv none 0 [] 0,.j 0,.j 0]]/\(es.length=es.length/\c=c)/\∀ N3,N2<=N3->Q n s ao aa x aq au aw es c a V Z ab ax N3):=λE es i J a c h N1 ac=>Ka J a c h N1 _ λk s s1 n' x x1 x2 x3 r q a' ba c' i' h' N2 ay az hp hr _ _ _=>⟨zG,⟨rfl,rfl⟩,λN3 ak=>hQ _ _ _ _ _ _ _ _ _ _ _ _ _ _ _ _ (by omega) az (hp.mono (by omega)) hr⟩
 refine uj N n a es c i h Q λE _=>Br.dec (λ_ N1 ac=>lf E J a c h N1 ac) λbb N1 ac=>Hj J 5 (by omega) a c h N1 _ λb1 a1 bc c1 i1 h1 N2 ay al _ _=>Br.of (λ_ N3 ak=>lf E al a1 c1 h1 N3 (by omega)) λ_ N3 ak=>?_;refine uD (l:=[4,5,6,7,8,9,10,11,12,13,10,4]) al (by decide) (by decide) a1 c1 h1 12 12 N3 _ λkd a2 ae c2 i2 h2 N4 bg U _ _ _ _=>?_;have ah:∀ {s:ByteArray} (_:s.size<=1000) {es:List D} {i:Int} (_:Cu es i) a c h N',N<=N'->za E Q N n a es c i h 0 (bytes []) (bytes []) 0 0 none [] 0 0 none [] 0 none [] 0 kd s (bytes []) 0 0 none [] 0 0 none [] 0 0 0 [] 0 N':=λhs es i J a c h N' a6=>by refine AJ _ _ _ _ _ _ _ _ _ _ _ _ _ _ _ _ _ _ _ _ _ _ _ _ _ _ _ _ _ _ _ _ _ _ _ _ _ _ _ _ _ (Br.beq (λ_ O I=>EG 2 (by omega) J a c h O _ λd a2 ae c2 i2 h2 Y ai U hd _ _ _ _=>MM hb hX ih (by omega) (by omega) kd 0 hs _ _ (hd.cells.mono (by omega)) hQ U a2 c2 h2 (by omega)) λ_=>Br.beq (λ_ O I=>EG 2 (by omega) J a c h O _ λd a2 ae c2 i2 h2 Y ai U hd _ _ _ _=>MM hb hX ih (by omega) (by omega) kd 0 hs _ _ (hd.cells.mono (by omega)) hQ U a2 c2 h2 (by omega)) λ_=>I6 hb hX ih (by omega) (by omega) kd 0 hs FK hQ J a c h a6)
 have L3:∀ O,N4<=O->BCalls prog 34 [.str,.sl 0,.i,.i,.sl 0] [.pb 0 0 0 0,.sb 1 0 0 3 3] [.var [.sv a2 0 ae c2,.j i2,.j h2],.arr 9 0 (zD [bytes [120],bytes [121],bytes [102]]) 3] O (λs a es c aa ab a7 V Z Y=>O<=Y->Bel Y (D.sl a 0 es c)->Bel Y (D.sl a7 0 V Z)->za E Q N n a es c aa ab 0 (bytes []) (bytes []) 0 0 none [] 0 0 none [] 0 none [] 0 kd s (bytes []) 0 0 none [] 0 0 none [] 0 0 0 [] 0 Y):=λO I=>qZ (l:=[bytes [120],bytes [121],bytes [102]]) U (by decide) (by decide) a2 c2 h2 3 3 O _ λt a3 a8 c3 i3 h3 Y ai aj ht _ _ _=>ah (by simp only[oG,nX,mZ]at ht;rcases ht with rfl | rfl | rfl<;>decide) aj a3 c3 h3 Y (by omega);refine Br.beq (λ_ O I=>?_) λ_=>Br.beq (λ_ O I=>L3 O I) λ_=>Br.beq (λ_ O I=>L3 O I) λ_=>Br.beq (λ_ O I=>L3 O I) λ_=>ah (by decide) U a2 c2 h2 N4 (by omega);refine qZ (l:=[bytes [43],bytes [45],bytes [42],bytes [61],bytes [60],bytes [38],bytes [124],bytes [33]]) U (by decide) (by decide) a2 c2 h2 8 8 O _ λt a3 a8 c3 i3 h3 Y ai aj ht _ _ _=>ah ?_ aj a3 c3 h3 Y (by omega);simp only[oG,nX,mZ]at ht;rcases ht with rfl | rfl | rfl | rfl | rfl | rfl | rfl | rfl<;>decide
theorem JD:FU 4 28275:=by have h:=CO (b:=3) (by omega) (by omega) (CO (b:=2) (by omega) (by omega) (CO (b:=1) (by omega) (by omega) K4));exact λn hn es i I a c J N Q O=>h n (by omega) I a c J N Q λk s s1 n' x x1 x2 x3 r q a' U c' i' J N' V Y Z h4=>O _ _ _ _ _ _ _ _ _ _ _ _ _ _ _ _ V Y (Z.mono (by omega)) h4
theorem Ek {es:List D} {i:Int} (ae:Cu es i) (a:Option Addr) (c:Nat) (h:Int) (N:Nat) (Q:QT [.ag 9,.sl 0,.i,.i])
  (hQ:∀ d' a' ac c' i' h' N',N<=N'->Cu ac i'->Some 30000 d'->Q d' a' ac c' i' h' N'):BCalls prog 16 [.ag 9,.sl 0,.i,.i] [.pb 0 0 0 0] [.var [.sv a 0 es c,.j i,.j h]] N Q:=by
 have z:PkT 15 (bytes [120]) (bytes []) (D.j 0) (D.sl none 2 [] 0) (D.j 0) (D.sl none 2 [] 0) []:=Bt (by decide) (by decide) FK FK;refine pH N a es c i h Q λE _ N1 ak=>xj ae 4 (by omega) a c h N1 _ λx a1 al c1 i1 h1 N2 ao ah x0 x1 _ _ _ N3 aq=>?_;have x1:=x1 (by omega);rw[i64_in (1+x) (by omega)];refine JD (1+x) (by omega) ah a1 c1 h1 N3 _ λk s s1 n y y1 y2 y3 r q a2 au c2 i2 h2 N4 aw ai hp hr _ _ _ N5 ax=>?_;refine xj ai 14 (by omega) a2 c2 h2 N5 _ λz1 a3 ay c3 i3 h3 N6 az O _ _ _ _ _=>Br.beq (λ_ Y Z=>?_) λ_=>Br.beq (λ_ Y Z=>?_) λ_=>Br.beq (λ_ Y Z=>?_) λ_=>Br.beq (λ_ Y Z=>?_) λ_=>Br.beq (λ_ Y Z=>?_) λ_=>Br.beq (λ_ Y Z=>?_) λ_=>?_
 ·exact xj O 15 (by omega) a3 c3 h3 Y _ λw a4 ab c4 i4 h4 N8 aa J _ _ _ _ _=>⟨⟨rfl,rfl⟩,⟨rfl,rfl⟩,⟨rfl,rfl⟩,⟨rfl,rfl⟩,λa5 N9 U _=>⟨zG,λV I=>hQ _ _ _ _ _ _ _ (by omega) J ((hp.some _ _ _ _).mono (by omega))⟩⟩
 ·exact uD (l:=[0,1,10006,10007, -1]) O (by decide) (by decide) a3 c3 h3 5 5 Y _ λw a4 ab c4 i4 h4 N8 aa J _ _ _ _=>⟨⟨rfl,rfl⟩,⟨rfl,rfl⟩,⟨rfl,rfl⟩,⟨rfl,rfl⟩,λa5 N9 U _=>⟨zG,λV I=>hQ _ _ _ _ _ _ _ (by omega) J ((hp.some _ _ _ _).mono (by omega))⟩⟩
 ·refine qZ (l:=[bytes [],bytes [120],bytes [108,101,116],bytes [97,98,99,100,101],bytes [43]]) O (by decide) (by decide) a3 c3 h3 5 5 Y _ λw a4 ab c4 i4 h4 N8 aa J hw _ _ _=>⟨⟨rfl,rfl⟩,⟨rfl,rfl⟩,⟨rfl,rfl⟩,⟨rfl,rfl⟩,λa5 N9 U _=>⟨zG,λV I=>hQ _ _ _ _ _ _ _ (by omega) J (((hp.name ?_).some _ _ _ _).mono (by omega))⟩⟩
  simp only[oG,nX,mZ]at hw;rcases hw with rfl | rfl | rfl | rfl | rfl<;>decide
 ·exact tY Y _ _ λN8 aa _ _=>⟨⟨rfl,rfl⟩,λa5 N9 U _=>⟨⟨rfl,rfl⟩,by unfold zA;rw[oH];simp only[oN,oa];omega,λc9=>⟨⟨rfl,rfl⟩,⟨rfl,rfl⟩,⟨rfl,rfl⟩,⟨rfl,rfl⟩,λa6 V I _=>⟨zG,λa7 aj=>hQ _ _ _ _ _ _ _ (by omega) O (((hp.snoc (z.some _ _ _ _) (by omega)).some _ _ _ _).mono (by omega))⟩⟩⟩⟩
 ·exact LE O a3 c3 h3 Y _ λw a4 ab c4 i4 h4 N8 aa J hw _ _ _=>⟨⟨rfl,rfl⟩,⟨rfl,rfl⟩,⟨rfl,rfl⟩,⟨rfl,rfl⟩,λa5 N9 U _=>⟨zG,λV I=>hQ _ _ _ _ _ _ _ (by omega) J (((hp.type hw.cells).some _ _ _ _).mono (by omega))⟩⟩
 ·refine qZ (l:=[bytes [120],bytes [122]]) O (by decide) (by decide) a3 c3 h3 2 2 Y _ λw a4 ab c4 i4 h4 N8 aa J hw _ _ _=>⟨⟨rfl,rfl⟩,⟨rfl,rfl⟩,⟨rfl,rfl⟩,⟨rfl,rfl⟩,λa5 N9 U _=>⟨zG,λV I=>hQ _ _ _ _ _ _ _ (by omega) J (((hp.other ?_).some _ _ _ _).mono (by omega))⟩⟩
  simp only[oG,nX,mZ]at hw;rcases hw with rfl | rfl<;>decide
 ·exact⟨⟨rfl,rfl⟩,⟨rfl,rfl⟩,⟨rfl,rfl⟩,⟨rfl,rfl⟩,λa5 N9 U _=>⟨zG,λV I=>hQ _ _ _ _ _ _ _ (by omega) O ((hp.some _ _ _ _).mono (by omega))⟩⟩
end Go.Proofs.YtidiofobanefmaaGreatDoor
