/- Printed by gen.py: what the functions come to. -/
import Derived.Test.YtlaniepnglheoaaGreatJh
set_option linter.unusedVariables false
set_option maxRecDepth 100000
namespace Go.Proofs.YtlaniepnglheoaaGreat
open Go Go.Proofs Go.Proofs.Tryz
def Ee:Hint:=⟨[hc 3 [0,3,4]],[],[]⟩
def Jw:Hint:=⟨[],[],[(2,[en 0,en 1,en 2,en 3,en 4,en 5,en 6,en 7,en 8,en 9,en 10,en 11,en 12]),(3,[en 0,en 1,en 2,en 3,en 4,en 5,en 6,en 7,en 8,en 9]),(4,[en 0,en 1,en 2,en 3,en 4,en 5,en 6,en 7,en 8,en 9,en 10,en 11,en 12,en 13,eh 14])]⟩
def BJ:Hint:=⟨[hc 3 [0,1,3,6,8,10,11] [(10,30,9)]],[],[(5,[en 0,en 1,en 2,en 3,en 4,en 5,en 6,en 7,en 8,en 9,en 10,en 11,en 12,en 13,ec 14 [31,32],en 15,en 16,en 17,en 18,en 19,en 20,en 21,en 22,en 24,eh 23,en 25,en 26])]⟩
def H3:Hint:=⟨[],[],[(7,[en 0,en 1,en 2,en 3,en 4,en 5,en 6,en 7,en 8,en 9,eh 10,ec 11 [24,31],eh 12])]⟩
def qh:Hint:=⟨[hc 4 [0,3,4,5] [(3,49,4)]],[],[(9,[en 0,en 1,en 2,en 3,en 4,en 5,en 6,eh 7,en 8,en 9,eh 10,eh 11])]⟩
def CH:Hint:=⟨[],[hc 5 [0,1,3,6,8]],[(10,[en 0,en 1,en 3,en 4,en 6,en 7,en 8,en 9,en 10,en 12,en 13,en 14,en 15,en 16,eh 2,eh 5,eh 11,eh 17,en 18,eh 19,eh 20]),(13,[en 0,en 1,en 2,en 3,en 4,en 5,en 7,en 8,en 9,en 10,en 12,en 13,en 14,eh 6,ec 11 [74],eh 15,ec 16 [70,79],eh 17]),(15,[en 0,en 1,en 3,en 4,en 5,en 6,en 7,en 9,en 10,en 11,en 12,en 13,eh 2,eh 8,eh 14,en 15,eh 16,eh 17]),(18,[en 0,en 1,en 3,en 4,en 5,en 6,en 7,en 9,en 10,en 11,en 12,en 13,eh 2,eh 8,eh 14,en 15,eh 16,eh 17])]⟩
def BF:Hint:=⟨[hc 3 [0,1,5,6] [(5,3,0)]],[],[]⟩
def ry:Hint:=⟨[],[],[(3,hs 4 [ec 2 [17]]),(9,[en 0,en 1,en 2,en 3,eh 4,en 5])]⟩
def uV (Q:QT [.cu]) N0 I e0 J O U N:=ksT 33 3 Q N0 (.sv I 0 e0 J::an 2 (.j O::.j U::an 27 [])) [] N
def yS E(Q:QT [.row 49 4,.sl 0,.i,.i]) N0 m3 c3 n4 n5 I J O U Y r1 q1 N:=ksO 80 4 E Q N0 (.pb 0 0 0 0::an 2 (.sb 1 4 0 m3 c3::.j n4::.j n5::an 26 [])) [.var [.sv I 0 J O,.j U,.j Y],.arr 49 4 r1 q1] N
def yO E(Q:QT [.ag 9,.sl 0,.i,.i]) N0 a1 e1 c1 n3 I J O U Y y1 aa ab ac ae ah ai aj ak al am ao aq au aw ax N:=ksP 81 5 E Q N0 (.pb 0 0 0 0::.sv a1 4 e1 c1::an 1 (.j n3::an 2 (.pb 1 0 0 0::an 1 (.pb 2 0 0 0::an 119 [])))) [.var [.sv I 0 J O,.j U,.j Y],.vd y1 2,ksV aa ab ac ae ah ai aj ak al am ao aq au aw ax] N
def yq E(Q:QT [.row 3 0,.sl 0,.i,.i]) N0 a1 e1 c1 m5 c5 n6 I J O U Y r1 q1 N:=ksO 83 3 E Q N0 (.pb 0 0 0 0::.sv a1 4 e1 c1::an 3 (.sb 1 0 0 m5 c5::.j n6::an 25 [])) [.var [.sv I 0 J O,.j U,.j Y],.arr 3 0 r1 q1] N
def zu E(Q:QT [.ag 9,.bool,.sl 0,.i,.i]) N0 a1 e1 c1 n3 ay az a0 I J O U Y y1 aa ab ac ae ah ai aj ak al am ao aq au aw ax r3 q3 N:=ksO 134 3 E Q N0 (.pb 0 0 0 0::.sv a1 4 e1 c1::an 1 (.j n3::an 2 (.pb 1 0 0 0::an 1 (.pb 2 0 0 0::an 1 (.sb 3 9 0 ay az::.j a0::an 54 []))))) [.var [.sv I 0 J O,.j U,.j Y],.vd y1 2,ksV aa ab ac ae ah ai aj ak al am ao aq au aw ax,.arr 30 9 r3 q3] N
theorem Np N I e0 J(Q:QT [.cu])(h :
Bel N (D.sl I 0 e0 J)->uV Q N I e0 J (ksW.wrap (26583+(e0.length:Int))) 0 N):ksC 33 [.sv I 0 e0 J] N Q:=
 eE Ee h
theorem PI N s0 a1 e1 c1(Q:QT [.ag 9])(h :
Bel N (D.sl a1 9 e1 c1)->kA 9 28 [.j 4,.sv a1 9 e1 c1] N (fun x a=>uP a (Q (D.ag [(x.cell 0),D.t s0,(x.cell 2),(x.cell 3),(x.cell 4),(x.cell 5),
 (x.cell 6),(x.cell 7),(x.cell 8)])))):ksC 136 [.str s0,.sv a1 9 e1 c1] N Q:=
  eE H0 h
theorem qW N I e0 J(Q:QT [.sl 4,.ag 9,.sl 0])(h :
Bel N (D.sl I 0 e0 J)->∀ b,N<=b->ACalls prog 33 [.cu] [.sv I 0 e0 J] b (λa c d n e f=>b<=f->∀ b,f<=b->BCalls prog 34 [.row 49
 4,.ag 9,.sl 0,.i,.i] [.pb 0 0 0 0] [Bx.var [.sv a 0 c d,.j n,.j e]] b (λa c x d e f g h i=>b<=i->Bel i x->Bel i (D.sl d
 0 e f)->Bel i (D.ag a)->w3 (a.length=a.length/\c=c) (∀ b j,i<=j->Fresh N j b [D.ag a]->∀ i,j<=i->BCalls prog 35
 [.row 3 0,.sl 0,.i,.i] [.pb 0 0 0 0,.sv b 4 a c] [Bx.var [.sv d 0 e f,.j g,.j h]] i (λd e f g h j k l=>i<=l ->
 Bel l (D.sl f 0 g h)->Bel l (D.ag d)->∀ i,l<=i->BCalls prog 36 [.i,.sl 0,.i,.i] [.pb 0 0 0 0,.j 12] [Bx.var [.sv f 0 g h,.j j,
 .j k]] i (λf g h j k l m=>i<=m->Bel m (D.sl g 0 h j)->Br (f==0) (∀ a,m<=a->BCalls prog 37 [.sl 4,.ag 9,.sl 0,
 .i,.i] [.pb 0 0 0 0] [Bx.var [.sv g 0 h j,.j k,.j l]] a (λb c f g h i j _ _ k=>a<=k->Bel k (D.sl b 4 c
 f)->Bel k g->Bel k (D.sl h 0 i j)->w4 (d.length=d.length/\e=e) (∀ a h,k<=h->Fresh N h a [D.ag d,D.sl b 4
 c f,g]->uP h (Q b c f g a d e)))) (Br (f==1) ((d.length=d.length/\e=e)/\zA d [D.j 1] 8/\∀(e:Nat),
 w4 ((d++[D.j 1]).length=(d++[D.j 1]).length/\e=e) (∀ f g,m<=g->Fresh N g f [D.ag (d++[D.j 1]),D.sl b 4 a c,x] ->
 uP g (Q b a c x f (d++[D.j 1]) e))) (w4 (d.length=d.length/\e=e) (∀ f g,m<=g->Fresh N g f [D.ag d,D.sl b 4
 a c,x]->uP g (Q b a c x f d e)))))))))):ksC 13 [.sv I 0 e0 J] N Q:=
  eE ry h
theorem BV {Q:QT [.cu]}{N0 a0 e0 c0 n3 n4 N}(h :
Br (decide (n4<(e0.length:Int))) (Br (decide (n4<4000)) (ksL n4 e0/\∃ n:Int,e0.getD n4.toNat ksD=D.lit (.int
 IntKind.u8 n)/\uV Q N0 a0 e0 c0 (ksW.wrap (BitVec.toNat (HAnd.hAnd (BitVec.ofInt 64 (ksW.wrap (ksW.wrap (ksW.wrap
 (n3*131)+ksW.wrap n)+7))) (BitVec.ofInt 64 1073741823)):Int)) (ksW.wrap (n4+1)) N) (uP N (Q a0 e0 c0 0 n3))) (uP N (Q a0 e0 c0 0 n3))):uV Q N0 a0 e0 c0 n3 n4 N:=
  hE Ee h
theorem EZ N I J O U Y(Q:QT [(Sh.row (OfNat.ofNat 49) 4),(Sh.ag 9),(Sh.sl 0),(Sh.int IntKind.i64),(Sh.int IntKind.i64)])(h:∀ E:Env,
Bel N (D.sl I 0 J O)->∀ b,N<=b->BCalls prog 80 [.row 49 4,.sl 0,.i,.i] [.pb 0 0 0 0] [Bx.var [.sv I 0 J O,.j
 U,.j Y]] b (λa c d e f n g h=>b<=h->Bel h (D.sl d 0 e f)->Bel h (D.ag a)->(a.length=a.length/\c=c)/\∀ b,ApA b
 a->∀ i,h<=i->wm i [b]->ACalls prog 25 [.sl 4] [.sv b 4 a c] i (λh j k l=>i<=l->Off [b] (D.sl h 4 j k)/\(Bel l
 (D.sl h 4 j k)->kA 2 82 [] l (λx b=>∀ i,b<=i->BCalls prog 36 [.i,.sl 0,.i,.i] [.pb 0 0 0 0,.j 4] [Bx.var [.sv d 0 e f,.j n,.j
 g]] i (λb d e f g l m=>i<=m->Bel m (D.sl d 0 e f)->cA 9 81 [.sv h 4 j k,.dg 2 x,.j (ksW.wrap (2+b))] d
 e f g l m (λb d e f g h i=>ur E/\(a.length=a.length/\c=c)/\uP i (Q a c b d
 e f g h)))))))):ksB 34 [.pb 0 0 0 0] [.var [.sv I 0 J O,.int .i64 U,.int .i64 Y]] N Q:=
  bE H0 h
theorem Fe N a1 e1 c1 I J O U Y(Q:QT [(Sh.row (OfNat.ofNat 3) 0),(Sh.sl 0),(Sh.int IntKind.i64),(Sh.int IntKind.i64)])(h:∀ E:Env,
Bel N (D.sl a1 4 e1 c1)->Bel N (D.sl I 0 J O)->∀ b,N<=b->ACalls prog 16 [.sl 4,.sl 4] [.sv a1 4 e1 c1] b (λa c d e
 f g h=>b<=h->Bel h (D.sl a 4 c d)->Bel h (D.sl e 4 f g)->∀ b,h<=b->BCalls prog 83 [.row 3 0,.sl 0,.i,.i] [.pb 0 0 0 0,.sv a 4
 c d] [Bx.var [.sv I 0 J O,.j U,.j Y]] b (λa c d e f n g h=>b<=h->Bel h (D.sl d 0 e f)->Bel h (D.ag
 a)->ur E/\(a.length=a.length/\c=c)/\uP h (Q a c d e f n g)))):ksB 35 [.pb 0 0 0 0,.sv a1 4 e1 c1] [.var [.sv I 0 J O,.int .i64 U,.int .i64 Y]] N Q:=
  bE H0 h
theorem Eb N n1 aB0_0 eB0_0 cB0_0 nB0_1 nB0_2(Q:QT [(Sh.int IntKind.i64),(Sh.sl 0),(Sh.int IntKind.i64),(Sh.int IntKind.i64)])(h:∀ E:Env,
Bel N (D.sl aB0_0 0 eB0_0 cB0_0)->Br (decide (n1<=0)) (ur E/\uP N (Q 0 aB0_0 eB0_0 cB0_0 nB0_1 nB0_2))
 (Br (decide (n1<=256)) (cI 84 [] aB0_0 eB0_0 cB0_0 nB0_1 nB0_2 N (fun n a b c d e f=>n1≠0/\ur E/\uP f (Q
 (Int.tmod n n1) a b c d e))) (cI 84 [] aB0_0 eB0_0 cB0_0 nB0_1 nB0_2 N (fun a b c d e f g=>cI 84 [] b c d e f g (fun b c
 d e f g h=>cI 84 [] c d e f g h (fun c d e f g h i=>cI 84 [] d e f g h i (fun d e f g h
 i j=>n1≠0/\ur E/\∀ k,j<=k->Q (Int.tmod (ksW.wrap (ksW.wrap (ksW.wrap
 (ksW.wrap (a*16777216)+ksW.wrap (b*65536))+ksW.wrap (c*256))+d)) n1) e f g h i k))))))):ksB 36 [.pb 0 0 0 0,.int .i64 n1] [.var [.sv aB0_0 0 eB0_0 cB0_0,.int .i64 nB0_1,.int .i64 nB0_2]] N Q:=
  bE H0 h
theorem Bw N I J O U Y(Q:QT [(Sh.row (OfNat.ofNat 49) 4),(Sh.sl 0),(Sh.int IntKind.i64),(Sh.int IntKind.i64)])(h:∀ E:Env,
Bel N (D.sl I 0 J O)->∀ b,N<=b->BCalls prog 36 [.i,.sl 0,.i,.i] [.pb 0 0 0 0,.j 4] [Bx.var [.sv I 0 J O,.j
 U,.j Y]] b (λn a c d e f g=>b<=g->Bel g (D.sl a 0 c d)->yS E Q N 0 0 (ksW.wrap (1+n)) 0 a c d e f []
 0 g)):ksB 80 [.pb 0 0 0 0] [.var [.sv I 0 J O,.int .i64 U,.int .i64 Y]] N Q:=
  bE qh h
theorem pA N a1 e1 c1 x2 n3 I J O U Y(Q:QT [(Sh.ag 9),(Sh.sl 0),(Sh.int IntKind.i64),(Sh.int IntKind.i64)])(h:∀ E:Env,
Bel N (D.sl a1 4 e1 c1)->Bel N x2->Bel N (D.sl I 0 J O)->cB 133 [.j 3] I J O U Y N (λb a c d n e f=>
 Br (!b) (∀ b,f<=b->BCalls prog 134 [.ag 9,.bool,.sl 0,.i,.i] [.pb 0 0 0 0,.sv a1 4 e1 c1,.dg 2 x2,.j 0] [Bx.var [.sv a 0 c d,.j n,.j e]] b
 (λx a c d e f g h=>b<=h->Bel h x->Bel h (D.sl c 0 d e)->Br a (ur E/\uP h (Q x c
 d e f g)) (yO E Q N a1 e1 c1 n3 c d e f g x2 0 b0 b0 0 0 none [] 0 0 none [] 0 none [] 0 h))) (Br (decide (n3<2)) (∀ b,f
 <= b->BCalls prog 134 [.ag 9,.bool,.sl 0,.i,.i] [.pb 0 0 0 0,.sv a1 4 e1 c1,.dg 2 x2,.j 0] [Bx.var [.sv a 0 c d,.j n,.j e]] b (λa c d
 e f g h i=>b<=i->Bel i a->Bel i (D.sl d 0 e f)->Br c (ur E/\uP i (Q a d e f g
 h)) (yO E Q N a1 e1 c1 n3 d e f g h x2 0 b0 b0 0 0 none [] 0 0 none [] 0 none [] 0 i))) (yO E Q N a1 e1 c1 n3 a c d n
 e x2 0 b0 b0 0 0 none [] 0 0 none [] 0 none [] 0 f)))):ksB 81 [.pb 0 0 0 0,.sv a1 4 e1 c1,.dg 2 x2,.int .i64 n3] [.var [.sv I 0 J O,.int .i64 U,.int .i64 Y]] N Q:=
  bE CH h
theorem EX N a1 e1 c1 I J O U Y(Q:QT [(Sh.row (OfNat.ofNat 3) 0),(Sh.sl 0),(Sh.int IntKind.i64),(Sh.int IntKind.i64)])(h:∀ E:Env,
Bel N (D.sl a1 4 e1 c1)->Bel N (D.sl I 0 J O)->yq E Q N a1 e1 c1 0 0 0 I J O U Y [] 0 N):ksB 83 [.pb 0 0 0 0,.sv a1 4 e1 c1] [.var [.sv I 0 J O,.int .i64 U,.int .i64 Y]] N Q:=
 bE BF h
theorem Fh N U I Y O J(Q:QT [(Sh.int IntKind.i64),(Sh.sl 0),(Sh.int IntKind.i64),(Sh.int IntKind.i64)])(h:∀ E:Env,
Bel N (D.sl U 0 I Y)->(0:Int)<=(33:Int)/\(0:Int)<=(45:Int)/\Br (decide (O<(I.length:Int))) (ksL O I/\∃ n:Int,I.getD O.toNat ksD=D.lit (.int IntKind.u8 n)/\ur E/\∀ a,
 N<=a->Q (ksW.wrap (BitVec.toNat (HAnd.hAnd (BitVec.ofInt 64 (ksW.wrap (ksW.wrap (BitVec.toNat (HAnd.hAnd (BitVec.ofInt 64
 (ksW.wrap (BitVec.toNat (HXor.hXor (BitVec.ofInt 64 (Int.fdiv (ksW.wrap (ksW.wrap (J*6364136223846793005)+1442695040888963407))
 8589934592)) (BitVec.ofInt 64 (Int.fdiv (ksW.wrap (ksW.wrap (J*6364136223846793005)+1442695040888963407)) 35184372088832))):Int)))
 (BitVec.ofInt 64 255)):Int)+ksW.wrap n))) (BitVec.ofInt 64 255)):Int)) U I Y (ksW.wrap (O+1)) (ksW.wrap
 (ksW.wrap (J*6364136223846793005)+1442695040888963407)) a) (ur E/\∀ a,N<=a->Q (ksW.wrap
 (BitVec.toNat (HAnd.hAnd (BitVec.ofInt 64 (ksW.wrap (BitVec.toNat (HXor.hXor (BitVec.ofInt 64 (Int.fdiv (ksW.wrap (ksW.wrap (J *
 6364136223846793005)+1442695040888963407)) 8589934592)) (BitVec.ofInt 64 (Int.fdiv (ksW.wrap (ksW.wrap (J*6364136223846793005) +
 1442695040888963407)) 35184372088832))):Int))) (BitVec.ofInt 64 255)):Int)) U I Y O (ksW.wrap (ksW.wrap (J *
 6364136223846793005)+1442695040888963407)) a)):ksB 84 [.pb 0 0 0 0] [.var [.sv U 0 I Y,.int .i64 O,.int .i64 J]] N Q:=
  bE Jw h
theorem sf E(Q:QT [(Sh.row (OfNat.ofNat 49) 4),(Sh.sl 0),(Sh.int IntKind.i64),(Sh.int IntKind.i64)]) N0 m3 c3 n4 I J O U Y aa r1 q1 N(h :
Br (decide (I<n4)) (kA 2 82 [] N (λx d=>Br (I==3) (kA 2 132 [] d (λd e=>(0<=I/\I<4/\(0+I.toNat:Nat)<4)/\(0+I.toNat :
 Nat)<4/\∃ s,List.getD [D.t (bytes [120]),D.t (bytes [121]),D.t (bytes [110]),D.t (bytes [98])] (0+I.toNat:Nat) default=D.t s/\cB 133 [.j 2] J
 O U Y aa e (λb a c e n f g=>(m3=r1.length/\c3=q1)/\zA r1 [D.ag [D.t s,(d.cell 0),(d.cell 1),D.lit (.bool b)]] 56/\∀(h
 : Nat),yS E Q N0 (r1++[D.ag [D.t s,(d.cell 0),(d.cell 1),D.lit (.bool b)]]).length h n4 (ksW.wrap (I+1)) a c e n f (r1
 ++ [D.ag [D.t s,(d.cell 0),(d.cell 1),D.lit (.bool b)]]) h g))) ((0<=I/\I<4/\(0+I.toNat:Nat)<4)/\(0+I.toNat:Nat)<4/\∃ a,
 List.getD [D.t (bytes [120]),D.t (bytes [121]),D.t (bytes [110]),D.t (bytes [98])] (0+I.toNat:Nat) default=D.t a/\cB 133 [.j 2] J O U Y
 aa d (λb c d e f g h=>(m3=r1.length/\c3=q1)/\zA r1 [D.ag [D.t a,(x.cell 0),(x.cell 1),D.lit (.bool b)]] 56/\∀(i :
 Nat),yS E Q N0 (r1++[D.ag [D.t a,(x.cell 0),(x.cell 1),D.lit (.bool b)]]).length i n4 (ksW.wrap (I+1)) c d e f
 g (r1++[D.ag [D.t a,(x.cell 0),(x.cell 1),D.lit (.bool b)]]) i h)))) (ur E/\(m3=r1.length/\c3=q1) /\
 uP N (Q r1 c3 J O U Y aa))):yS E Q N0 m3 c3 n4 I J O U Y aa r1 q1 N:=
  hE qh h
theorem Fi N n1 I J O U Y(Q:QT [Sh.bool,(Sh.sl 0),(Sh.int IntKind.i64),(Sh.int IntKind.i64)])(h:∀ E:Env,
Bel N (D.sl I 0 J O)->∀ b,N<=b->BCalls prog 36 [.i,.sl 0,.i,.i] [.pb 0 0 0 0,.j n1] [Bx.var [.sv I 0 J O,.j
 U,.j Y]] b (λn a c d e f g=>b<=g->Bel g (D.sl a 0 c d)->ur E/\uP g (Q (n==0) a c d e
 f))):ksB 133 [.pb 0 0 0 0,.int .i64 n1] [.var [.sv I 0 J O,.int .i64 U,.int .i64 Y]] N Q:=
  bE H0 h
theorem Ec N a1 e1 c1 x2 n3 I J O U Y(Q:QT [(Sh.ag 9),Sh.bool,(Sh.sl 0),(Sh.int IntKind.i64),(Sh.int IntKind.i64)])(h:∀ E:Env,
Bel N (D.sl a1 4 e1 c1)->Bel N x2->Bel N (D.sl I 0 J O)->zu E Q N a1 e1 c1 n3 0 0 0 I J O U Y
 x2 0 b0 b0 0 0 none [] 0 0 none [] 0 none [] 0 [] 0 N):ksB 134 [.pb 0 0 0 0,.sv a1 4 e1 c1,.dg 2 x2,.int .i64 n3] [.var [.sv I 0 J O,.int .i64 U,.int .i64 Y]] N Q:=
  bE BJ h
theorem pv E(Q:QT [(Sh.ag 9),(Sh.sl 0),(Sh.int IntKind.i64),(Sh.int IntKind.i64)]) N0 a1 e1 c1 I J O U Y aa y1 ab ac ae ah ai aj ak al am ao aq au aw ax ay N(h :
Br (decide (I<2)) (cA 9 135 [.dg 2 y1,.j 0] J O U Y aa N (λx a b c n d e=>ur E/\uP e (Q
 x a b c n d))) (kA 2 82 [] N (λa c=>∀ d,c<=d->BCalls prog 36 [.i,.sl 0,.i,.i] [.pb 0 0 0 0,.j 5] [Bx.var [.sv J 0 O U,.j Y,.j
 aa]] d (λc e f g h i j=>d<=j->Bel j (D.sl e 0 f g)->Br (c==0) (kA 2 132 [] j (λa b=>cA 9 81 [.sv a1 4 e1 c1,.dg
 2 a,.j (ksW.wrap (I - 1))] e f g h i b (λa b c d e f g=>cA 9 81 [.sv a1 4 e1 c1,.dg 2 y1,.j (ksW.wrap (I
 - 1))] b c d e f g (λb c d e f g h=>cA 9 81 [.sv a1 4 e1 c1,.dg 2 y1,.j (ksW.wrap (I - 1))] c d e f g h
 (λc d e f g h i=>(3=([a,b,c]).length/\3=3)/\∀ j,ApA j [a,b,c]->∀ k,i<=k->wm k [j]->ACalls prog
 28 [.ag 9] [.j 5,.sv j 9 [a,b,c] 3] k (λa b=>k<=b->Off [j] a/\(Bel b a->ur E/\uP
 b (Q a d e f g h)))))))) (Br (c==1) (cP [D.t (bytes [120]),D.t (bytes [117]),D.t (bytes [118]),D.t (bytes [121])] 85 9 4 e f g h
 i j (λs b c d e f _ _ _ g=>cA 9 81 [.sv a1 4 e1 c1,.dg 2 a,.j (ksW.wrap (I - 1))] b c d e f g (λb
 c d e f g h=>kL 4 118 [.sv a1 4 e1 c1,.str s,.dg 2 a,.j 0] h (λa h i j=>cA 9 81 [.sv a 4 h i,.dg 2 y1,.j
 (ksW.wrap (I - 1))] c d e f g j (λa c d e f g h=>kA 9 120 [.str s,.dg 9 b,.dg 9 a] h (λa b=>ur E/\uP b (Q a c d e f g))))))) (∃ c:Int,(y1.cell 0)=D.j c/\Br (c==1) (cP [D.t (bytes
 [43]),D.t (bytes [42]),D.t (bytes [45])] 85 9 3 e f g h i j (λb c d e f g _ _ _ h=>cA 9 81 [.sv a1 4 e1 c1,.dg
 2 a,.j (ksW.wrap (I - 1))] c d e f g h (λc d e f g h i=>cA 9 81 [.sv a1 4 e1 c1,.dg 2 a,.j
 (ksW.wrap (I - 1))] d e f g h i (λa d e f g h i=>(2=([c,a]).length/\2=2)/\∀ j,ApA j
 [c,a]->∀ k,i<=k->wm k [j]->ACalls prog 136 [.ag 9] [.str b,.sv j 9 [c,a] 2] k (λa b=>k<=b->Off [j]
 a/\(Bel b a->ur E/\uP b (Q a d e f g h))))))) (cB 133 [.j 4] e f g h i j (fun
 b c d e f g h=>Br b (cA 9 81 [.sv a1 4 e1 c1,.dg 2 y1,.j (ksW.wrap (I - 1))] c d e f g h (λa b c
 d e f g=>(1=([a]).length/\1=1)/\∀ h,ApA h [a]->∀ i,g<=i->wm i [h]->ACalls prog 136 [.ag 9] [.str (bytes [33]),
 .sv h 9 [a] 1] i (λa g=>i<=g->Off [h] a/\(Bel g a->ur E/\uP g (Q a b c
 d e f))))) (cP [D.t (bytes [61]),D.t (bytes [60])] 85 9 2 c d e f g h (λb c d e f g _ _ _ h=>cA 9
 81 [.sv a1 4 e1 c1,.dg 2 a,.j (ksW.wrap (I - 1))] c d e f g h (λc d e f g h i=>cA 9 81 [.sv a1 4 e1 c1,
 .dg 2 a,.j (ksW.wrap (I - 1))] d e f g h i (λa d e f g h i=>(2=([c,a]).length/\2=2)/\∀
 j,ApA j [c,a]->∀ k,i<=k->wm k [j]->ACalls prog 136 [.ag 9] [.str b,.sv j 9 [c,a] 2] k (λa b=>k<=b
 -> Off [j] a/\(Bel b a->ur E/\uP b (Q a d e f g h))))))))))))))):yO E Q N0 a1 e1 c1 I J O U Y aa y1 ab ac ae ah ai aj ak al am ao aq au aw ax ay N:=
  hE CH h
theorem qr E(Q:QT [(Sh.row (OfNat.ofNat 3) 0),(Sh.sl 0),(Sh.int IntKind.i64),(Sh.int IntKind.i64)]) N0 a1 e1 c1 m5 c5 n6 I J O U Y r1 q1 N(h :
Br (decide (n6<(e1.length:Int))) (∀ b,N<=b->BCalls prog 137 [.i,.sl 0,.i,.i,.sl 0] [.pb 0 0 0 0,.sb 1 0 0 6 6] [Bx.var [.sv I 0 J O,
 .j U,.j Y],Bx.arr 3 0 [D.j 0,D.j 1,D.j 2,D.j 3,D.j 10006,D.j 500] 6] b (λn a c d e f g h i j=>b<=j->Bel j (D.sl a 0 c d) ->
 Bel j (D.sl g 0 h i)->ksL n6 e1/\∃ b:Int,(if 0=0 then D.cell (if 2=0 then D.cell (e1.getD n6.toNat ksD) 1
 else D.sub (e1.getD n6.toNat ksD) 1 2) 0 else D.sub (if 2=0 then D.cell (e1.getD n6.toNat ksD) 1 else D.sub (e1.getD n6.toNat ksD)
 1 2) 0 0)=D.j b/\Br (b==2) ((2:Int)≠(0:Int)/\(m5=r1.length/\c5=q1)/\zA r1 [D.j (Int.tmod n 2)] 8/\∀(b:Nat),yq E
 Q N0 a1 e1 c1 (r1++[D.j (Int.tmod n 2)]).length b (ksW.wrap (n6+1)) a c d e f (r1++[D.j (Int.tmod n 2)]) b j) ((m5=r1.length/\c5 =
 q1)/\zA r1 [D.j n] 8/\∀(b:Nat),yq E Q N0 a1 e1 c1 (r1++[D.j n]).length b (ksW.wrap (n6+1)) a c d e f (r1++[D.j
 n]) b j))) (ur E/\(m5=r1.length/\c5=q1)/\uP N (Q r1 c5 I J O U Y))):yq E Q N0 a1 e1 c1 m5 c5 n6 I J O U Y r1 q1 N:=
  hE BF h
theorem qz E(Q:QT [(Sh.ag 9),Sh.bool,(Sh.sl 0),(Sh.int IntKind.i64),(Sh.int IntKind.i64)]) N0 a1 e1 c1 n3 ab a0 I J O U Y aa y1 ac ae ah ai aj ak al am ao aq au aw ax ay az r3 q3 N(h :
Br (decide (I<(e1.length:Int))) (ksL I e1/\∃ n:Int,(if 0=0 then D.cell (e1.getD I.toNat ksD) 3 else D.sub
 (e1.getD I.toNat ksD) 3 0)=D.j n/\Br (n==n3) (ksL I e1/\kB 26 [.dg 2 (if 2=0 then D.cell (e1.getD I.toNat ksD) 1 else D.sub (e1.getD I.toNat ksD) 1 2),.dg 2 y1] N (λb a=>Br b (ksL I e1/\∃ s,(if 0=0 then D.cell
 (e1.getD I.toNat ksD) 0 else D.sub (e1.getD I.toNat ksD) 0 0)=D.t s/\kI 168 [.sv a1 4 e1 c1,.str s] a (λa b=>Br (a==I)
 (ksL I e1/\∃ a,(if 0=0 then D.cell (e1.getD I.toNat ksD) 0 else D.sub (e1.getD I.toNat ksD) 0 0)=D.t
 a/\kA 9 141 [.str a] b (λx a=>(ab=r3.length/\a0=q3)/\zA r3 [x] 136/\∀(c:Nat),zu E Q N0 a1 e1 c1 n3 (r3 ++
 [x]).length c (ksW.wrap (I+1)) J O U Y aa y1 ac ae ah ai aj ak al am ao aq au aw ax ay az (r3++[x]) c
 a)) (zu E Q N0 a1 e1 c1 n3 ab a0 (ksW.wrap (I+1)) J O U Y aa y1 ac ae ah ai aj ak al am ao aq
 au aw ax ay az r3 q3 b))) (zu E Q N0 a1 e1 c1 n3 ab a0 (ksW.wrap (I+1)) J O U Y aa y1 ac ae ah ai
 aj ak al am ao aq au aw ax ay az r3 q3 a))) (zu E Q N0 a1 e1 c1 n3 ab a0 (ksW.wrap (I+1)) J O U Y
 aa y1 ac ae ah ai aj ak al am ao aq au aw ax ay az r3 q3 N)) (Br ((ab:Int)==0) (ur E
 /\ ∀ a,N<=a->Q (D.ag [D.j 0,D.t b0,D.t b0,D.j 0,D.j 0,D.sl none 2 [] 0,D.j 0,D.sl none 2 [] 0,D.sl none 9 [] 0]) false J O U Y aa a)
 (∀ b,N<=b->BCalls prog 36 [.i,.sl 0,.i,.i] [.pb 0 0 0 0,.j (ab:Int)] [Bx.var [.sv J 0 O U,.j Y,.j aa]] b (λa c d e f g
 h=>b<=h->Bel h (D.sl c 0 d e)->(0<=a/\a<(ab:Int)/\(0+a.toNat:Nat)<r3.length)/\(0+a.toNat:Nat)<r3.length/\ur E/\uP h (Q (List.getD r3 (0+a.toNat:Nat) default) true c d e f g))))):zu E Q N0 a1 e1 c1 n3 ab a0 I J O U Y aa y1 ac ae ah ai aj ak al am ao aq au aw ax ay az r3 q3 N:=
  hE BJ h
theorem wX N x1 n2 I J O U Y(Q:QT [(Sh.ag 9),(Sh.sl 0),(Sh.int IntKind.i64),(Sh.int IntKind.i64)])(h:∀ E:Env,
Bel N x1->Bel N (D.sl I 0 J O)->∃ n:Int,(x1.cell 0)=D.j n/\Br (n==1) (∀ b,N<=b->BCalls prog 36 [.i,.sl 0,.i,.i]
 [.pb 0 0 0 0,.j 4] [Bx.var [.sv I 0 J O,.j U,.j Y]] b (λa c d e f g h=>b<=h->Bel h (D.sl c 0 d e)->kA 9 74 [.j a]
 h (λx a=>ur E/\uP a (Q x c d e f g)))) (Br (n==2) (∀ a,N<=a->BCalls prog 36 [.i,.sl 0,.i,.i] [.pb
 0 0 0 0,.j 2] [Bx.var [.sv I 0 J O,.j U,.j Y]] a (λb c d e f g h=>a<=h->Bel h (D.sl c 0 d e)->kA 9 73
 [.j b] h (λa b=>ur E/\uP b (Q a c d e f g)))) (Br (n==3) (∃ a b,∃ c:Nat,(x1.cell
 1)=D.sl a 2 b c/\ksL 0 b/\∃ a c,∃ d:Nat,(x1.cell 1)=D.sl a 2 c d/\ksL 1 c/\cA 9 135 [.dg 2 (c.getD 1 ksD),.j n2] I J O U Y N (λa c d e f g h=>kA 9
 43 [.str (bytes [119]),.dg 2 (b.getD 0 ksD),.dg 9 a] h (λa b=>ur E/\uP b (Q a c d
 e f g)))) (∃ a b,∃ c:Nat,(x1.cell 1)=D.sl a 2 b c/\ksL 0 b/\cA 9 135 [.dg 2 (b.getD 0 ksD),.j (ksW.wrap (n2+1))] I J O U Y N (λa b c d e f g=>w3 (1=([a]).length/\1=1) (∀ h
 i,g<=i->Fresh N i h [D.ag [a],D.sl none 2 [] 0,D.sl none 2 [] 0]->ur E/\∀ g,i<=g->Q (D.ag
 [D.j 10,D.t b0,D.t b0,D.j 0,D.j 0,D.sl none 2 [] 0,D.j 0,D.sl none 2 [] 0,D.sl h 9 [a] 1]) b c d e f g)))))):ksB 135 [.pb 0 0 0 0,.dg 2 x1,.int .i64 n2] [.var [.sv I 0 J O,.int .i64 U,.int .i64 Y]] N Q:=
  bE H3 h
theorem Fj N(m1 c1:Nat) I J O Y aa U ab(Q:QT [Sh.str,(Sh.sl 0),(Sh.int IntKind.i64),(Sh.int IntKind.i64),(Sh.sl 0)])(h:∀ E:Env,
Bel N (D.sl I 0 J O)->Bel N (D.sl none 0 U ab)->∀ b,N<=b->BCalls prog 36 [.i,.sl 0,.i,.i] [.pb 0 0 0 0,.j (m1:Int)]
 [Bx.var [.sv I 0 J O,.j Y,.j aa]] b (λn a c d e f g=>b<=g->Bel g (D.sl a 0 c d)->(0<=n/\n<(m1:Int)/\(0+n.toNat
 : Nat)<U.length)/\(0+n.toNat:Nat)<U.length/\∃ s,List.getD U (0+n.toNat:Nat) default=D.t s/\WF E [.var [.sv none 0 [] 0,.j 0,.j 0],
 .arr 9 0 [] 0]/\uP g (Q s a c d e f none U ab))):ksB 85 [.pb 0 0 0 0,.sb 1 0 0 m1 c1] [.var [.sv I 0 J O,.int .i64 Y,.int .i64 aa],.arr 9 0 U ab] N Q:=
  bE H0 h
theorem By N(m1 c1:Nat) I J O Y aa U ab(Q:QT [(Sh.int IntKind.i64),(Sh.sl 0),(Sh.int IntKind.i64),(Sh.int IntKind.i64),(Sh.sl 0)])(h:∀ E:Env,
Bel N (D.sl I 0 J O)->Bel N (D.sl none 0 U ab)->∀ b,N<=b->BCalls prog 36 [.i,.sl 0,.i,.i] [.pb 0 0 0 0,.j (m1:Int)]
 [Bx.var [.sv I 0 J O,.j Y,.j aa]] b (λn a c d e f g=>b<=g->Bel g (D.sl a 0 c d)->(0<=n/\n<(m1:Int)/\(0+n.toNat
 : Nat)<U.length)/\(0+n.toNat:Nat)<U.length/\∃ b:Int,List.getD U (0+n.toNat:Nat) default=D.j b/\WF E [.var [.sv none 0 [] 0,.j
 0,.j 0],.arr 3 0 [] 0]/\uP g (Q b a c d e f none U ab))):ksB 137 [.pb 0 0 0 0,.sb 1 0 0 m1 c1] [.var [.sv I 0 J O,.int .i64 Y,.int .i64 aa],.arr 3 0 U ab] N Q:=
  bE H0 h
end Go.Proofs.YtlaniepnglheoaaGreat
set_option maxRecDepth 100000
namespace Go.Proofs.YtlaniepnglheoaaGreat
open Go Go.Proofs Go.Proofs.Tryz
variable {f:FuncId}
def shA:FuncId->List Sh:=λf=>match Tr f [(74,[.pk,.int .i64,.str,.str,.int .i64,.dc,.dc,.dc,.dc,.row 30 9]),(73,[.pk,.int .i64,.str,.str,.int .i64,.dc,.dc,.dc,.dc,.row 30 9]),(141,[.pk,.int .i64,.str,.str,.int .i64,.dc,.dc,.dc,.dc,.row 30 9]),(184,[.row 0 1000007,.pk,.int .i64,.str,.str,.int .i64,.dc,.dc,.dc,.dc,.row 30 9]),(140,[.row 0 1000007,.pk,.int .i64,.str,.str,.int .i64,.dc,.dc,.dc,.dc,.row 30 9])]with
 | []=>sh f
 | l=>l
theorem U6 {rs}{Q:QT rs}{N} H{args F}(h:F)(hc:wS prog f=true:=by kernel_rfl)(I:F=MV prog shA f rs Q N H 400 args:=by kernel_rfl):ACalls prog f rs args N Q:=WT RG hc I h
theorem Qn {full}{Q:QT full}{N} H{args bx}{F:Env->Prop}(h:∀ E,F E)(hc:wS prog f=true:=by kernel_rfl)(I:∀ E,F E=MU prog shA f full Q N H 400 args bx E:=by intro E;kernel_rfl):BCalls prog f full args bx N Q:=Sc RG hc I h
theorem Co {rs}{Q:QT rs}{N0 M} H{I st F}(h:F)(J:F=FI st λst=>W prog shA f rs Q N0 M H 400 true I st:=by kernel_rfl):AT prog f rs Q N0 M I st:=ZE RG J h
def Jz:Hint:=⟨[],[],[(4,hs 6 [ec 4 [21]]),(6,[en 0,en 1,en 2,en 3,eh 4,ec 5 [27,31],eh 6])]⟩
def zt:Hint:=⟨[hc 18 [0,1,4,5,6,7] [] [(5,8,30,9)]],[hc 11 [0,1,4,5] [] [(5,8,30,9)],hc 13 [0,1,4,5] [] [(5,8,30,9)],hc 16 [0,1,4,5] [] [(5,8,30,9)]],[(20,[en 0,en 1,en 2,en 3,en 4,eh 5,{ i:=6,hard:=true,cl:=[69],fs:=[5,69] },eh 7,en 8,eh 9])]⟩
def r5:Hint:=⟨[hc 10 [2,3,4,5],hc 15 [2,3,6]],[],[(6,[en 0,en 1,eh 2,en 3,eh 4,en 5,eh 6]),(12,hs 3 [ec 1 [34]]),(17,hs 4 [ec 2 [42,43]])]⟩
def J0:Hint:=⟨[],[],[(10,[en 0,en 1,eh 2,{ i:=3,hard:=true,cl:=[32],fs:=[3,32] },eh 4,en 5,eh 6])]⟩
def BG:Hint:=⟨[],[hc 9 [3,4,5]],[(9,[en 0,en 1,en 2,eh 3])]⟩
def tP:Hint:=⟨[],[],[(2,[en 0,en 1,en 2,en 3,eh 4,en 5])]⟩
def xj E(Q:QT [.sl 4,.ag 9,.sl 0,.i,.i]) N0 m4 c4 I J O U Y aa ab ac ae ah ai aj ak al am ao aq au aw ax r2 q2 y3 N:=ksP 37 9 E Q N0 (an 3 (.pb 1 0 0 0::.sb 2 4 0 m4 c4::.pb 3 0 0 0::an 29 [])) [.var [.sv I 0 J O,.j U,.j Y],ksV aa ab ac ae ah ai aj ak al am ao aq au aw ax,.arr 49 4 r2 q2,.vd y3 9] N
def yP E(Q:QT [.pk,.i,.str,.str,.i,.dc,.dc,.dc,.dc,.row 30 9,.sl 0,.i,.i]) N0 n1 I J O U Y aa ab ac ae ah ai aj ak al am ao aq au aw ax ay az a0 a2 a3 a4 a5 a6 a7 a8 a9 ba bb bc r3 q3 N:=ksP 140 11 E Q N0 (.pb 0 0 0 0::.j n1::an 2 (.pb 1 0 0 0::.pb 2 0 0 0::an 68 [])) [.var [.sv I 0 J O,.j U,.j Y],ksV aa ab ac ae ah ai aj ak al am ao aq au aw ax,.var [.j ay,.str az,.str a0,.j a2,.j a3,.sv a4 2 a5 a6,.j a7,.sv a8 2 a9 ba,.sb 3 9 0 bb bc],.arr 30 9 r3 q3] N
def ww E(Q:QT [.ag 2,.sl 0,.i,.i]) N0 n4 n5 I J O U Y aa ab ac ae y2 N:=ksO 142 10 E Q N0 (an 2 (.pb 1 0 0 0::.pb 2 0 0 0::.j n4::.j n5::an 40 [])) [.var [.sv I 0 J O,.j U,.j Y],.var [.j aa,.sv ab 2 ac ae],.vd y2 2] N
def wx E(Q:QT [.ag 2,.sl 0,.i,.i]) N0 n6 I J O U Y aa ab ac ae y2 N:=ksO 142 15 E Q N0 (an 2 (.pb 1 0 0 0::.pb 2 0 0 0::an 2 (.j n6::an 39 []))) [.var [.sv I 0 J O,.j U,.j Y],.var [.j aa,.sv ab 2 ac ae],.vd y2 2] N
def va E(Q:QT [.pk,.i,.str,.str,.i,.dc,.dc,.dc,.dc,.row 30 9,.sl 0,.i,.i]) N0 n1 I J O U Y aa ab ac ae ah ai aj ak al am ao aq au aw ax ay az a0 a2 a3 a4 a5 a6 a7 a8 a9 ba r3 q3 N:=ksP 140 13 E Q N0 (.pb 0 0 0 0::.j n1::an 2 (.pb 1 0 0 0::.pb 2 0 0 0::an 68 [])) [.var [.sv I 0 J O,.j U,.j Y],ksV aa ab ac ae ah ai aj ak al am ao aq au aw ax,.var [.j ay,.str az,.str a0,.j a2,.dc a3,.dc a4,.j a5,.sv a6 2 a7 a8,.sb 3 9 0 a9 ba],.arr 30 9 r3 q3] N
def vb E(Q:QT [.pk,.i,.str,.str,.i,.dc,.dc,.dc,.dc,.row 30 9,.sl 0,.i,.i]) N0 n1 I J O U Y aa ab ac ae ah ai aj ak al am ao aq au aw ax ay az a0 a2 a3 a4 a5 a6 a7 a8 a9 ba bb bc r3 q3 N:=ksP 140 13 E Q N0 (.pb 0 0 0 0::.j n1::an 2 (.pb 1 0 0 0::.pb 2 0 0 0::an 68 [])) [.var [.sv I 0 J O,.j U,.j Y],ksV aa ab ac ae ah ai aj ak al am ao aq au aw ax,.var [.j ay,.str az,.str a0,.j a2,.j a3,.sv a4 2 a5 a6,.j a7,.sv a8 2 a9 ba,.sb 3 9 0 bb bc],.arr 30 9 r3 q3] N
def tU E(Q:QT [.pk,.i,.str,.str,.i,.dc,.dc,.dc,.dc,.row 30 9,.sl 0,.i,.i]) N0 n1 I J O U Y aa ab ac ae ah ai aj ak al am ao aq au aw ax ay az a0 a2 a3 a4 a5 a6 a7 a8 r3 q3 N:=ksP 140 16 E Q N0 (.pb 0 0 0 0::.j n1::an 2 (.pb 1 0 0 0::.pb 2 0 0 0::an 68 [])) [.var [.sv I 0 J O,.j U,.j Y],ksV aa ab ac ae ah ai aj ak al am ao aq au aw ax,.var [.j ay,.str az,.str a0,.j a2,.dc a3,.dc a4,.dc a5,.dc a6,.sb 3 9 0 a7 a8],.arr 30 9 r3 q3] N
def ve E(Q:QT [.pk,.i,.str,.str,.i,.dc,.dc,.dc,.dc,.row 30 9,.sl 0,.i,.i]) N0 n1 I J O U Y aa ab ac ae ah ai aj ak al am ao aq au aw ax ay az a0 a2 a3 a4 a5 a6 a7 a8 a9 ba r3 q3 N:=ksP 140 16 E Q N0 (.pb 0 0 0 0::.j n1::an 2 (.pb 1 0 0 0::.pb 2 0 0 0::an 68 [])) [.var [.sv I 0 J O,.j U,.j Y],ksV aa ab ac ae ah ai aj ak al am ao aq au aw ax,.var [.j ay,.str az,.str a0,.j a2,.dc a3,.dc a4,.j a5,.sv a6 2 a7 a8,.sb 3 9 0 a9 ba],.arr 30 9 r3 q3] N
def vf E(Q:QT [.pk,.i,.str,.str,.i,.dc,.dc,.dc,.dc,.row 30 9,.sl 0,.i,.i]) N0 n1 I J O U Y aa ab ac ae ah ai aj ak al am ao aq au aw ax ay az a0 a2 a3 a4 a5 a6 a7 a8 a9 ba r3 q3 N:=ksP 140 16 E Q N0 (.pb 0 0 0 0::.j n1::an 2 (.pb 1 0 0 0::.pb 2 0 0 0::an 68 [])) [.var [.sv I 0 J O,.j U,.j Y],ksV aa ab ac ae ah ai aj ak al am ao aq au aw ax,.var [.j ay,.str az,.str a0,.j a2,.j a3,.sv a4 2 a5 a6,.dc a7,.dc a8,.sb 3 9 0 a9 ba],.arr 30 9 r3 q3] N
def vg E(Q:QT [.pk,.i,.str,.str,.i,.dc,.dc,.dc,.dc,.row 30 9,.sl 0,.i,.i]) N0 n1 I J O U Y aa ab ac ae ah ai aj ak al am ao aq au aw ax ay az a0 a2 a3 a4 a5 a6 a7 a8 a9 ba bb bc r3 q3 N:=ksP 140 16 E Q N0 (.pb 0 0 0 0::.j n1::an 2 (.pb 1 0 0 0::.pb 2 0 0 0::an 68 [])) [.var [.sv I 0 J O,.j U,.j Y],ksV aa ab ac ae ah ai aj ak al am ao aq au aw ax,.var [.j ay,.str az,.str a0,.j a2,.j a3,.sv a4 2 a5 a6,.j a7,.sv a8 2 a9 ba,.sb 3 9 0 bb bc],.arr 30 9 r3 q3] N
def vh E(Q:QT [.pk,.i,.str,.str,.i,.dc,.dc,.dc,.dc,.row 30 9,.sl 0,.i,.i]) N0 n1 n6 n7 I J O U Y aa ab ac ae ah ai aj ak al am ao aq au aw ax ay az a0 a2 a3 a4 a5 a6 a7 a8 r3 q3 N:=ksO 140 18 E Q N0 (.pb 0 0 0 0::.j n1::an 2 (.pb 1 0 0 0::.pb 2 0 0 0::.j n6::.j n7::an 66 [])) [.var [.sv I 0 J O,.j U,.j Y],ksV aa ab ac ae ah ai aj ak al am ao aq au aw ax,.var [.j ay,.str az,.str a0,.j a2,.dc a3,.dc a4,.dc a5,.dc a6,.sb 3 9 0 a7 a8],.arr 30 9 r3 q3] N
def xz E(Q:QT [.pk,.i,.str,.str,.i,.dc,.dc,.dc,.dc,.row 30 9,.sl 0,.i,.i]) N0 n1 n6 n7 I J O U Y aa ab ac ae ah ai aj ak al am ao aq au aw ax ay az a0 a2 a3 a4 a5 a6 a7 a8 a9 ba r3 q3 N:=ksO 140 18 E Q N0 (.pb 0 0 0 0::.j n1::an 2 (.pb 1 0 0 0::.pb 2 0 0 0::.j n6::.j n7::an 66 [])) [.var [.sv I 0 J O,.j U,.j Y],ksV aa ab ac ae ah ai aj ak al am ao aq au aw ax,.var [.j ay,.str az,.str a0,.j a2,.dc a3,.dc a4,.j a5,.sv a6 2 a7 a8,.sb 3 9 0 a9 ba],.arr 30 9 r3 q3] N
def x8 E(Q:QT [.pk,.i,.str,.str,.i,.dc,.dc,.dc,.dc,.row 30 9,.sl 0,.i,.i]) N0 n1 n6 n7 I J O U Y aa ab ac ae ah ai aj ak al am ao aq au aw ax ay az a0 a2 a3 a4 a5 a6 a7 a8 a9 ba r3 q3 N:=ksO 140 18 E Q N0 (.pb 0 0 0 0::.j n1::an 2 (.pb 1 0 0 0::.pb 2 0 0 0::.j n6::.j n7::an 66 [])) [.var [.sv I 0 J O,.j U,.j Y],ksV aa ab ac ae ah ai aj ak al am ao aq au aw ax,.var [.j ay,.str az,.str a0,.j a2,.j a3,.sv a4 2 a5 a6,.dc a7,.dc a8,.sb 3 9 0 a9 ba],.arr 30 9 r3 q3] N
def x9 E(Q:QT [.pk,.i,.str,.str,.i,.dc,.dc,.dc,.dc,.row 30 9,.sl 0,.i,.i]) N0 n1 n6 n7 I J O U Y aa ab ac ae ah ai aj ak al am ao aq au aw ax ay az a0 a2 a3 a4 a5 a6 a7 a8 a9 ba bb bc r3 q3 N:=ksO 140 18 E Q N0 (.pb 0 0 0 0::.j n1::an 2 (.pb 1 0 0 0::.pb 2 0 0 0::.j n6::.j n7::an 66 [])) [.var [.sv I 0 J O,.j U,.j Y],ksV aa ab ac ae ah ai aj ak al am ao aq au aw ax,.var [.j ay,.str az,.str a0,.j a2,.j a3,.sv a4 2 a5 a6,.j a7,.sv a8 2 a9 ba,.sb 3 9 0 bb bc],.arr 30 9 r3 q3] N
theorem In N n0(Q:QT [.pk,.int .i64,.str,.str,.int .i64,.dc,.dc,.dc,.dc,.row 30 9])(h :
uP N (Q 2 b0 b0 n0 (D.j 0) (D.sl none 2 [] 0) (D.j 0) (D.sl none 2 [] 0) [] 0)):ksC 74 [.j n0] N Q:=
 U6 H0 h
theorem Hp N n0(Q:QT [.pk,.int .i64,.str,.str,.int .i64,.dc,.dc,.dc,.dc,.row 30 9])(h :
uP N (Q 3 b0 b0 n0 (D.j 0) (D.sl none 2 [] 0) (D.j 0) (D.sl none 2 [] 0) [] 0)):ksC 73 [.j n0] N Q:=
 U6 H0 h
theorem BX N I(Q:QT [.pk,.int .i64,.str,.str,.int .i64,.dc,.dc,.dc,.dc,.row 30 9])(h :
uP N (Q 1 I b0 0 (D.j 0) (D.sl none 2 [] 0) (D.j 0) (D.sl none 2 [] 0) [] 0)):ksC 141 [.str I] N Q:=
 U6 H0 h
theorem t9 N I e0 J(Q:QT [.sl 4,.ag 9,.sl 0])(h :
Bel N (D.sl I 0 e0 J)->∀ b,N<=b->ACalls prog 13 [.sl 4,.ag 9,.sl 0] [.sv I 0 e0 J] b (λa c d x e f g h=>b<=h->Bel h (D.sl a
 4 c d)->Bel h x->Bel h (D.sl e 0 f g)->uP h (Q a c d x e f g))):ksC 5 [.sv I 0 e0 J] N Q:=
  U6 tP h
theorem EY N I J O U Y(Q:QT [(Sh.sl 4),(Sh.ag 9),(Sh.sl 0),(Sh.int IntKind.i64),(Sh.int IntKind.i64)])(h:∀ E:Env,
Bel N (D.sl I 0 J O)->∀ b,N<=b->BCalls prog 34 [.row 49 4,.ag 9,.sl 0,.i,.i] [.pb 0 0 0 0] [Bx.var [.sv I 0 J
 O,.j U,.j Y]] b (λa c x d e f n g h=>b<=h->Bel h x->Bel h (D.sl d 0 e f)->Bel h (D.ag a)->∀ b,h<=b->BCalls
 prog 36 [.i,.sl 0,.i,.i] [.pb 0 0 0 0,.j 8] [Bx.var [.sv d 0 e f,.j n,.j g]] b (λd e f g h i j=>b<=j->Bel j (D.sl e 0
 f g)->Br (d==0) (cP [D.t (bytes [121]),D.t (bytes [108,101,116]),D.t (bytes [120])] 85 9 3 e f g h i j (λs b d e f g _
 _ _ h=>((0:Int)<=(0:Int)/\0<(a.length:Int)/\0<a.length)/\0<a.length/\xj E Q N a.length c b d e f g 0 b0 b0
 0 0 none [] 0 0 none [] 0 none [] 0 (List.set a 0 (D.ag (Oj 0 [D.t s] (D.cells (a.getD 0 ksD))))) c x h)) (Br (d==1) (cA 2 86 [.j 2] e f
 g h i j (λb d e f g h i=>((0:Int)<=(0:Int)/\0<(a.length:Int)/\0<a.length)/\0<a.length/\xj E Q N
 a.length c d e f g h 0 b0 b0 0 0 none [] 0 0 none [] 0 none [] 0 (List.set a 0 (D.ag (Oj 1 [(b.cell 0),(b.cell 1)] (D.cells (a.getD 0 ksD))))) c x i)) (Br (d==2) (cA 9 87 [] e f g h i j (λb d e f g h i=>w4 (a.length=a.length/\c=c) (∀ j k,
 i<=k->Fresh N k j [D.ag a,b]->ur E/\uP k (Q j a c b d e f g h)))) (xj E
 Q N a.length c e f g h i 0 b0 b0 0 0 none [] 0 0 none [] 0 none [] 0 a c x j)))))):ksB 37 [.pb 0 0 0 0] [.var [.sv I 0 J O,.int .i64 U,.int .i64 Y]] N Q:=
  Qn BG h
theorem FK E(Q:QT [(Sh.sl 4),(Sh.ag 9),(Sh.sl 0),(Sh.int IntKind.i64),(Sh.int IntKind.i64)]) N0 m4 c4 a0_0 e0_0 c0_0 n0_1 n0_2 n1_0 s1_1 s1_2 n1_3 n1_4 a1_5 e1_5 c1_5 n1_6 a1_7 e1_7 c1_7 a1_8 e1_8 c1_8 r2 q2 y3 N(h :
(m4=r2.length/\c4=q2)/\w2 (m4=r2.length/\c4=q2) (∀ a b,N<=b->Fresh N0 b a [D.ag r2,y3]->ur E/\uP
 b (Q a r2 q2 y3 a0_0 e0_0 c0_0 n0_1 n0_2))):xj E Q N0 m4 c4 a0_0 e0_0 c0_0 n0_1 n0_2 n1_0 s1_1 s1_2 n1_3 n1_4 a1_5 e1_5 c1_5 n1_6 a1_7 e1_7 c1_7 a1_8 e1_8 c1_8 r2 q2 y3 N:=
  Co BG h
theorem pC N n1 I J O U Y(Q:QT [(Sh.ag 2),(Sh.sl 0),(Sh.int IntKind.i64),(Sh.int IntKind.i64)])(h:∀ E:Env,
Bel N (D.sl I 0 J O)->Br (decide (n1<2)) (∀ b,N<=b->BCalls prog 137 [.i,.sl 0,.i,.i,.sl 0] [.pb 0 0 0 0,.sb 1 0 0 3 3]
 [Bx.var [.sv I 0 J O,.j U,.j Y],Bx.arr 3 0 [D.j 1,D.j 1,D.j 2] 3] b (λn a c d e f g h i j=>b<=j->Bel j (D.sl a
 0 c d)->Bel j (D.sl g 0 h i)->ur E/\uP j (Q (D.ag [D.j n,D.sl none 2 [] 0]) a c d e f))) (cB 133 [.j
 2] I J O U Y N (λb a c d e f g=>Br b (∀ b,g<=b->BCalls prog 137 [.i,.sl 0,.i,.i,.sl 0] [.pb 0 0 0 0,.sb 1 0 0 3
 3] [Bx.var [.sv a 0 c d,.j e,.j f],Bx.arr 3 0 [D.j 1,D.j 1,D.j 2] 3] b (λa c d e f g h i j k=>b<=k->Bel k (D.sl
 c 0 d e)->Bel k (D.sl h 0 i j)->ur E/\uP k (Q (D.ag [D.j a,D.sl none 2 [] 0]) c d e f
 g))) (cB 133 [.j 2] a c d e f g (λa b c d e f g=>Br a (cA 2 86 [.j (ksW.wrap (n1 - 1))] b c d e f g
 (λx a b c d e f=>kA 2 138 [.dg 2 x] f (λf g=>ur E/\uP g (Q f a b c d
 e)))) (cA 2 86 [.j (ksW.wrap (n1 - 1))] b c d e f g (λa b c d e f g=>cA 2 86 [.j (ksW.wrap (n1 - 1))] b
 c d e f g (λb c d e f g h=>kA 2 139 [.dg 2 a,.dg 2 b] h (λa b=>ur E /\
 uP b (Q a c d e f g)))))))))):ksB 86 [.pb 0 0 0 0,.int .i64 n1] [.var [.sv I 0 J O,.int .i64 U,.int .i64 Y]] N Q:=
  Qn Jz h
theorem Fl N I J O U Y(Q:QT [(Sh.ag 9),(Sh.sl 0),(Sh.int IntKind.i64),(Sh.int IntKind.i64)])(h:∀ E:Env,
Bel N (D.sl I 0 J O)->∀ b,N<=b->BCalls prog 36 [.i,.sl 0,.i,.i] [.pb 0 0 0 0,.j 4] [Bx.var [.sv I 0 J O,.j
 U,.j Y]] b (λn a c d e f g=>b<=g->Bel g (D.sl a 0 c d)->∀ b,g<=b->BCalls prog 140 [.pk,.i,.str,.str,.i,.dc,.dc,.dc,
 .dc,.row 30 9,.sl 0,.i,.i] [.pb 0 0 0 0,.j (ksW.wrap (1+n))] [Bx.var [.sv a 0 c d,.j e,.j f]] b (λa s c d x e f g h i
 j k l m n o=>b<=o->Bel o (D.sl j 0 k l)->Bel o (D.ag h)->∀ b,o<=b->BCalls prog 36 [.i,.sl 0,.i,.i] [.pb 0 0 0 0,.j 14]
 [Bx.var [.sv j 0 k l,.j m,.j n]] b (λj k l m n o p=>b<=p->Bel p (D.sl k 0 l m)->Br (j==0) (∀ a,p<=a ->
 BCalls prog 36 [.i,.sl 0,.i,.i] [.pb 0 0 0 0,.j 15] [Bx.var [.sv k 0 l m,.j n,.j o]] a (λb j k l m n o=>a<=o->Bel o
 (D.sl j 0 k l)->w4 (h.length=h.length/\i=i) (∀ a p,o<=p->Fresh N p a [D.ag h,x,e,f,g]->ur E/\uP p (Q (D.ag [D.j b,D.t s,D.t c,D.j d,x,e,f,g,D.sl a 9 h i]) j k l m n)))) (Br (j==1) (∀
 b,p<=b->BCalls prog 137 [.i,.sl 0,.i,.i,.sl 0] [.pb 0 0 0 0,.sb 1 0 0 5 5] [Bx.var [.sv k 0 l m,.j n,.j o],Bx.arr 3 0 [D.j 0,D.j 1,
 D.j 10006,D.j 10007,D.j (-1)] 5] b (λd j k l m n o p q r=>b<=r->Bel r (D.sl j 0 k l)->Bel r (D.sl o 0 p
 q)->w4 (h.length=h.length/\i=i) (∀ b o,r<=o->Fresh N o b [D.ag h,x,e,f,g]->ur E/\uP o (Q (D.ag [D.j a,D.t s,D.t c,D.j d,x,e,f,g,D.sl b 9 h i]) j k l m n)))) (Br (j==2) (cP [D.t b0,D.t
 (bytes [120]),D.t (bytes [108,101,116]),D.t (bytes [97,98,99,100,101]),D.t (bytes [43])] 85 9 5 k l m n o p (λb j k l m n
 _ _ _ o=>w4 (h.length=h.length/\i=i) (∀ p q,o<=q->Fresh N q p [D.ag h,x,e,f,g]->ur E/\uP q (Q (D.ag [D.j a,D.t b,D.t c,D.j d,x,e,f,g,D.sl p 9 h i]) j k l m n)))) (Br (j==3)
 (∀ b,p<=b->ACalls prog 141 [.pk,.i,.str,.str,.i,.dc,.dc,.dc,.dc,.row 30 9] [.str (bytes [120])] b (λj p q r t u v w y
 z A=>b<=A->Bel A (D.ag y)->(y.length=y.length/\z=z)/\∀ b B,A<=B->Fresh N B b [D.ag y,t,u,v,w,
 x,e,f,g,D.ag h]->(h.length=h.length/\i=i)/\zA h [D.ag [D.j j,D.t p,D.t q,D.j r,t,u,v,w,D.sl b
 9 y z]] 136/\∀(i:Nat),w4 ((h++[D.ag [D.j j,D.t p,D.t q,D.j r,t,u,v,w,D.sl b 9 y z]]).length=(h++[D.ag
 [D.j j,D.t p,D.t q,D.j r,t,u,v,w,D.sl b 9 y z]]).length/\i=i) (∀ A C,B<=C->Fresh N C A [D.ag (h
 ++ [D.ag [D.j j,D.t p,D.t q,D.j r,t,u,v,w,D.sl b 9 y z]]),x,e,f,g]->ur E/\∀
 B,C<=B->Q (D.ag [D.j a,D.t s,D.t c,D.j d,x,e,f,g,D.sl A 9 (h++[D.ag [D.j j,D.t p,D.t q,D.j r,t,u,v,
 w,D.sl b 9 y z]]) i]) k l m n o B))) (Br (j==4) (cA 2 142 [] k l m n o p (λb e j k l m n=>w4
 (h.length=h.length/\i=i) (∀ o p,n<=p->Fresh N p o [D.ag h,(b.cell 0),(b.cell 1),f,g]->ur E/\uP p (Q (D.ag [D.j a,D.t s,D.t c,D.j d,(b.cell 0),(b.cell 1),f,g,D.sl o 9 h i]) e j k l
 m)))) (Br (j==5) (cP [D.t (bytes [120]),D.t (bytes [122])] 85 9 2 k l m n o p (λb c j k l m _ _ _ n=>w4
 (h.length=h.length/\i=i) (∀ o p,n<=p->Fresh N p o [D.ag h,x,e,f,g]->ur E /\
 uP p (Q (D.ag [D.j a,D.t s,D.t b,D.j d,x,e,f,g,D.sl o 9 h i]) c j k l m)))) (w4 (h.length=h.length/\i =
 i) (∀ b j,p<=j->Fresh N j b [D.ag h,x,e,f,g]->ur E/\uP j (Q (D.ag [D.j a,D.t s,D.t
 c,D.j d,x,e,f,g,D.sl b 9 h i]) k l m n o)))))))))))):ksB 87 [.pb 0 0 0 0] [.var [.sv I 0 J O,.int .i64 U,.int .i64 Y]] N Q:=
  Qn J0 h
theorem AX N n1 I J O U Y(Q:QT [Sh.pk,(Sh.int IntKind.i64),Sh.str,Sh.str,(Sh.int IntKind.i64),Sh.dc,Sh.dc,Sh.dc,Sh.dc,(Sh.row (OfNat.ofNat 30) 9),(Sh.sl 0),(Sh.int IntKind.i64),(Sh.int IntKind.i64)])(h:∀ E:Env,
Bel N (D.sl I 0 J O)->Br (decide (n1<2)) (∀ b,N<=b->BCalls prog 184 [.pk,.i,.str,.str,.i,.dc,.dc,.dc,.dc,.row 30 9,
 .sl 0,.i,.i] [.pb 0 0 0 0] [Bx.var [.sv I 0 J O,.j U,.j Y]] b (λn s a c x d e f g h i j k l m o=>b<=o ->
 Bel o (D.sl i 0 j k)->Bel o (D.ag g)->ur E/\(g.length=g.length/\h=h)/\uP o (Q n s a c x d e
 f g h i j k l m))) (cB 133 [.j 5] I J O U Y N (λb a c d e f g=>Br b (∀ b,g<=b->BCalls prog 184 [.pk,.i,
 .str,.str,.i,.dc,.dc,.dc,.dc,.row 30 9,.sl 0,.i,.i] [.pb 0 0 0 0] [Bx.var [.sv a 0 c d,.j e,.j f]] b (λa c d e f g h
 i j k l m n o p q=>b<=q->Bel q (D.sl l 0 m n)->Bel q (D.ag j)->ur E/\(j.length
 = j.length/\k=k)/\uP q (Q a c d e f g h i j k l m n o p))) (∀ b,g<=b->BCalls prog 137 [.i,.sl 0,.i,.i,.sl
 0] [.pb 0 0 0 0,.sb 1 0 0 12 12] [Bx.var [.sv a 0 c d,.j e,.j f],Bx.arr 3 0 [D.j 4,D.j 5,D.j 6,D.j 7,D.j 8,D.j 9,D.j 10,D.j 11,D.j 12,
 D.j 13,D.j 10,D.j 4] 12] b (λa c d e f g h i j k=>b<=k->Bel k (D.sl c 0 d e)->Bel k (D.sl h 0 i j)->Br
 (a==4) (cP [D.t (bytes [43]),D.t (bytes [45]),D.t (bytes [42]),D.t (bytes [61]),D.t (bytes [60]),D.t (bytes [38]),D.t (bytes [124]),D.t (bytes
 [33])] 85 9 8 c d e f g k (λb c d e f g _ _ _ h=>yP E Q N n1 c d e f g 0 b0 b0 0 0 none []
 0 0 none [] 0 none [] 0 a b b0 0 0 none [] 0 0 none [] 0 0 0 [] 0 h)) (Br (a==6) (cP [D.t (bytes [120]),D.t (bytes [121]),D.t (bytes [102])] 85 9
 3 c d e f g k (λb c d e f g _ _ _ h=>yP E Q N n1 c d e f g 0 b0 b0 0 0 none [] 0 0 none
 [] 0 none [] 0 a b b0 0 0 none [] 0 0 none [] 0 0 0 [] 0 h)) (Br (a==8) (cP [D.t (bytes [120]),D.t (bytes [121]),D.t (bytes [102])] 85 9 3 c
 d e f g k (λb c d e f g _ _ _ h=>yP E Q N n1 c d e f g 0 b0 b0 0 0 none [] 0 0 none
 [] 0 none [] 0 a b b0 0 0 none [] 0 0 none [] 0 0 0 [] 0 h)) (Br (a==9) (cP [D.t (bytes [120]),D.t (bytes [121]),D.t (bytes [102])] 85 9 3 c
 d e f g k (λb c d e f g _ _ _ h=>yP E Q N n1 c d e f g 0 b0 b0 0 0 none [] 0 0 none
 [] 0 none [] 0 a b b0 0 0 none [] 0 0 none [] 0 0 0 [] 0 h)) (yP E Q N n1 c d e f g 0 b0 b0 0 0 none [] 0 0 none [] 0 none [] 0
 a b0 b0 0 0 none [] 0 0 none [] 0 0 0 [] 0 k))))))))):ksB 140 [.pb 0 0 0 0,.int .i64 n1] [.var [.sv I 0 J O,.int .i64 U,.int .i64 Y]] N Q:=
  Qn zt h
theorem Fk N I J O U Y(Q:QT [(Sh.ag 2),(Sh.sl 0),(Sh.int IntKind.i64),(Sh.int IntKind.i64)])(h:∀ E:Env,
Bel N (D.sl I 0 J O)->cA 2 86 [.j 4] I J O U Y N (λx a b c n d e=>∀ f,e<=f->BCalls prog 36 [.i,
 .sl 0,.i,.i] [.pb 0 0 0 0,.j 10] [Bx.var [.sv a 0 b c,.j n,.j d]] f (λa b c d e g h=>f<=h->Bel h (D.sl b 0 c d)->Br
 (a==0) (∀ a,h<=a->BCalls prog 36 [.i,.sl 0,.i,.i] [.pb 0 0 0 0,.j 6] [Bx.var [.sv b 0 c d,.j e,.j g]] a (λb c d e f
 g h=>a<=h->Bel h (D.sl c 0 d e)->ur E/\uP h (Q (D.ag [D.j b,(x.cell 1)]) c d e f g)))
 (Br (a==1) (∃ a f,∃ i:Nat,(x.cell 1)=D.sl a 2 f i/\kA 2 82 [] h (λh j=>YU a f i [h]/\zA f [h] 32/\∀
 (a:Nat),w4 ((f++[h]).length=(f++[h]).length/\a=a) (∀ i k,j<=k->Fresh N k i [D.ag (f++[h]),(x.cell 0)]->ur E/\uP k (Q (D.ag [(x.cell 0),D.sl i 2 (f++[h]) a]) b c d e g)))) (Br (a==2) (∀ a,h<=a ->
 BCalls prog 36 [.i,.sl 0,.i,.i] [.pb 0 0 0 0,.j 6] [Bx.var [.sv b 0 c d,.j e,.j g]] a (λb c d e f g h=>a<=h->Bel
 h (D.sl c 0 d e)->ww E Q N (ksW.wrap (1+b)) 0 c d e f g 0 none [] 0 x h)) (Br (a==3) (wx E Q
 N 0 b c d e g 0 none [] 0 x h) (ur E/\uP h (Q x b c d e g)))))))):ksB 142 [.pb 0 0 0 0] [.var [.sv I 0 J O,.int .i64 U,.int .i64 Y]] N Q:=
  Qn r5 h
theorem Fm N I J O U Y(Q:QT [Sh.pk,(Sh.int IntKind.i64),Sh.str,Sh.str,(Sh.int IntKind.i64),Sh.dc,Sh.dc,Sh.dc,Sh.dc,(Sh.row (OfNat.ofNat 30) 9),(Sh.sl 0),(Sh.int IntKind.i64),(Sh.int IntKind.i64)])(h:∀ E:Env,
Bel N (D.sl I 0 J O)->∀ b,N<=b->BCalls prog 36 [.i,.sl 0,.i,.i] [.pb 0 0 0 0,.j 4] [Bx.var [.sv I 0 J O,.j
 U,.j Y]] b (λn a c d e f g=>b<=g->Bel g (D.sl a 0 c d)->Br (n==0) (∀ b,g<=b->BCalls prog 137 [.i,.sl 0,.i,.i,.sl 0] [.pb
 0 0 0 0,.sb 1 0 0 5 5] [Bx.var [.sv a 0 c d,.j e,.j f],Bx.arr 3 0 [D.j 0,D.j 1,D.j 2,D.j 3,D.j 10006] 5] b (λa c d e f g h i
 j k=>b<=k->Bel k (D.sl c 0 d e)->Bel k (D.sl h 0 i j)->∀ b,k<=b->ACalls prog 74 [.pk,.i,.str,.str,.i,.dc,.dc,.dc,.dc,
 .row 30 9] [.j a] b (λa s h i x j k l m n o=>b<=o->Bel o (D.ag m)->ur E/\(m.length
 = m.length/\n=n)/\uP o (Q a s h i x j k l m n c d e f g)))) (Br (n==1) (∀ b,g<=b->BCalls prog 36 [.i,.sl 0,.i,
 .i] [.pb 0 0 0 0,.j 2] [Bx.var [.sv a 0 c d,.j e,.j f]] b (λa c d e f g h=>b<=h->Bel h (D.sl c 0 d e)->∀ b,h<=b
 -> ACalls prog 73 [.pk,.i,.str,.str,.i,.dc,.dc,.dc,.dc,.row 30 9] [.j a] b (λa h i j k l m n o p q=>b<=q->Bel
 q (D.ag o)->ur E/\(o.length=o.length/\p=p)/\uP q (Q a h i j k l m n o p
 c d e f g)))) (cP [D.t (bytes [120]),D.t (bytes [121]),D.t (bytes [102])] 85 9 3 a c d e f g (λa b c d e f _ _ _
 g=>∀ h,g<=h->ACalls prog 141 [.pk,.i,.str,.str,.i,.dc,.dc,.dc,.dc,.row 30 9] [.str a] h (λa g i j k l m n o
 p q=>h<=q->Bel q (D.ag o)->ur E/\(o.length=o.length/\p=p)/\uP q (Q a g i j
 k l m n o p b c d e f))))))):ksB 184 [.pb 0 0 0 0] [.var [.sv I 0 J O,.int .i64 U,.int .i64 Y]] N Q:=
  Qn H0 h
theorem Gv E(Q:QT [Sh.pk,(Sh.int IntKind.i64),Sh.str,Sh.str,(Sh.int IntKind.i64),Sh.dc,Sh.dc,Sh.dc,Sh.dc,(Sh.row (OfNat.ofNat 30) 9),(Sh.sl 0),(Sh.int IntKind.i64),(Sh.int IntKind.i64)]) N0 n1 J O U Y aa ab ac ae ah ai aj ak al am ao aq au aw ax ay I az a0 a2 a9 ba bb bc a3 a4 a5 a6 a7 a8 r3 q3 N(h :
Br (I==6) (cA 2 86 [.j 2] J O U Y aa N (λx a b c n d e=>va E Q N0 n1 a b c n d ab ac ae ah ai aj
 ak al am ao aq au aw ax ay I az a0 a2 (x.cell 0) (x.cell 1) a3 a4 a5 a6 a7 a8 r3 q3 e)) (Br (I==9) (cA 2 86 [.j 2]
 J O U Y aa N (λa b c d e f g=>va E Q N0 n1 b c d e f ab ac ae ah ai aj ak al am ao
 aq au aw ax ay I az a0 a2 (a.cell 0) (a.cell 1) a3 a4 a5 a6 a7 a8 r3 q3 g)) (vb E Q N0 n1 J O U
 Y aa ab ac ae ah ai aj ak al am ao aq au aw ax ay I az a0 a2 a9 ba bb bc a3 a4 a5 a6 a7 a8 r3 q3
 N))):yP E Q N0 n1 J O U Y aa ab ac ae ah ai aj ak al am ao aq au aw ax ay I az a0 a2 a9 ba bb bc a3 a4 a5 a6 a7 a8 r3 q3 N:=
  Co zt h
theorem qw E(Q:QT [(Sh.ag 2),(Sh.sl 0),(Sh.int IntKind.i64),(Sh.int IntKind.i64)]) N0 n4 n5 I J O U Y aa ab ac ae y2 N(h :
Br (decide (n5<n4)) (kA 2 138 [.dg 2 y2] N (λx a=>ww E Q N0 n4 (ksW.wrap (n5+1)) I J O U Y aa ab ac
 ae x a)) (ur E/\uP N (Q y2 I J O U Y))):ww E Q N0 n4 n5 I J O U Y aa ab ac ae y2 N:=
  Co r5 h
theorem qx E(Q:QT [(Sh.ag 2),(Sh.sl 0),(Sh.int IntKind.i64),(Sh.int IntKind.i64)]) N0 n6 I J O U Y aa ab ac ae y2 N(h :
Br (decide (n6<3)) (kA 2 139 [.dg 2 y2,.dg 2 y2] N (λx a=>wx E Q N0 (ksW.wrap (n6+1)) I J O U Y aa ab
 ac ae x a)) (ur E/\uP N (Q y2 I J O U Y))):wx E Q N0 n6 I J O U Y aa ab ac ae y2 N:=
  Co r5 h
theorem Gw E(Q:QT [Sh.pk,(Sh.int IntKind.i64),Sh.str,Sh.str,(Sh.int IntKind.i64),Sh.dc,Sh.dc,Sh.dc,Sh.dc,(Sh.row (OfNat.ofNat 30) 9),(Sh.sl 0),(Sh.int IntKind.i64),(Sh.int IntKind.i64)]) N0 n1 J O U Y aa ab ac ae ah ai aj ak al am ao aq au aw ax ay I az a6 a0 a2 a3 a7 a8 a9 ba a4 a5 r3 q3 N(h :
Br (I==9) (cP [D.t (bytes [122]),D.t (bytes [119])] 85 9 2 J O U Y aa N (λs a b c n d _ _ _ e=>cA 2 86 [.j 2] a b c n
 d e (λx a b c d e f=>tU E Q N0 n1 a b c d e ab ac ae ah ai aj ak al am ao aq au aw ax
 ay I az s a0 a2 a3 (x.cell 0) (x.cell 1) a4 a5 r3 q3 f))) (ve E Q N0 n1 J O U Y aa ab ac ae ah ai aj
 ak al am ao aq au aw ax ay I az a6 a0 a2 a3 a7 a8 a9 ba a4 a5 r3 q3 N)):va E Q N0 n1 J O U Y aa ab ac ae ah ai aj ak al am ao aq au aw ax ay I az a6 a0 a2 a3 a7 a8 a9 ba a4 a5 r3 q3 N:=
  Co zt h
theorem Ct E(Q:QT [Sh.pk,(Sh.int IntKind.i64),Sh.str,Sh.str,(Sh.int IntKind.i64),Sh.dc,Sh.dc,Sh.dc,Sh.dc,(Sh.row (OfNat.ofNat 30) 9),(Sh.sl 0),(Sh.int IntKind.i64),(Sh.int IntKind.i64)]) N0 n1 J O U Y aa ab ac ae ah ai aj ak al am ao aq au aw ax ay I az a8 a0 a2 a3 a4 a5 a9 ba bb bc a6 a7 r3 q3 N(h :
Br (I==9) (cP [D.t (bytes [122]),D.t (bytes [119])] 85 9 2 J O U Y aa N (λs a b c n d _ _ _ e=>cA 2 86 [.j 2] a b c n
 d e (λx a b c d e f=>vf E Q N0 n1 a b c d e ab ac ae ah ai aj ak al am ao aq au aw ax
 ay I az s a0 a2 a3 a4 a5 (x.cell 0) (x.cell 1) a6 a7 r3 q3 f))) (vg E Q N0 n1 J O U Y aa ab ac ae ah
 ai aj ak al am ao aq au aw ax ay I az a8 a0 a2 a3 a4 a5 a9 ba bb bc a6 a7 r3 q3 N)):vb E Q N0 n1 J O U Y aa ab ac ae ah ai aj ak al am ao aq au aw ax ay I az a8 a0 a2 a3 a4 a5 a9 ba bb bc a6 a7 r3 q3 N:=
  Co zt h
theorem Gx E(Q:QT [Sh.pk,(Sh.int IntKind.i64),Sh.str,Sh.str,(Sh.int IntKind.i64),Sh.dc,Sh.dc,Sh.dc,Sh.dc,(Sh.row (OfNat.ofNat 30) 9),(Sh.sl 0),(Sh.int IntKind.i64),(Sh.int IntKind.i64)]) N0 n1 a0_0 e0_0 c0_0 n0_1 n0_2 n1_0 s1_1 s1_2 n1_3 n1_4 a1_5 e1_5 c1_5 n1_6 a1_7 e1_7 c1_7 a1_8 e1_8 c1_8 n2_0 s2_1 s2_2 n2_3 x2_4 x2_5 x2_6 x2_7 m2_8 c2_8 r3 q3 N(h :
(m2_8=r3.length/\c2_8=q3)/\∀ a,ApA a r3->∀ b,N<=b->wm b [a]->ACalls prog 131 [.i] [.dg 9 (D.ag [D.j n2_0,D.t s2_1,D.t s2_2,D.j n2_3,
 x2_4,x2_5,x2_6,x2_7,D.sl a 9 r3 c2_8])] b (fun n a=>b<=a->vh E Q N0 n1 n 0 a0_0 e0_0 c0_0 n0_1 n0_2 n1_0 s1_1 s1_2 n1_3 n1_4 a1_5 e1_5
 c1_5 n1_6 a1_7 e1_7 c1_7 a1_8 e1_8 c1_8 n2_0 s2_1 s2_2 n2_3 x2_4 x2_5 x2_6 x2_7 m2_8 c2_8 r3 q3 a)):tU E Q N0 n1 a0_0 e0_0 c0_0 n0_1 n0_2 n1_0 s1_1 s1_2 n1_3 n1_4 a1_5 e1_5 c1_5 n1_6 a1_7 e1_7 c1_7 a1_8 e1_8 c1_8 n2_0 s2_1 s2_2 n2_3 x2_4 x2_5 x2_6 x2_7 m2_8 c2_8 r3 q3 N:=
  Co zt h
theorem Cv E(Q:QT [Sh.pk,(Sh.int IntKind.i64),Sh.str,Sh.str,(Sh.int IntKind.i64),Sh.dc,Sh.dc,Sh.dc,Sh.dc,(Sh.row (OfNat.ofNat 30) 9),(Sh.sl 0),(Sh.int IntKind.i64),(Sh.int IntKind.i64)]) N0 n1 a0_0 e0_0 c0_0 n0_1 n0_2 n1_0 s1_1 s1_2 n1_3 n1_4 a1_5 e1_5 c1_5 n1_6 a1_7 e1_7 c1_7 a1_8 e1_8 c1_8 n2_0 s2_1 s2_2 n2_3 x2_4 x2_5 n2_6 a2_7 e2_7 c2_7 m2_8 c2_8 r3 q3 N(h :
(m2_8=r3.length/\c2_8=q3)/\∀ a,ApA a r3->∀ b,N<=b->wm b [a]->ACalls prog 131 [.i] [.dg 9 (D.ag [D.j n2_0,D.t s2_1,D.t s2_2,D.j n2_3,
 x2_4,x2_5,D.j n2_6,D.sl a2_7 2 e2_7 c2_7,D.sl a 9 r3 c2_8])] b (fun n a=>b<=a->xz E Q N0 n1 n 0 a0_0 e0_0 c0_0 n0_1 n0_2 n1_0 s1_1
 s1_2 n1_3 n1_4 a1_5 e1_5 c1_5 n1_6 a1_7 e1_7 c1_7 a1_8 e1_8 c1_8 n2_0 s2_1 s2_2 n2_3 x2_4 x2_5 n2_6 a2_7 e2_7 c2_7 m2_8 c2_8 r3 q3 a)):ve E Q N0 n1 a0_0 e0_0 c0_0 n0_1 n0_2 n1_0 s1_1 s1_2 n1_3 n1_4 a1_5 e1_5 c1_5 n1_6 a1_7 e1_7 c1_7 a1_8 e1_8 c1_8 n2_0 s2_1 s2_2 n2_3 x2_4 x2_5 n2_6 a2_7 e2_7 c2_7 m2_8 c2_8 r3 q3 N:=
  Co zt h
theorem Cw E(Q:QT [Sh.pk,(Sh.int IntKind.i64),Sh.str,Sh.str,(Sh.int IntKind.i64),Sh.dc,Sh.dc,Sh.dc,Sh.dc,(Sh.row (OfNat.ofNat 30) 9),(Sh.sl 0),(Sh.int IntKind.i64),(Sh.int IntKind.i64)]) N0 n1 a0_0 e0_0 c0_0 n0_1 n0_2 n1_0 s1_1 s1_2 n1_3 n1_4 a1_5 e1_5 c1_5 n1_6 a1_7 e1_7 c1_7 a1_8 e1_8 c1_8 n2_0 s2_1 s2_2 n2_3 n2_4 a2_5 e2_5 c2_5 x2_6 x2_7 m2_8 c2_8 r3 q3 N(h :
(m2_8=r3.length/\c2_8=q3)/\∀ a,ApA a r3->∀ b,N<=b->wm b [a]->ACalls prog 131 [.i] [.dg 9 (D.ag [D.j n2_0,D.t s2_1,D.t s2_2,D.j n2_3,
 D.j n2_4,D.sl a2_5 2 e2_5 c2_5,x2_6,x2_7,D.sl a 9 r3 c2_8])] b (fun n a=>b<=a->x8 E Q N0 n1 n 0 a0_0 e0_0 c0_0 n0_1 n0_2 n1_0 s1_1
 s1_2 n1_3 n1_4 a1_5 e1_5 c1_5 n1_6 a1_7 e1_7 c1_7 a1_8 e1_8 c1_8 n2_0 s2_1 s2_2 n2_3 n2_4 a2_5 e2_5 c2_5 x2_6 x2_7 m2_8 c2_8 r3 q3 a)):vf E Q N0 n1 a0_0 e0_0 c0_0 n0_1 n0_2 n1_0 s1_1 s1_2 n1_3 n1_4 a1_5 e1_5 c1_5 n1_6 a1_7 e1_7 c1_7 a1_8 e1_8 c1_8 n2_0 s2_1 s2_2 n2_3 n2_4 a2_5 e2_5 c2_5 x2_6 x2_7 m2_8 c2_8 r3 q3 N:=
  Co zt h
theorem Cx E(Q:QT [Sh.pk,(Sh.int IntKind.i64),Sh.str,Sh.str,(Sh.int IntKind.i64),Sh.dc,Sh.dc,Sh.dc,Sh.dc,(Sh.row (OfNat.ofNat 30) 9),(Sh.sl 0),(Sh.int IntKind.i64),(Sh.int IntKind.i64)]) N0 n1 a0_0 e0_0 c0_0 n0_1 n0_2 n1_0 s1_1 s1_2 n1_3 n1_4 a1_5 e1_5 c1_5 n1_6 a1_7 e1_7 c1_7 a1_8 e1_8 c1_8 n2_0 s2_1 s2_2 n2_3 n2_4 a2_5 e2_5 c2_5 n2_6 a2_7 e2_7 c2_7 m2_8 c2_8 r3 q3 N(h :
(m2_8=r3.length/\c2_8=q3)/\∀ a,ApA a r3->∀ b,N<=b->wm b [a]->ACalls prog 131 [.i] [.dg 9 (D.ag [D.j n2_0,D.t s2_1,D.t s2_2,D.j n2_3,
 D.j n2_4,D.sl a2_5 2 e2_5 c2_5,D.j n2_6,D.sl a2_7 2 e2_7 c2_7,D.sl a 9 r3 c2_8])] b (fun n a=>b<=a->x9 E Q N0 n1 n 0 a0_0 e0_0 c0_0
 n0_1 n0_2 n1_0 s1_1 s1_2 n1_3 n1_4 a1_5 e1_5 c1_5 n1_6 a1_7 e1_7 c1_7 a1_8 e1_8 c1_8 n2_0 s2_1 s2_2 n2_3 n2_4 a2_5 e2_5 c2_5 n2_6 a2_7 e2_7 c2_7 m2_8 c2_8 r3 q3
 a)):vg E Q N0 n1 a0_0 e0_0 c0_0 n0_1 n0_2 n1_0 s1_1 s1_2 n1_3 n1_4 a1_5 e1_5 c1_5 n1_6 a1_7 e1_7 c1_7 a1_8 e1_8 c1_8 n2_0 s2_1 s2_2 n2_3 n2_4 a2_5 e2_5 c2_5 n2_6 a2_7 e2_7 c2_7 m2_8 c2_8 r3 q3 N:=
  Co zt h
theorem p9 E(Q:QT [Sh.pk,(Sh.int IntKind.i64),Sh.str,Sh.str,(Sh.int IntKind.i64),Sh.dc,Sh.dc,Sh.dc,Sh.dc,(Sh.row (OfNat.ofNat 30) 9),(Sh.sl 0),(Sh.int IntKind.i64),(Sh.int IntKind.i64)]) N0 n1 n6 n7 aa ab ac ae ah ao aq au aw ax ay az a0 a2 a3 a4 a5 a6 a7 a8 ai aj ak al I J O U am Y r3 q3 N(h :
Br (decide (n7<n6)) (∀ b,N<=b->BCalls prog 140 [.pk,.i,.str,.str,.i,.dc,.dc,.dc,.dc,.row 30 9,.sl 0,.i,.i] [.pb 0 0 0 0,.j
 (ksW.wrap (n1 - 1))] [Bx.var [.sv aa 0 ab ac,.j ae,.j ah]] b (λn s a c x d e f g h i j k l m o=>b<=o->Bel o
 (D.sl i 0 j k)->Bel o (D.ag g)->(g.length=g.length/\h=h)/\∀ b p,o<=p->Fresh N0 p b [D.ag g,x,d,e,f,I,J,O,
 U,D.ag r3]->(am=r3.length/\Y=q3)/\zA r3 [D.ag [D.j n,D.t s,D.t a,D.j c,x,d,e,f,D.sl b 9 g h]] 136/\∀(o:Nat),
 vh E Q N0 n1 n6 (ksW.wrap (n7+1)) i j k l m ao aq au aw ax ay az a0 a2 a3 a4 a5 a6 a7 a8 ai aj
 ak al I J O U (r3++[D.ag [D.j n,D.t s,D.t a,D.j c,x,d,e,f,D.sl b 9 g h]]).length o (r3++[D.ag [D.j n,D.t s,D.t a,
 D.j c,x,d,e,f,D.sl b 9 g h]]) o p)) (ur E/\(am=r3.length/\Y=q3)/\uP N (Q ai aj ak
 al I J O U r3 Y aa ab ac ae ah))):vh E Q N0 n1 n6 n7 aa ab ac ae ah ao aq au aw ax ay az a0 a2 a3 a4 a5 a6 a7 a8 ai aj ak al I J O U am Y r3 q3 N:=
  Co zt h
theorem sj E(Q:QT [Sh.pk,(Sh.int IntKind.i64),Sh.str,Sh.str,(Sh.int IntKind.i64),Sh.dc,Sh.dc,Sh.dc,Sh.dc,(Sh.row (OfNat.ofNat 30) 9),(Sh.sl 0),(Sh.int IntKind.i64),(Sh.int IntKind.i64)]) N0 n1 n6 n7 ab ac ae ah ai au aw ax ay az a0 a2 a3 a4 a5 a6 a7 a8 a9 ba aj ak al am I J ao O U Y aq aa r3 q3 N(h :
Br (decide (n7<n6)) (∀ b,N<=b->BCalls prog 140 [.pk,.i,.str,.str,.i,.dc,.dc,.dc,.dc,.row 30 9,.sl 0,.i,.i] [.pb 0 0 0 0,.j
 (ksW.wrap (n1 - 1))] [Bx.var [.sv ab 0 ac ae,.j ah,.j ai]] b (λn s a c x d e f g h i j k l m o=>b<=o->Bel o
 (D.sl i 0 j k)->Bel o (D.ag g)->(g.length=g.length/\h=h)/\∀ b p,o<=p->Fresh N0 p b [D.ag g,x,d,e,f,I,J,D.sl O
 2 U Y,D.ag r3]->(aq=r3.length/\aa=q3)/\zA r3 [D.ag [D.j n,D.t s,D.t a,D.j c,x,d,e,f,D.sl b 9 g h]] 136/\∀(o :
 Nat),xz E Q N0 n1 n6 (ksW.wrap (n7+1)) i j k l m au aw ax ay az a0 a2 a3 a4 a5 a6 a7 a8 a9 ba
 aj ak al am I J ao O U Y (r3++[D.ag [D.j n,D.t s,D.t a,D.j c,x,d,e,f,D.sl b 9 g h]]).length o (r3++[D.ag
 [D.j n,D.t s,D.t a,D.j c,x,d,e,f,D.sl b 9 g h]]) o p)) (ur E/\(aq=r3.length/\aa=q3) /\
 uP N (Q aj ak al am I J (D.j ao) (D.sl O 2 U Y) r3 aa ab ac ae ah ai))):xz E Q N0 n1 n6 n7 ab ac ae ah ai au aw ax ay az a0 a2 a3 a4 a5 a6 a7 a8 a9 ba aj ak al am I J ao O U Y aq aa r3 q3 N:=
  Co zt h
theorem sk E(Q:QT [Sh.pk,(Sh.int IntKind.i64),Sh.str,Sh.str,(Sh.int IntKind.i64),Sh.dc,Sh.dc,Sh.dc,Sh.dc,(Sh.row (OfNat.ofNat 30) 9),(Sh.sl 0),(Sh.int IntKind.i64),(Sh.int IntKind.i64)]) N0 n1 n6 n7 ab ac ae ah ai au aw ax ay az a0 a2 a3 a4 a5 a6 a7 a8 a9 ba aj ak al am ao I J O U Y aq aa r3 q3 N(h :
Br (decide (n7<n6)) (∀ b,N<=b->BCalls prog 140 [.pk,.i,.str,.str,.i,.dc,.dc,.dc,.dc,.row 30 9,.sl 0,.i,.i] [.pb 0 0 0 0,.j
 (ksW.wrap (n1 - 1))] [Bx.var [.sv ab 0 ac ae,.j ah,.j ai]] b (λn s a c x d e f g h i j k l m o=>b<=o->Bel o
 (D.sl i 0 j k)->Bel o (D.ag g)->(g.length=g.length/\h=h)/\∀ b p,o<=p->Fresh N0 p b [D.ag g,x,d,e,f,D.sl I 2 J
 O,U,Y,D.ag r3]->(aq=r3.length/\aa=q3)/\zA r3 [D.ag [D.j n,D.t s,D.t a,D.j c,x,d,e,f,D.sl b 9 g h]] 136/\∀(o
 : Nat),x8 E Q N0 n1 n6 (ksW.wrap (n7+1)) i j k l m au aw ax ay az a0 a2 a3 a4 a5 a6 a7 a8 a9
 ba aj ak al am ao I J O U Y (r3++[D.ag [D.j n,D.t s,D.t a,D.j c,x,d,e,f,D.sl b 9 g h]]).length o (r3 ++
 [D.ag [D.j n,D.t s,D.t a,D.j c,x,d,e,f,D.sl b 9 g h]]) o p)) (ur E/\(aq=r3.length/\aa =
 q3)/\uP N (Q aj ak al am (D.j ao) (D.sl I 2 J O) U Y r3 aa ab ac ae ah ai))):x8 E Q N0 n1 n6 n7 ab ac ae ah ai au aw ax ay az a0 a2 a3 a4 a5 a6 a7 a8 a9 ba aj ak al am ao I J O U Y aq aa r3 q3 N:=
  Co zt h
theorem sm E(Q:QT [Sh.pk,(Sh.int IntKind.i64),Sh.str,Sh.str,(Sh.int IntKind.i64),Sh.dc,Sh.dc,Sh.dc,Sh.dc,(Sh.row (OfNat.ofNat 30) 9),(Sh.sl 0),(Sh.int IntKind.i64),(Sh.int IntKind.i64)]) N0 n1 n6 n7 ac ae ah ai aj ax ay az a0 a2 a3 a4 a5 a6 a7 a8 a9 ba bb bc ak al am ao aq I J O au U Y aa aw ab r3 q3 N(h :
Br (decide (n7<n6)) (∀ b,N<=b->BCalls prog 140 [.pk,.i,.str,.str,.i,.dc,.dc,.dc,.dc,.row 30 9,.sl 0,.i,.i] [.pb 0 0 0 0,.j
 (ksW.wrap (n1 - 1))] [Bx.var [.sv ac 0 ae ah,.j ai,.j aj]] b (λn s a c x d e f g h i j k l m o=>b<=o->Bel o
 (D.sl i 0 j k)->Bel o (D.ag g)->(g.length=g.length/\h=h)/\∀ b p,o<=p->Fresh N0 p b [D.ag g,x,d,e,f,D.sl I 2 J
 O,D.sl U 2 Y aa,D.ag r3]->(aw=r3.length/\ab=q3)/\zA r3 [D.ag [D.j n,D.t s,D.t a,D.j c,x,d,e,f,D.sl b 9 g h]]
 136/\∀(o:Nat),x9 E Q N0 n1 n6 (ksW.wrap (n7+1)) i j k l m ax ay az a0 a2 a3 a4 a5 a6 a7 a8 a9
 ba bb bc ak al am ao aq I J O au U Y aa (r3++[D.ag [D.j n,D.t s,D.t a,D.j c,x,d,e,f,D.sl b 9 g
 h]]).length o (r3++[D.ag [D.j n,D.t s,D.t a,D.j c,x,d,e,f,D.sl b 9 g h]]) o p)) (ur E/\(aw
 = r3.length/\ab=q3)/\uP N (Q ak al am ao (D.j aq) (D.sl I 2 J O) (D.j au) (D.sl U 2 Y aa) r3 ab ac ae ah ai aj))):x9 E Q N0 n1 n6 n7 ac ae ah ai aj ax ay az a0 a2 a3 a4 a5 a6 a7 a8 a9 ba bb bc ak al am ao aq I J O au U Y aa aw ab r3 q3 N:=
  Co zt h
end Go.Proofs.YtlaniepnglheoaaGreat
