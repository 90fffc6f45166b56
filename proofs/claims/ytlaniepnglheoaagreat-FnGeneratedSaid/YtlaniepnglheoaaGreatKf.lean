/- Printed by gen.py: what the functions come to. -/
import Derived.Test.YtlaniepnglheoaaGreatJh
set_option linter.unusedVariables false
set_option maxRecDepth 100000
namespace Go.Proofs.YtlaniepnglheoaaGreat
open Go Go.Proofs Go.Proofs.Tryz
def CE:Hint:=⟨[hc 3 [1,3,4]],[],[(5,hs 9 [ec 6 [17]])]⟩
def sw:Hint:=⟨[hc 6 [1,4,5,6]],[],[(1,hs 8 [ec 1 [9]]),(3,hs 4 [ec 1 [18]]),(6,hs 3 [ec 1 [22]]),(8,hs 2 [ec 1 [27]]),(12,hs 8 [ec 1 [39]])]⟩
def vV (Q:QT [.int .i64]) N0 I J O N:=ksT 76 3 Q N0 (an 1 (.pb 0 0 0 0::an 1 (.j I::.j J::an 16 []))) [.vd O 9] N
def qj (Q:QT [.ag 11]) N0 n1 n6 J O U Y aa ab ac ae ah ai aj ak al am ao aq I au aw ax ay az a0 a2 a3 a4 a5 r2 q2 N:=ksT 30 6 Q N0 (an 1 (.j n1::an 2 (.pb 0 0 0 0::.pb 1 0 0 0::.j n6::an 42 []))) [.var [.j J,.j O,.str U,.str Y,.j aa,.j ab,.sv ac 2 ae ah,.j ai,.sv aj 2 ak al,.sv am 9 ao aq,.j I],.var [.j au,.str aw,.str ax,.j ay,.dc az,.dc a0,.dc a2,.dc a3,.sb 2 9 0 a4 a5],.arr 30 9 r2 q2] N
def xb (Q:QT [.ag 11]) N0 n1 n6 J O U Y aa ab ac ae ah ai aj ak al am ao aq I y1 N:=ksT 30 6 Q N0 (an 1 (.j n1::an 2 (.pb 0 0 0 0::.pb 1 0 0 0::.j n6::an 42 []))) [.var [.j J,.j O,.str U,.str Y,.j aa,.j ab,.sv ac 2 ae ah,.j ai,.sv aj 2 ak al,.sv am 9 ao aq,.j I],.vd y1 9] N
theorem LV N I(Q:QT [.int .i64])(h :
Bel N I->vV Q N 1 0 I N):ksC 76 [.dg 9 I] N Q:=
 eE CE h
theorem Ib N I J(Q:QT [.ag 11])(h :
Bel N I->kB 75 [.dg 9 I,.j 0] N (λb a=>Br (!b) (∀ b,a<=b->Q (D.ag [D.j 0,D.j 0,D.t b0,D.t b0,D.j 0,D.j 0,D.sl none 2 [] 0,D.j 0,
 D.sl none 2 [] 0,D.sl none 9 [] 0,D.j 0]) b) (kB 63 [.j J,.j 0,.j 200] a (λa b=>Br (!a) (∀ a,b<=a->Q (D.ag [D.j 0,D.j 0,D.t b0,D.t b0,
 D.j 0,D.j 0,D.sl none 2 [] 0,D.j 0,D.sl none 2 [] 0,D.sl none 9 [] 0,D.j 0]) a) (∀ a,b<=a->ACalls prog 32 [.pk,.i,.str,.str,.i,.dc,.dc,.dc,
 .dc,.row 30 9] [.dg 9 I] a (λn s b c x d e f g h i=>a<=i->Bel i (D.ag g)->qj Q N J 0 0 0 b0 b0 0 0 none [] 0 0 none []
 0 none [] 0 0 n s b c x d e f g.length h g h i)))))):ksC 30 [.dg 9 I,.j J] N Q:=
  eE sw h
theorem pp {Q:QT [.int .i64]}{N0 n3 n4 y0 N}(h :
∃ a b,∃ c:Nat,(y0.cell 8)=D.sl a 9 b c/\Br (decide (n4<(b.length:Int))) (∃ a b,∃ c:Nat,(y0.cell 8)=D.sl a 9 b c/\ksL n4 b/\∀ a,N<=a->ACalls prog 76 [.i] [.dg 9 (b.getD n4.toNat ksD)] a (fun n b=>a<=b->vV Q N0
 (ksW.wrap (n3+n)) (ksW.wrap (n4+1)) y0 b)) (uP N (Q n3))):vV Q N0 n3 n4 y0 N:=
  hE CE h
theorem FJ {Q:QT [.ag 11]}{N0 n1 n6 n0_0 n0_1 s0_2 s0_3 n0_4 n0_5 a0_6 e0_6 c0_6 n0_7 a0_8 e0_8 c0_8 a0_9 e0_9 c0_9 n0_10 n1_0 s1_1 s1_2 n1_3 x1_4 x1_5 x1_6 x1_7 m1_8 c1_8 r2 q2 N}(h :
(m1_8=r2.length/\c1_8=q2)/\(m1_8=r2.length/\c1_8=q2)/\∀ a c,N<=c->Fresh N0 c a [D.ag r2]->∀ d,c<=d->ACalls prog 76 [.i] [.dg 9
 (D.ag [D.j n1_0,D.t s1_1,D.t s1_2,D.j n1_3,x1_4,x1_5,x1_6,x1_7,D.sl a 9 r2 q2])] d (fun n c=>d<=c->Br (decide (n>400)) (∀ a,c<=a->Q
 (D.ag [D.j 3,D.j 0,D.t b0,D.t b0,D.j 0,D.j 0,D.sl none 2 [] 0,D.j 0,D.sl none 2 [] 0,D.sl none 9 [] 0,D.j n6]) a) (kB 77 [.dg 9 (D.ag [D.j n1_0,D.t
 s1_1,D.t s1_2,D.j n1_3,x1_4,x1_5,x1_6,x1_7,D.sl a 9 r2 q2])] c (fun b c=>Br b (uP c (Q (D.ag [D.j 1,D.j n1_0,D.t s1_1,D.t s1_2,D.j n1_3,x1_4,
 x1_5,x1_6,x1_7,D.sl a 9 r2 q2,D.j n6]))) (Br (n6==n1) (uP c (Q (D.ag [D.j 2,D.j n1_0,D.t s1_1,D.t s1_2,D.j n1_3,x1_4,x1_5,x1_6,x1_7,D.sl a 9 r2
 q2,D.j n6]))) (∀ b,c<=b->ACalls prog 78 [.ag 9,.i] [.dg 9 (D.ag [D.j n1_0,D.t s1_1,D.t s1_2,D.j n1_3,x1_4,x1_5,x1_6,x1_7,D.sl a 9 r2 q2])] b
 (fun x c d=>b<=d->Bel d x->Br (c==0) (uP d (Q (D.ag [D.j 4,D.j n1_0,D.t s1_1,D.t s1_2,D.j n1_3,x1_4,x1_5,x1_6,x1_7,D.sl a 9 r2 q2,
 D.j n6]))) (xb Q N0 n1 (ksW.wrap (n6+1)) n0_0 n0_1 s0_2 s0_3 n0_4 n0_5 a0_6 e0_6 c0_6 n0_7 a0_8 e0_8 c0_8 a0_9 e0_9 c0_9 n0_10 x
 d)))))))):qj Q N0 n1 n6 n0_0 n0_1 s0_2 s0_3 n0_4 n0_5 a0_6 e0_6 c0_6 n0_7 a0_8 e0_8 c0_8 a0_9 e0_9 c0_9 n0_10 n1_0 s1_1 s1_2 n1_3 x1_4 x1_5 x1_6 x1_7 m1_8 c1_8 r2 q2 N:=
  hE sw h
theorem tk {Q:QT [.ag 11]}{N0 n1 n6 O U Y aa ab ac ae ah ai aj ak al am ao aq au J I N}(h :
∀ a,N<=a->ACalls prog 76 [.i] [.dg 9 I] a (λn c=>a<=c->Br (decide (n>400)) (∀ a,c<=a->Q (D.ag [D.j 3,D.j 0,D.t b0,D.t b0,D.j
 0,D.j 0,D.sl none 2 [] 0,D.j 0,D.sl none 2 [] 0,D.sl none 9 [] 0,D.j n6]) a) (kB 77 [.dg 9 I] c (λb a=>Br b (uP a (Q (D.ag [D.j 1,(I.cell 0),
 (I.cell 1),(I.cell 2),(I.cell 3),(I.cell 4),(I.cell 5),(I.cell 6),(I.cell 7),(I.cell 8),D.j n6]))) (Br (n6==n1) (uP a (Q (D.ag [D.j 2,
 (I.cell 0),(I.cell 1),(I.cell 2),(I.cell 3),(I.cell 4),(I.cell 5),(I.cell 6),(I.cell 7),(I.cell 8),D.j n6]))) (∀ b,a<=b->ACalls prog 78
 [.ag 9,.i] [.dg 9 I] b (λx a c=>b<=c->Bel c x->Br (a==0) (uP c (Q (D.ag [D.j 4,(I.cell 0),(I.cell 1),(I.cell 2),(I.cell 3),
 (I.cell 4),(I.cell 5),(I.cell 6),(I.cell 7),(I.cell 8),D.j n6]))) (xb Q N0 n1 (ksW.wrap (n6+1)) O U Y aa ab
 ac ae ah ai aj ak al am ao aq au J x c)))))))):xb Q N0 n1 n6 O U Y aa ab ac ae ah ai aj ak al am ao aq au J I N:=
  hE sw h
end Go.Proofs.YtlaniepnglheoaaGreat
set_option maxRecDepth 100000
namespace Go.Proofs.YtlaniepnglheoaaGreat
open Go Go.Proofs Go.Proofs.Tryz
def pO:Hint:=⟨[hc 3 [0,3,4] [(3,130,2)]],[],[(5,[en 0,en 1,en 2,en 3,en 4,en 5,en 6,en 7,en 8,en 9,en 10,en 11,en 12,eh 13,eh 14])]⟩
def F5:Hint:=⟨[],[],[(1,hs 9 [ec 2 [11]]),(2,[en 0,en 1,en 2,eh 3,ec 4 [16],ec 5 [15],eh 6])]⟩
def qi:Hint:=⟨[hc 3 [0,3,4] [(3,133,2)]],[],[(5,[en 0,en 1,en 2,en 3,en 4,en 5,en 6,en 7,en 8,en 9,en 10,en 11,en 12,eh 13,eh 14])]⟩
def Jv:Hint:=⟨[],[],[(1,hs 12 [ec 5 [16]]),(2,hs 6 [ec 4 [23]]),(3,[en 0,en 1,en 2,en 3,en 4,eh 5,ec 6 [28],en 7]),(4,[en 0,en 1,en 2,en 3,en 4,eh 5,ec 6 [36],en 7]),(5,[en 0,en 1,en 2,en 3,en 4,en 5,en 6,en 7,en 8,en 10,eh 9,ec 11 [43],eh 12]),(6,[en 0,en 1,en 2,en 3,en 4,en 5,en 6,en 7,en 9,en 10,en 11,en 12,en 13,en 14,en 15,en 16,en 18,ec 8 [57],eh 17,ec 19 [64],ec 20 [60,71],eh 21])]⟩
def CK:Hint:=⟨[hc 10 [1,2,3,6,8,9]],[],[(2,hs 5 [ec 2 [13]]),(3,hs 5 [ec 3 [17]]),(4,hs 13 [ec 9 [29]]),(5,[en 0,en 1,en 2,en 3,en 4,en 5,en 6,en 12,en 13,eh 7,ec 8 [39],en 9,en 10,en 11,ec 14 [45],eh 15]),(7,hs 5 [ec 3 [53]]),(8,hs 4 [ec 1 [57]]),(12,[en 0,en 1,en 2,en 3,en 4,en 5,en 6,en 7,en 8,en 9,ec 10 [73],en 11,eh 12])]⟩
def sO:Hint:=⟨[hc 4 [0,4,5,6] [(4,49,4),(5,49,4)]],[],[(6,[en 0,en 1,en 2,en 3,en 4,en 5,en 6,en 7,en 8,en 9,en 11,en 12,en 13,en 14,en 15,en 17,ec 10 [25],en 16,eh 18])]⟩
def rG:Hint:=⟨[hc 8 [0,2,4,6,12,13,14] [(12,58,3)]],[],[(1,hs 9 [ec 2 [18]]),(10,[en 0,en 1,en 2,en 3,en 4,en 5,en 6,en 7,en 8,en 9,en 10,en 11,eh 12]),(12,[en 0,en 1,en 2,en 3,en 4,en 5,en 6,en 7,en 8,ec 9 [62],en 10]),(17,[en 0,en 1,en 2,eh 3,ec 4 [81],eh 5,en 6])]⟩
def sK:Hint:=⟨[hc 3 [4,5,11,12,13] [(4,49,4),(5,49,4)]],[],[(5,[en 0,en 1,en 2,en 3,en 5,en 6,en 8,ec 4 [20],en 7,eh 9])]⟩
def Hx:Hint:=⟨[],[],[(1,[en 0,en 1,en 2,en 3,en 4,en 5,en 6,en 7,ec 8 [12],en 9,en 10,eh 11,en 12])]⟩
def ua:Hint:=⟨[hc 12 [0,1,5,6,8,93,94,95] [(8,30,9)]],[],[(1,hs 4 [ec 2 [12,13]]),(2,[en 0,en 1,en 3,en 4,ec 2 [16,17],ec 5 [19,20],en 6,en 7,eh 8,eh 9]),(4,hs 3 [ec 1 [29]]),(5,hs 13 [ec 9 [36,40]]),(6,[en 0,en 1,en 2,en 3,en 4,en 5,en 6,en 7,en 8,ec 9 [48,52],en 10,en 11,en 12,ec 13 [44,45,56],eh 14]),(7,hs 13 [ec 9 [63,67]]),(8,[en 0,en 1,en 2,en 3,en 4,en 5,en 6,en 9,ec 7 [73,77],en 8,eh 10]),(9,[en 0,en 1,en 3,en 4,en 6,en 7,en 8,en 9,ec 2 [80],ec 5 [83,84],ec 10 [82,85,89],eh 11]),(16,hs 4 [ec 2 [108,109]]),(17,[en 0,en 1,en 2,en 3,en 5,en 6,ec 4 [112,113],ec 7 [115,116,117],en 8,eh 9,eh 10]),(19,hs 4 [ec 2 [122,123]])]⟩
def rE:Hint:=⟨[hc 7 [0,2,4,6,12,36,37,38] [(12,51,4)]],[],[(2,hs 9 [ec 2 [22]]),(11,[en 0,en 1,en 3,en 4,eh 2,ec 5 [55],eh 6,en 7])]⟩
def wQ (Q:QT [.sl 2]) N0 I e0 J O U Y r0 q0 N:=ksT 64 3 Q N0 (.sv I 3 e0 J::an 2 (.sb 0 2 0 O U::.j Y::an 22 [])) [.arr 130 2 r0 q0] N
def xw (Q:QT [.sl 2]) N0 I e0 J O U Y r0 q0 N:=ksT 68 3 Q N0 (.sv I 3 e0 J::an 2 (.sb 0 2 0 O U::.j Y::an 22 [])) [.arr 133 2 r0 q0] N
def yr (Q:QT [.ag 9]) N0 a1 e1 c1 a2 e2 c2 n9 y0 I J O U Y aa ab ac ae ah ai aj ak al am ao aq au aw ax ay az a0 a3 a4 r3 q3 N:=ksT 24 10 Q N0 (an 1 (.sv a1 3 e1 c1::.sv a2 4 e2 c2::.pb 0 0 0 0::an 2 (.pb 1 0 0 0::an 1 (.pb 2 0 0 0::.j n9::an 69 [])))) [.vd y0 9,ksV I J O U Y aa ab ac ae ah ai aj ak al am,.var [.j ao,.str aq,.str au,.j aw,.dc ax,.dc ay,.dc az,.dc a0,.sb 3 9 0 a3 a4],.arr 30 9 r3 q3] N
def yX (Q:QT [.sl 4,.sl 4]) N0 I e0 J O U Y c5 n6 r0 q0 r1 q1 N:=ksT 16 4 Q N0 (.sv I 4 e0 J::an 3 (.sb 0 4 0 O U::.sb 1 4 0 Y c5::.j n6::an 38 [])) [.arr 49 4 r0 q0,.arr 49 4 r1 q1] N
def yg (Q:QT [.ag 9,.bool]) N0 a0 e0 c0 a2 e2 c2 ao aq au aw y0 I J O U Y aa ab ac ae ah ai aj ak al am r2 q2 N:=ksT 9 8 Q N0 (.sv a0 4 e0 c0::an 1 (.sv a2 0 e2 c2::an 1 (.pb 0 0 0 0::an 1 (.pb 1 0 0 0::an 5 (.sb 2 3 0 ao aq::.j au::.j aw::an 71 []))))) [.vd y0 9,ksV I J O U Y aa ab ac ae ah ai aj ak al am,.arr 58 3 r2 q2] N
def yW (Q:QT [.sl 4,.sl 4]) N0 m4 c4 m5 c5 I J O U Y r0 q0 r1 q1 N:=ksT 14 3 Q N0 (an 4 (.sb 0 4 0 m4 c4::.sb 1 4 0 m5 c5::an 5 (.sv I 4 J O::.j U::.j Y::an 24 []))) [.arr 49 4 r0 q0,.arr 49 4 r1 q1] N
def zE (Q:QT [.ag 9]) N0 a0 e0 c0 a1 e1 c1 m8 c8 ao aq au aw ax y0 I J O U Y aa ab ac ae ah ai aj ak al am r2 q2 N:=ksT 21 12 Q N0 (.sv a0 3 e0 c0::.sv a1 4 e1 c1::an 3 (.pb 0 0 0 0::.pb 1 0 0 0::an 1 (.sb 2 9 0 m8 c8::an 84 (.sv ao 9 aq au::.j aw::.j ax::an 29 [])))) [.vd y0 9,ksV I J O U Y aa ab ac ae ah ai aj ak al am,.arr 30 9 r2 q2] N
def xZ (Q:QT [.ag 9,.bool]) N0 a0 e0 c0 a2 e2 c2 ao aq au aw ax ay az y0 I J O U Y aa ab ac ae ah ai aj ak al am r2 q2 N:=ksT 8 7 Q N0 (.sv a0 4 e0 c0::an 1 (.sv a2 0 e2 c2::an 1 (.pb 0 0 0 0::an 1 (.pb 1 0 0 0::an 5 (.sb 2 4 0 ao aq::an 23 (.sv au 4 aw ax::.j ay::.j az::an 18 [])))))) [.vd y0 9,ksV I J O U Y aa ab ac ae ah ai aj ak al am,.arr 51 4 r2 q2] N
theorem qY N n0(Q:QT [.ag 9])(h :
∀ a,N<=a->Q (D.ag [D.j 3,D.t b0,D.t b0,D.j n0,D.j 0,D.sl none 2 [] 0,D.j 0,D.sl none 2 [] 0,D.sl none 9 [] 0]) a):ksC 73 [.j n0] N Q:=
  eE H0 h
theorem AY N n0(Q:QT [.ag 9])(h :
∀ a,N<=a->Q (D.ag [D.j 2,D.t b0,D.t b0,D.j n0,D.j 0,D.sl none 2 [] 0,D.j 0,D.sl none 2 [] 0,D.sl none 9 [] 0]) a):ksC 74 [.j n0] N Q:=
  eE H0 h
theorem Ea N I J(Q:QT [.ag 9])(h :
Bel N I->∃ n:Int,(I.cell 0)=D.j n/\Br (n==2) (kA 9 73 [.j J] N (λx a=>uP a (Q x))) (kA 9 74 [.j J] N (λa b=>uP b (Q a))) ):ksC 29 [.dg 2 I,.j J] N Q:=
 eE H0 h
theorem Ho N I e0 J(Q:QT [.sl 2])(h :
Bel N (D.sl I 3 e0 J)->wQ Q N I e0 J 0 0 0 [] 0 N):ksC 64 [.sv I 3 e0 J] N Q:=
 eE pO h
theorem Hn N I a1 e1 c1 J O U(Q:QT [.ag 9])(h :
Bel N I->Bel N (D.sl a1 3 e1 c1)->Bel N (D.sl J 4 O U)->kAB 2 62 [.sv J 4 O U,.dg 9 I,.j 0] N (λx _ b=>kL 2 68 [.sv a1 3 e1 c1] b (fun
 a b c d=>∀ e,d<=e->ACalls prog 67 [.i] [.dg 9 I,.sv a 2 b c] e (λn a=>e<=a->kA 9 29 [.dg 2 x,.j n] a (λa b=>uP b (Q a)))))):ksC 66 [.dg 9 I,.sv a1 3 e1 c1,.sv J 4 O U] N Q:=
  eE F5 h
theorem Fg N I e0 J(Q:QT [.sl 2])(h :
Bel N (D.sl I 3 e0 J)->xw Q N I e0 J 0 0 0 [] 0 N):ksC 68 [.sv I 3 e0 J] N Q:=
 eE qi h
theorem Il N a0 e0 c0 x1(Q:QT [.sl 3])(h :
Bel N (D.sl a0 3 e0 c0)->Bel N x1->(0=0/\0=0)/\zA [] e0 32/\∀(c:Nat),(([]++e0).length=([]++e0).length/\c=c)/\zA ([]++e0)
 [x1] 32/\∀(b:Nat),w2 (([]++e0++[x1]).length=([]++e0++[x1]).length/\b=b) (∀ a c,N<=c->Fresh N c a [D.ag ([]++e0++[x1])]->uP c
 (Q a ([]++e0++[x1]) b))):ksC 119 [.sv a0 3 e0 c0,.dg 3 x1] N Q:=
  eE H0 h
theorem Lb N I a1 e1 c1 J O U(Q:QT [.ag 9])(h :
Bel N I->Bel N (D.sl a1 3 e1 c1)->Bel N (D.sl J 4 O U)->∃ a d,∃ c:Nat,(I.cell 8)=D.sl a 9 d c/\ksL 0 d/\kAB 2 62 [.sv J 4 O U,.dg 9 (d.getD 0 ksD),.j 0] N (λx _ a=>∃ s,(I.cell 1)=D.t s/\kL 4 118 [.sv J 4 O U,.str s,.dg 2 x,
 .j 0] a (λa b c d=>∃ e f,∃ g:Nat,(I.cell 8)=D.sl e 9 f g/\ksL 0 f/\kL 2 64 [.sv
 a1 3 e1 c1] d (λd e g h=>kB 65 [.dg 9 (f.getD 0 ksD),.sv d 2 e g] h (λd e=>Br (!d) (∃ d f,∃ g:Nat,
 (I.cell 8)=D.sl d 9 f g/\ksL 0 f/\kL 2 68 [.sv a1 3 e1 c1] e (λd e g h=>∀ i,h<=i ->
 ACalls prog 67 [.i] [.dg 9 (f.getD 0 ksD),.sv d 2 e g] i (λn d=>i<=d->∃ e f,∃ g:Nat,(I.cell 8)=D.sl e 9 f
 g/\ksL 1 f/\∃ e,(I.cell 1)=D.t e/\kL 3 119 [.sv a1 3 e1 c1,.dg 3 (D.ag [D.t e,D.lit (.bool false),
 D.j n])] d (λd e g h=>kA 9 24 [.dg 9 (f.getD 1 ksD),.sv d 3 e g,.sv a 4 b c] h (λa b=>uP b (Q a))))))
 (∃ d,(I.cell 1)=D.t d/\∃ f g,∃ h:Nat,(I.cell 8)=D.sl f 9 g h/\ksL 0 g/\∃ f h,∃
 i:Nat,(I.cell 8)=D.sl f 9 h i/\ksL 1 h/\∃ f,(I.cell 1)=D.t f/\kA 9 24 [.dg 9 (g.getD 0 ksD),.sv a1 3 e1 c1,.sv J 4 O U] e (λe g=>kL 3 119 [.sv a1 3 e1 c1,.dg 3 (D.ag [D.t f,D.lit (.bool true),D.j 0])] g (λf g
 i j=>kA 9 24 [.dg 9 (h.getD 1 ksD),.sv f 3 g i,.sv a 4 b c] j (λa b=>kA 9 120 [.str d,.dg 9 e,.dg 9 a]
 b (λa b=>uP b (Q a))))))))))):ksC 69 [.dg 9 I,.sv a1 3 e1 c1,.sv J 4 O U] N Q:=
  eE Jv h
theorem La N I a1 e1 c1 J O U(Q:QT [.ag 9])(h :
Bel N I->Bel N (D.sl a1 3 e1 c1)->Bel N (D.sl J 4 O U)->kL 2 64 [.sv a1 3 e1 c1] N (λa c d e=>kB 65 [.dg 9 I,.sv a 2 c d] e (λb e=>
 Br (!b) (kA 9 66 [.dg 9 I,.sv a1 3 e1 c1,.sv J 4 O U] e (λx a=>uP a (Q x))) (∃ n:Int,(I.cell 0)=D.j n/\Br (n==5) (∃ b f,∃ g :
 Nat,(I.cell 8)=D.sl b 9 f g/\ksL 0 f/\kB 65 [.dg 9 (f.getD 0 ksD),.sv a 2 c d] e (λa
 b=>Br (!a) (∃ a c,∃ d:Nat,(I.cell 8)=D.sl a 9 c d/\∃ a d,∃ e:Nat,(I.cell 8)=D.sl a 9 d e/\ksL 0 d/\kL 2 68 [.sv a1 3 e1 c1] b (λa b e f=>∀ g,f<=g->ACalls prog 67 [.i] [.dg 9 (d.getD 0 ksD),
 .sv a 2 b e] g (λa b=>g<=b->(0<=ksW.wrap (2 - a)/\ksW.wrap (2 - a)<(c.length:Int))/\kA 9 24 [.dg 9
 (List.getD c (ksW.wrap (2 - a)).toNat default),.sv a1 3 e1 c1,.sv J 4 O U] b (λa b=>uP b (Q a))))) (∃ a:Int,(I.cell 0) =
 D.j a/\Br (a==8) (kA 9 69 [.dg 9 I,.sv a1 3 e1 c1,.sv J 4 O U] b (λa b=>uP b (Q a))) (∀ a,b<=a->ACalls prog 32 [.pk,.i,
 .str,.str,.i,.dc,.dc,.dc,.dc,.row 30 9] [.dg 9 I] a (λb s c d e f g h i j k=>a<=k->Bel k (D.ag i) ->
 yr Q N a1 e1 c1 J O U 0 I 0 b0 b0 0 0 none [] 0 0 none [] 0 none [] 0 b s c d e f g h i.length j i j k))))) (∃ a :
 Int,(I.cell 0)=D.j a/\Br (a==8) (kA 9 69 [.dg 9 I,.sv a1 3 e1 c1,.sv J 4 O U] e (λa b=>uP b (Q a))) (∀ a,e<=a->ACalls
 prog 32 [.pk,.i,.str,.str,.i,.dc,.dc,.dc,.dc,.row 30 9] [.dg 9 I] a (λb c d e f g h i j k l=>a<=l->Bel l (D.ag
 j)->yr Q N a1 e1 c1 J O U 0 I 0 b0 b0 0 0 none [] 0 0 none [] 0 none [] 0 b c d e f g h i j.length k j k
 l))))))):ksC 24 [.dg 9 I,.sv a1 3 e1 c1,.sv J 4 O U] N Q:=
  eE CK h
theorem DT N I e0 J(Q:QT [.sl 4,.sl 4])(h :
Bel N (D.sl I 4 e0 J)->yX Q N I e0 J 0 0 0 0 0 [] 0 [] 0 N):ksC 16 [.sv I 4 e0 J] N Q:=
 eE sO h
theorem EV N I e0 J O Y U c2(Q:QT [.ag 9,.bool])(h :
Bel N (D.sl I 4 e0 J)->Bel N O->Bel N (D.sl Y 0 U c2)->kAB 2 22 [.sv I 4 e0 J,.dg 9 O] N (λ_ b d=>∀ e,d<=e->ACalls prog 16 [.sl 4,
 .sl 4] [.sv I 4 e0 J] e (λa c d f g h i=>e<=i->Bel i (D.sl a 4 c d)->Bel i (D.sl f 4 g h)->Br (!b) (∀ a,i<=a->Q (D.ag
 [D.j 0,D.t b0,D.t b0,D.j 0,D.j 0,D.sl none 2 [] 0,D.j 0,D.sl none 2 [] 0,D.sl none 9 [] 0]) false a) (Br (bne (U.length:Int) (c.length:Int)) (∀
 a,i<=a->Q (D.ag [D.j 0,D.t b0,D.t b0,D.j 0,D.j 0,D.sl none 2 [] 0,D.j 0,D.sl none 2 [] 0,D.sl none 9 [] 0]) false a) (yg Q N I
 e0 J Y U c2 0 0 0 0 O 0 b0 b0 0 0 none [] 0 0 none [] 0 none [] 0 [] 0 i))))):ksC 9 [.sv I 4 e0 J,.dg 9 O,.sv Y 0 U c2] N Q:=
  eE rG h
theorem DM N I e0 J(Q:QT [.sl 4,.sl 4])(h :
Bel N (D.sl I 4 e0 J)->yW Q N 0 0 0 0 I e0 J (e0.length:Int) 0 [] 0 [] 0 N):ksC 14 [.sv I 4 e0 J] N Q:=
 eE sK h
theorem Nd N n0(Q:QT [.ag 9])(h :
∀ a,N<=a->Q (D.ag [D.j 2,D.t b0,D.t b0,D.j n0,D.j 0,D.sl none 2 [] 0,D.j 0,D.sl none 2 [] 0,D.sl none 9 [] 0]) a):ksC 104 [.j n0] N Q:=
  eE H0 h
theorem IU N n0 b1(Q:QT [.ag 9])(h :
Br b1 (∀ a,N<=a->Q (D.ag [D.j 3,D.t b0,D.t b0,D.j n0,D.j 0,D.sl none 2 [] 0,D.j 0,D.sl none 2 [] 0,D.sl none 9 [] 0]) a) (kA 9 104 [.j n0] N
 (fun x a=>uP a (Q x)))):ksC 53 [.j n0,.bool b1] N Q:=
  eE H0 h
theorem IV N I e0 J O(Q:QT [.sl 4])(h :
Bel N (D.sl I 4 e0 J)->Bel N O->∃ s,(O.cell 1)=D.t s/\∃ a b,∃ c:Nat,(O.cell 8)=D.sl a 9 b c/\ksL 0 b/\kA 2 55 [.sv I 4 e0 J,.dg 9 (b.getD 0 ksD),.j 0] N (λx a=>(1=([D.ag [D.t s,(x.cell 0),(x.cell 1),D.j 0]]).length/\1=1)/\∀
 b,ApA b [D.ag [D.t s,(x.cell 0),(x.cell 1),D.j 0]]->Off [b] (D.sl I 4 e0 J)->∀ c,a<=c->wm c [b]->ACalls prog 108 [.sl 4] [.sv I 4 e0
 J,.sv b 4 [D.ag [D.t s,(x.cell 0),(x.cell 1),D.j 0]] 1] c (λa d e f=>c<=f->Off [b] (D.sl a 4 d e)/\(Bel f (D.sl a 4 d
 e)->uP f (Q a d e))))):ksC 56 [.sv I 4 e0 J,.dg 9 O] N Q:=
  eE Hx h
theorem AV N J e0 O a1 e1 c1 I(Q:QT [.ag 9])(h :
Bel N (D.sl J 3 e0 O)->Bel N (D.sl a1 4 e1 c1)->Bel N I->kB 52 [.sv J 3 e0 O,.dg 9 I] N (λb d=>Br (!b) (∀ a,d<=a->ACalls prog 54 [.i]
 [.sv J 3 e0 O,.dg 9 I] a (λn b=>a<=b->kA 2 55 [.sv a1 4 e1 c1,.dg 9 I,.j 0] b (λx a=>∃ b:Int,(x.cell 0)=D.j b/\kA 9 53 [.j n,
 .bool (b==2)] a (λa b=>uP b (Q a))))) (∃ b:Int,(I.cell 0)=D.j b/\Br (b==1) (kA 9 39 [.dg 9 I] d (λa b=>uP b (Q
 a))) (∃ b:Int,(I.cell 0)=D.j b/\Br (b==5) (∃ a b,∃ c:Nat,(I.cell 8)=D.sl a 9 b c/\ksL 0 b /\
 kB 52 [.sv J 3 e0 O,.dg 9 (b.getD 0 ksD)] d (λa b=>Br (!a) (∃ a c,∃ d:Nat,(I.cell 8)=D.sl a 9 c d/\∃ a d,∃
 e:Nat,(I.cell 8)=D.sl a 9 d e/\ksL 0 d/\∀ a,b<=a->ACalls prog 54 [.i] [.sv J 3 e0 O,.dg 9
 (d.getD 0 ksD)] a (λb d=>a<=d->(0<=ksW.wrap (2 - b)/\ksW.wrap (2 - b)<(c.length:Int))/\kA 9 21 [.sv
 J 3 e0 O,.sv a1 4 e1 c1,.dg 9 (List.getD c (ksW.wrap (2 - b)).toNat default)] d (λa b=>uP b (Q a)))) (∃ a:Int,(I.cell 0) =
 D.j a/\Br (a==8) (∃ a c,∃ d:Nat,(I.cell 8)=D.sl a 9 c d/\ksL 0 c/\kB 52 [.sv J 3 e0 O,
 .dg 9 (c.getD 0 ksD)] b (λa b=>Br (!a) (∃ s,(I.cell 1)=D.t s/\∃ a c,∃ d:Nat,(I.cell 8)=D.sl a 9 c d/\ksL 0 c/\∀ a,b<=a->ACalls prog 54 [.i] [.sv J 3 e0 O,.dg 9 (c.getD 0 ksD)] a (λb c=>a
 <= c->∃ a d,∃ e:Nat,(I.cell 8)=D.sl a 9 d e/\ksL 1 d/\kL 3 51 [.sv J 3 e0 O,.dg 3 (D.ag
 [D.t s,D.j b,D.lit (.bool false)])] c (λa b c e=>kL 4 56 [.sv a1 4 e1 c1,.dg 9 I] e (λe f g h=>kA 9 21 [.sv a 3 b
 c,.sv e 4 f g,.dg 9 (d.getD 1 ksD)] h (λa b=>uP b (Q a)))))) (∃ a c,∃ d:Nat,(I.cell 8)=D.sl a 9 c d /\
 zE Q N J e0 O a1 e1 c1 0 0 a c d (c.length:Int) 0 I 0 b0 b0 0 0 none [] 0 0 none [] 0 none [] 0 [] 0 b))) (∃ a c,∃
 d:Nat,(I.cell 8)=D.sl a 9 c d/\zE Q N J e0 O a1 e1 c1 0 0 a c d (c.length:Int) 0 I 0 b0 b0 0 0 none [] 0 0
 none [] 0 none [] 0 [] 0 b)))) (∃ a:Int,(I.cell 0)=D.j a/\Br (a==8) (∃ a b,∃ c:Nat,(I.cell 8)=D.sl a 9 b c/\ksL 0 b/\kB 52 [.sv J 3 e0 O,.dg 9 (b.getD 0 ksD)] d (λa b=>Br (!a) (∃ a,(I.cell 1)=D.t
 a/\∃ c d,∃ e:Nat,(I.cell 8)=D.sl c 9 d e/\ksL 0 d/\∀ c,b<=c->ACalls prog 54
 [.i] [.sv J 3 e0 O,.dg 9 (d.getD 0 ksD)] c (λb d=>c<=d->∃ c e,∃ f:Nat,(I.cell 8)=D.sl c 9 e f/\ksL 1 e/\kL 3 51 [.sv J 3 e0 O,.dg 3 (D.ag [D.t a,D.j b,D.lit (.bool false)])] d (λa b c d=>
 kL 4 56 [.sv a1 4 e1 c1,.dg 9 I] d (λd f g h=>kA 9 21 [.sv a 3 b c,.sv d 4 f g,.dg 9 (e.getD 1 ksD)] h
 (λa b=>uP b (Q a)))))) (∃ a c,∃ d:Nat,(I.cell 8)=D.sl a 9 c d/\zE Q N J e0 O a1 e1 c1 0 0 a
 c d (c.length:Int) 0 I 0 b0 b0 0 0 none [] 0 0 none [] 0 none [] 0 [] 0 b))) (∃ a b,∃ c:Nat,(I.cell 8)=D.sl a 9 b c /\
 zE Q N J e0 O a1 e1 c1 0 0 a b c (b.length:Int) 0 I 0 b0 b0 0 0 none [] 0 0 none [] 0 none [] 0 [] 0 d))))) ):ksC 21 [.sv J 3 e0 O,.sv a1 4 e1 c1,.dg 9 I] N Q:=
  eE ua h
theorem ER N a0 e0 c0 x1 a2 e2 c2(Q:QT [.ag 9,.bool])(h :
Bel N (D.sl a0 4 e0 c0)->Bel N x1->Bel N (D.sl a2 0 e2 c2)->∀ d,N<=d->ACalls prog 14 [.sl 4,.sl 4] [.sv a0 4 e0 c0] d (fun a c e f g h i
 => d<=i->Bel i (D.sl a 4 c e)->Bel i (D.sl f 4 g h)->kAB 2 18 [.sv a0 4 e0 c0,.dg 9 x1] i (fun _ b d=>Br (!b) (∀ a,d<=a->Q (D.ag [D.j
 0,D.t b0,D.t b0,D.j 0,D.j 0,D.sl none 2 [] 0,D.j 0,D.sl none 2 [] 0,D.sl none 9 [] 0]) false a) (kB 19 [.sv a 4 c e,.sv a2 0 e2 c2] d (fun a b=>
 Br (!a) (∀ a,b<=a->Q (D.ag [D.j 0,D.t b0,D.t b0,D.j 0,D.j 0,D.sl none 2 [] 0,D.j 0,D.sl none 2 [] 0,D.sl none 9 [] 0]) false a)
 (xZ Q N a0 e0 c0 a2 e2 c2 0 0 a0 e0 c0 (e0.length:Int) 0 x1 0 b0 b0 0 0 none [] 0 0 none [] 0 none [] 0 [] 0 b)))))):ksC 8 [.sv a0 4 e0 c0,.dg 9 x1,.sv a2 0 e2 c2] N Q:=
  eE rE h
theorem rd {Q:QT [.sl 2]}{N0 a0 e0 c0 m3 c3 n4 r0 q0 N}(h :
Br (decide (n4<(e0.length:Int))) (ksL n4 e0/\∃ s,(if 0=0 then D.cell (e0.getD n4.toNat ksD) 0 else D.sub
 (e0.getD n4.toNat ksD) 0 0)=D.t s/\ksL n4 e0/\∃ b:Bool,(if 0=0 then D.cell (e0.getD n4.toNat ksD) 1 else
 D.sub (e0.getD n4.toNat ksD) 1 0)=D.lit (.bool b)/\(m3=r0.length/\c3=q0)/\zA r0 [D.ag [D.t s,D.lit (.bool b)]] 24/\∀(c:Nat),
 wQ Q N0 a0 e0 c0 (r0++[D.ag [D.t s,D.lit (.bool b)]]).length c (ksW.wrap (n4+1)) (r0++[D.ag [D.t s,D.lit (.bool b)]]) c N) (w3
 (m3=r0.length/\c3=q0) (∀ a b,N<=b->Fresh N0 b a [D.ag r0]->uP b (Q a r0 q0))) ):wQ Q N0 a0 e0 c0 m3 c3 n4 r0 q0 N:=
  hE pO h
theorem sg {Q:QT [.sl 2]}{N0 Y e0 c0 O U I r0 J N}(h :
Br (decide (I<(e0.length:Int))) (ksL I e0/\∃ s,(if 0=0 then D.cell (e0.getD I.toNat ksD) 0 else D.sub
 (e0.getD I.toNat ksD) 0 0)=D.t s/\ksL I e0/\∃ n:Int,(if 0=0 then D.cell (e0.getD I.toNat ksD) 2 else D.sub
 (e0.getD I.toNat ksD) 2 0)=D.j n/\(O=r0.length/\U=J)/\zA r0 [D.ag [D.t s,D.j n]] 24/\∀(c:Nat),xw Q N0 Y e0 c0
 (r0++[D.ag [D.t s,D.j n]]).length c (ksW.wrap (I+1)) (r0++[D.ag [D.t s,D.j n]]) c N) (w3 (O=r0.length/\U=J) (∀ a b,N<=b->Fresh N0
 b a [D.ag r0]->uP b (Q a r0 J)))):xw Q N0 Y e0 c0 O U I r0 J N:=
  hE qi h
theorem qv {Q:QT [.ag 9]}{N0 a1 e1 c1 a2 e2 c2 n9 y0 ai aj ak al am ao aq au aw ax ay az a0 a3 a4 aa ab ac ae I J O U}{Y ah:Nat}{r3 q3 N}(h :
∃ a b,∃ c:Nat,(y0.cell 8)=D.sl a 9 b c/\Br (decide (n9<(b.length:Int))) (∃ a b,∃ c:Nat,(y0.cell 8)=D.sl a 9 b c/\ksL n9 b/\kA 9 24 [.dg 9 (b.getD n9.toNat ksD),.sv a1 3 e1 c1,.sv a2 4 e2 c2] N (λx a=>(0<=n9/\n9<(Y:Int)/\(0
 + n9.toNat:Nat)<r3.length)/\(0+n9.toNat:Nat)<r3.length/\yr Q N0 a1 e1 c1 a2 e2 c2 (ksW.wrap (n9+1)) y0 ai aj ak al
 am ao aq au aw ax ay az a0 a3 a4 aa ab ac ae I J O U Y ah (List.set r3 (0+n9.toNat:Nat) x) q3 a)) (w3 (Y
 = r3.length/\ah=q3) (∀ a b,N<=b->Fresh N0 b a [D.ag r3,I,J,O,U]->uP b (Q (D.ag [D.j aa,D.t ab,D.t ac,D.j ae,I,
 J,O,U,D.sl a 9 r3 q3]))))):yr Q N0 a1 e1 c1 a2 e2 c2 n9 y0 ai aj ak al am ao aq au aw ax ay az a0 a3 a4 aa ab ac ae I J O U Y ah r3 q3 N:=
  hE CK h
theorem u5 {Q:QT [.sl 4,.sl 4]}{N0 a0 e0 c0 U Y m5 c5 I r0 J r1 O N}(h :
Br (decide (I<(e0.length:Int))) (ksL I e0/\∃ s,(if 0=0 then D.cell (e0.getD I.toNat ksD) 0 else D.sub
 (e0.getD I.toNat ksD) 0 0)=D.t s/\ksL I e0/\ksL I e0/\∃ b:Bool,(if 0=0 then D.cell
 (e0.getD I.toNat ksD) 3 else D.sub (e0.getD I.toNat ksD) 3 0)=D.lit (.bool b)/\kA 2 42 [.dg 2 (if 2=0 then D.cell (e0.getD I.toNat ksD) 1 else D.sub (e0.getD I.toNat ksD) 1 2)] N (λx a=>Br b ((m5=r1.length/\c5=O)/\zA r1 [D.ag [D.t s,(x.cell 0),
 (x.cell 1),D.lit (.bool b)]] 56/\∀(c:Nat),yX Q N0 a0 e0 c0 U Y (r1++[D.ag [D.t s,(x.cell 0),(x.cell 1),D.lit (.bool b)]]).length
 c (ksW.wrap (I+1)) r0 J (r1++[D.ag [D.t s,(x.cell 0),(x.cell 1),D.lit (.bool b)]]) c a) ((U=r0.length/\Y=J)/\zA r0 [D.ag [D.t s,
 (x.cell 0),(x.cell 1),D.lit (.bool b)]] 56/\∀(c:Nat),yX Q N0 a0 e0 c0 (r0++[D.ag [D.t s,(x.cell 0),(x.cell 1),D.lit (.bool
 b)]]).length c m5 c5 (ksW.wrap (I+1)) (r0++[D.ag [D.t s,(x.cell 0),(x.cell 1),D.lit (.bool b)]]) c r1 O a))) (w3 (U=r0.length/\Y =
 J) (∀ a b,N<=b->Fresh N0 b a [D.ag r0,D.ag r1]->w3 (m5=r1.length/\c5=O) (∀ c d,b<=d->Fresh N0 d c [D.ag r1,D.sl a 4 r0 J]->uP d (Q
 a r0 J c r1 O))))):yX Q N0 a0 e0 c0 U Y m5 c5 I r0 J r1 O N:=
  hE sO h
theorem tl {Q:QT [.ag 9,.bool]}{N0 a0 e0 c0 a2 e2 c2 ax U J I y0 Y aa ab ac ae ah ai aj ak al am ao aq au aw O q2 N}(h :
Br (decide (I<(e0.length:Int))) (ksL I e0/\∃ s,(if 0=0 then D.cell (e0.getD I.toNat ksD) 0 else D.sub
 (e0.getD I.toNat ksD) 0 0)=D.t s/\ksL I e0/\∃ b:Bool,(if 0=0 then D.cell (e0.getD I.toNat ksD) 3 else
 D.sub (e0.getD I.toNat ksD) 3 0)=D.lit (.bool b)/\Br (!b) (ksL I e0/\ksL J e2/\∃ n:Int,
 e2.getD J.toNat ksD=D.j n/\kB 23 [.dg 2 (if 2=0 then D.cell (e0.getD I.toNat ksD) 1 else D.sub (e0.getD I.toNat ksD) 1 2),
 .j n] N (λa d=>Br (!a) (∀ a,d<=a->Q (D.ag [D.j 0,D.t b0,D.t b0,D.j 0,D.j 0,D.sl none 2 [] 0,D.j 0,D.sl none 2 [] 0,D.sl none 9 [] 0])
 false a) (ksL J e2/\∃ a:Int,e2.getD J.toNat ksD=D.j a/\(ax=O.length/\U=q2)/\zA O [D.ag [D.t s,
 D.lit (.bool b),D.j a]] 32/\∀(c:Nat),yg Q N0 a0 e0 c0 a2 e2 c2 (O++[D.ag [D.t s,D.lit (.bool b),D.j a]]).length c
 (ksW.wrap (J+1)) (ksW.wrap (I+1)) y0 Y aa ab ac ae ah ai aj ak al am ao aq au aw (O++[D.ag [D.t s,
 D.lit (.bool b),D.j a]]) c d))) ((ax=O.length/\U=q2)/\zA O [D.ag [D.t s,D.lit (.bool b),D.j 0]] 32/\∀(a:Nat),yg Q
 N0 a0 e0 c0 a2 e2 c2 (O++[D.ag [D.t s,D.lit (.bool b),D.j 0]]).length a J (ksW.wrap (I+1)) y0 Y aa ab ac ae ah ai aj ak
 al am ao aq au aw (O++[D.ag [D.t s,D.lit (.bool b),D.j 0]]) a N)) (kL 4 25 [.sv a0 4 e0 c0] N (λa b c d=>(ax=O.length/\U =
 q2)/\∀ e,ApA e O->Off [e] y0->Off [e] (D.sl a 4 b c)->∀ f,d<=f->wm f [e]->ACalls prog 24 [.ag 9] [.dg 9 y0,.sv e 3 O U,.sv a
 4 b c] f (λx a=>f<=a->Off [e] x/\(Bel a x->uP a (Q x true))))) ):yg Q N0 a0 e0 c0 a2 e2 c2 ax U J I y0 Y aa ab ac ae ah ai aj ak al am ao aq au aw O q2 N:=
  hE rG h
theorem uy {Q:QT [.sl 4,.sl 4]}{N0 m4 c4 m5 c5 U J Y O I r0 q0 r1 q1 N}(h :
Br (decide (I<O)) (ksL I J/\∃ s,D.cell (J.getD I.toNat ksD) 0=D.t s/\∃ b:Bool,D.cell (J.getD I.toNat ksD) 3=D.lit (.bool b)/\kA 2 38 [.dg 2 (D.sub (J.getD I.toNat ksD) 1 2)] N (λx a=>∃ d:Bool,D.cell (J.getD I.toNat ksD) 3=D.lit (.bool d)/\Br d ((m5=r1.length/\c5=q1)/\zA r1 [D.ag [D.t s,(x.cell 0),(x.cell 1),D.lit (.bool b)]] 56/\∀(c :
 Nat),yW Q N0 m4 c4 (r1++[D.ag [D.t s,(x.cell 0),(x.cell 1),D.lit (.bool b)]]).length c U J Y O (ksW.wrap (I+1)) r0
 q0 (r1++[D.ag [D.t s,(x.cell 0),(x.cell 1),D.lit (.bool b)]]) c a) ((m4=r0.length/\c4=q0)/\zA r0 [D.ag [D.t s,(x.cell 0),(x.cell 1),D.lit
 (.bool b)]] 56/\∀(c:Nat),yW Q N0 (r0++[D.ag [D.t s,(x.cell 0),(x.cell 1),D.lit (.bool b)]]).length c m5 c5 U J Y O
 (ksW.wrap (I+1)) (r0++[D.ag [D.t s,(x.cell 0),(x.cell 1),D.lit (.bool b)]]) c r1 q1 a))) (w3 (m4=r0.length/\c4=q0) (∀ a b,N<=b ->
 Fresh N0 b a [D.ag r0,D.ag r1]->w3 (m5=r1.length/\c5=q1) (∀ c d,b<=d->Fresh N0 d c [D.ag r1,D.sl a 4 r0 q0]->uP d (Q a r0 q0 c r1
 q1))))):yW Q N0 m4 c4 m5 c5 U J Y O I r0 q0 r1 q1 N:=
  hE sK h
theorem vH {Q:QT [.ag 9]}{N0 a0 e0 c0 a1 e1 c1 m8 c8 ax J ay aw I y0 U Y aa ab ac ae ah ai aj ak al am ao aq au O q2 N}(h :
Br (decide (I<aw)) (ksL I J/\∃ n:Int,(y0.cell 0)=D.j n/\Br (n==8) (Br (I==1) (kL 4 56 [.sv a1 4 e1 c1,.dg 9
 y0] N (λa b c d=>kL 3 57 [.sv a0 3 e0 c0,.dg 9 y0,.j I] d (λd e f g=>kA 9 21 [.sv d 3 e f,.sv a 4 b c,.dg 9 (J.getD I.toNat ksD)] g (λx a=>(m8=O.length/\c8=q2)/\zA O [x] 136/\∀(b:Nat),zE Q N0 a0 e0 c0 a1 e1 c1 (O ++
 [x]).length b ax J ay aw (ksW.wrap (I+1)) y0 U Y aa ab ac ae ah ai aj ak al am ao aq au (O++[x]) b
 a)))) (kL 3 57 [.sv a0 3 e0 c0,.dg 9 y0,.j I] N (λa b c d=>kA 9 21 [.sv a 3 b c,.sv a1 4 e1 c1,.dg 9 (J.getD I.toNat ksD)] d (λa b=>(m8=O.length/\c8=q2)/\zA O [a] 136/\∀(c:Nat),zE Q N0 a0 e0 c0 a1 e1 c1 (O ++
 [a]).length c ax J ay aw (ksW.wrap (I+1)) y0 U Y aa ab ac ae ah ai aj ak al am ao aq au (O++[a]) c
 b)))) (kL 3 57 [.sv a0 3 e0 c0,.dg 9 y0,.j I] N (λa b c d=>kA 9 21 [.sv a 3 b c,.sv a1 4 e1 c1,.dg 9 (J.getD I.toNat ksD)] d (λa b=>(m8=O.length/\c8=q2)/\zA O [a] 136/\∀(c:Nat),zE Q N0 a0 e0 c0 a1 e1 c1 (O ++
 [a]).length c ax J ay aw (ksW.wrap (I+1)) y0 U Y aa ab ac ae ah ai aj ak al am ao aq au (O++[a]) c
 b)))) (w2 (m8=O.length/\c8=q2) (∀ a b,N<=b->Fresh N0 b a [D.ag O]->kA 9 58 [.dg 9 y0,.sv a 9 O q2] b (λa b=>uP b (Q
 a))))):zE Q N0 a0 e0 c0 a1 e1 c1 m8 c8 ax J ay aw I y0 U Y aa ab ac ae ah ai aj ak al am ao aq au O q2 N:=
  hE ua h
theorem ti {Q:QT [.ag 9,.bool]}{N0 a0 e0 c0 a2 e2 c2 aw O ay J az ax I y0 U Y aa ab ac ae ah ai aj ak al am ao aq au r2 q2 N}(h :
Br (decide (I<ax)) (ksL I J/\∃ s,D.cell (J.getD I.toNat ksD) 0=D.t s/\(aw=r2.length/\O=q2) /\
 zA r2 [D.ag [D.t s,D.cell (D.sub (J.getD I.toNat ksD) 1 2) 0,D.cell (D.sub (J.getD I.toNat ksD) 1 2) 1,D.j 0]] 56/\∀(c :
 Nat),xZ Q N0 a0 e0 c0 a2 e2 c2 (r2++[D.ag [D.t s,D.cell (D.sub (J.getD I.toNat ksD) 1 2) 0,D.cell (D.sub (J.getD I.toNat ksD) 1 2) 1,D.j 0]]).length c ay J az ax (ksW.wrap (I+1)) y0 U Y aa ab ac ae ah ai aj ak al am ao
 aq au (r2++[D.ag [D.t s,D.cell (D.sub (J.getD I.toNat ksD) 1 2) 0,D.cell (D.sub (J.getD I.toNat ksD) 1 2) 1,D.j 0]]) c N) (kL
 3 20 [.sv a0 4 e0 c0,.sv a2 0 e2 c2] N (λa b c d=>(aw=r2.length/\O=q2)/\∀ e,ApA e r2->Off [e] (D.sl a 3 b c)->Off [e] y0->∀
 f,d<=f->wm f [e]->ACalls prog 21 [.ag 9] [.sv a 3 b c,.sv e 4 r2 O,.dg 9 y0] f (λx a=>f<=a->Off [e] x/\(Bel a x->uP a (Q x
 true)))))):xZ Q N0 a0 e0 c0 a2 e2 c2 aw O ay J az ax I y0 U Y aa ab ac ae ah ai aj ak al am ao aq au r2 q2 N:=
  hE rE h
end Go.Proofs.YtlaniepnglheoaaGreat
set_option maxRecDepth 100000
namespace Go.Proofs.YtlaniepnglheoaaGreat
open Go Go.Proofs Go.Proofs.Tryz
def L2:Hint:=⟨[],[],[(3,hs 4 [ec 1 [13]])]⟩
def uI:Hint:=⟨[hc 3 [0,4,5,6]],[],[(1,hs 4 [ec 1 [7]]),(5,[en 0,en 1,en 2,en 3,en 4,en 5,en 6,en 7,en 8,en 9,en 10,ec 11 [25,26],eh 12])]⟩
def E6:Hint:=⟨[],[],[(1,hs 9 [ec 2 [12]]),(5,hs 11 [ec 4 [27],ec 5 [28],ec 6 [29],ec 7 [30],ec 8 [31]])]⟩
def rz:Hint:=⟨[],[],[(1,hs 10 [ec 3 [14]]),(5,hs 5 [ec 2 [28]])]⟩
def Lx:Hint:=⟨[],[],[(1,[en 0,en 1,en 3,en 4,ec 2 [8],en 5,eh 6])]⟩
def rv:Hint:=⟨[],[],[(2,hs 10 [ec 3 [19]]),(5,hs 5 [ec 2 [28]])]⟩
def tS (Q:QT [.ag 9]) N0 a0 e0 c0 n6 I J O U Y aa ab ac ae ah ai aj ak al am ao aq au aw ax ay az a2 a3 a4 r2 q2 N:=ksT 17 3 Q N0 (.sv a0 4 e0 c0::an 3 (.pb 0 0 0 0::.pb 1 0 0 0::.j n6::an 22 [])) [ksV I J O U Y aa ab ac ae ah ai aj ak al am,.var [.j ao,.str aq,.str au,.j aw,.dc ax,.dc ay,.dc az,.dc a2,.sb 2 9 0 a3 a4],.arr 30 9 r2 q2] N
def yn (Q:QT [.ag 9]) N0 a0 e0 c0 n6 I J O U Y aa ab ac ae ah ai aj ak al am y1 N:=ksT 17 3 Q N0 (.sv a0 4 e0 c0::an 3 (.pb 0 0 0 0::.pb 1 0 0 0::.j n6::an 22 [])) [ksV I J O U Y aa ab ac ae ah ai aj ak al am,.vd y1 9] N
theorem E0 N O J I(Q:QT [.ag 9])(h :
Bel N J->Bel N I->(1=([I]).length/\1=1)/\∀ a,ApA a [I]->∀ b,N<=b->wm b [a]->ACalls prog 28 [.ag 9] [.j 6,.sv a 9 [I] 1] b (λx
 c=>b<=c->Off [a] x/\(Bel c x->kA 2 42 [.dg 2 J] c (λa b=>uP b (Q (D.ag [(x.cell 0),D.t O,(x.cell 2),(x.cell 3),(a.cell 0),(a.cell
 1),(x.cell 6),(x.cell 7),(x.cell 8)])))))):ksC 43 [.str O,.dg 2 J,.dg 9 I] N Q:=
  eE L2 h
theorem EU N I e0 J O(Q:QT [.ag 9])(h :
Bel N (D.sl I 4 e0 J)->Bel N O->∀ a,N<=a->ACalls prog 32 [.pk,.i,.str,.str,.i,.dc,.dc,.dc,.dc,.row 30 9] [.dg 9 O] a (λn s b c
 x d e f g h i=>a<=i->Bel i (D.ag g)->tS Q N I e0 J (ksW.wrap ((e0.length:Int) - 1)) 0 b0 b0 0 0 none [] 0 0 none
 [] 0 none [] 0 n s b c x d e f g.length h g h i)):ksC 17 [.sv I 4 e0 J,.dg 9 O] N Q:=
  eE uI h
theorem Fb N I e0 J O(Q:QT [.ag 9,.bool])(h :
Bel N (D.sl I 4 e0 J)->Bel N O->kAB 2 22 [.sv I 4 e0 J,.dg 9 O] N (λ_ b d=>Br (!b) (∀ a,d<=a->Q (D.ag [D.j 0,D.t b0,D.t b0,D.j 0,
 D.j 0,D.sl none 2 [] 0,D.j 0,D.sl none 2 [] 0,D.sl none 9 [] 0]) false a) (∀ b,d<=b->ACalls prog 16 [.sl 4,.sl 4] [.sv I 4 e0 J] b (λa c d
 e f g h=>b<=h->Bel h (D.sl a 4 c d)->Bel h (D.sl e 4 f g)->kA 9 72 [.sv I 4 e0 J,.dg 9 O] h (λb h=>kA 9 71 [.dg 9 b] h
 (λb h=>kA 9 17 [.sv e 4 f g,.dg 9 b] h (λb e=>kA 9 70 [.dg 9 b] e (λb e=>kA 9 17 [.sv a 4 c d,.dg 9 b] e (λa
 b=>uP b (Q a true)))))))))):ksC 27 [.sv I 4 e0 J,.dg 9 O] N Q:=
  eE E6 h
theorem qX N I e0 J O U Y c2(Q:QT [.ag 9,.bool])(h :
Bel N (D.sl I 4 e0 J)->Bel N O->Bel N (D.sl U 0 Y c2)->kAB 9 9 [.sv I 4 e0 J,.dg 9 O,.sv U 0 Y c2] N (λx b d=>Br (!b) (∀ a,d<=a ->
 Q (D.ag [D.j 0,D.t b0,D.t b0,D.j 0,D.j 0,D.sl none 2 [] 0,D.j 0,D.sl none 2 [] 0,D.sl none 9 [] 0]) false a) (∀ b,d<=b->ACalls prog 16 [.sl 4,
 .sl 4] [.sv I 4 e0 J] b (λa c d e f g h=>b<=h->Bel h (D.sl a 4 c d)->Bel h (D.sl e 4 f g)->kA 9 17 [.sv e 4 f g,.dg 9
 x] h (λa b=>uP b (Q a true)))))):ksC 7 [.sv I 4 e0 J,.dg 9 O,.sv U 0 Y c2] N Q:=
  eE rz h
theorem Nf N O J I(Q:QT [.ag 9])(h :
Bel N J->Bel N I->kA 2 38 [.dg 2 J] N (λx b=>w3 (1=([I]).length/\1=1) (∀ a c,b<=c->Fresh N c a [D.ag [I],(x.cell 0),(x.cell 1),
 D.sl none 2 [] 0]->∀ b,c<=b->Q (D.ag [D.j 6,D.t O,D.t b0,D.j 0,(x.cell 0),(x.cell 1),D.j 0,D.sl none 2 [] 0,D.sl a 9 [I] 1]) b))):ksC 41 [.str O,.dg 2 J,.dg 9 I] N Q:=
  eE Lx h
theorem qU N I e0 J O U Y c2(Q:QT [.ag 9,.bool])(h :
Bel N (D.sl I 4 e0 J)->Bel N O->Bel N (D.sl U 0 Y c2)->∀ d,N<=d->ACalls prog 14 [.sl 4,.sl 4] [.sv I 4 e0 J] d (λa c e f g h i
 => d<=i->Bel i (D.sl a 4 c e)->Bel i (D.sl f 4 g h)->kAB 9 8 [.sv I 4 e0 J,.dg 9 O,.sv U 0 Y c2] i (λx b a=>Br (!b) (∀ b,a<=b
 -> Q (D.ag [D.j 0,D.t b0,D.t b0,D.j 0,D.j 0,D.sl none 2 [] 0,D.j 0,D.sl none 2 [] 0,D.sl none 9 [] 0]) false b) (kA 9 15 [.sv f 4 g h,.dg 9 x]
 a (λa b=>uP b (Q a true)))))):ksC 6 [.sv I 4 e0 J,.dg 9 O,.sv U 0 Y c2] N Q:=
  eE rv h
theorem Bh {Q:QT [.ag 9]}{N0 a0 e0 c0 n6 n0_0 s0_1 s0_2 n0_3 n0_4 a0_5 e0_5 c0_5 n0_6 a0_7 e0_7 c0_7 a0_8 e0_8 c0_8 n1_0 s1_1 s1_2 n1_3 x1_4 x1_5 x1_6 x1_7 m1_8 c1_8 r2 q2 N}(h :
Br (decide (n6≥0)) (ksL n6 e0/\∃ s,(if 0=0 then D.cell (e0.getD n6.toNat ksD) 0 else D.sub (e0.getD n6.toNat ksD) 0 0)=D.t s/\ksL n6 e0/\w2 (m1_8=r2.length/\c1_8=q2) (∀ a b,N<=b->Fresh N0 b a [D.ag r2]->kA 9 43 [.str s,.dg 2
 (if 2=0 then D.cell (e0.getD n6.toNat ksD) 1 else D.sub (e0.getD n6.toNat ksD) 1 2),.dg 9 (D.ag [D.j n1_0,D.t s1_1,D.t s1_2,D.j n1_3,
 x1_4,x1_5,x1_6,x1_7,D.sl a 9 r2 q2])] b (fun x a=>yn Q N0 a0 e0 c0 (ksW.wrap (n6 - 1)) n0_0 s0_1 s0_2 n0_3 n0_4 a0_5 e0_5
 c0_5 n0_6 a0_7 e0_7 c0_7 a0_8 e0_8 c0_8 x a))) (w3 (m1_8=r2.length/\c1_8=q2) (∀ a b,N<=b->Fresh N0 b a [D.ag r2,x1_4,x1_5,x1_6,x1_7]->uP b
 (Q (D.ag [D.j n1_0,D.t s1_1,D.t s1_2,D.j n1_3,x1_4,x1_5,x1_6,x1_7,D.sl a 9 r2 q2]))))):tS Q N0 a0 e0 c0 n6 n0_0 s0_1 s0_2 n0_3 n0_4 a0_5 e0_5 c0_5 n0_6 a0_7 e0_7 c0_7 a0_8 e0_8 c0_8 n1_0 s1_1 s1_2 n1_3 x1_4 x1_5 x1_6 x1_7 m1_8 c1_8 r2 q2 N:=
  hE uI h
theorem uG {Q:QT [.ag 9]}{N0 a0 e0 c0 I J O U Y aa ab ac ae ah ai aj ak al am ao y1 N}(h :
Br (decide (I≥0)) (ksL I e0/\∃ s,(if 0=0 then D.cell (e0.getD I.toNat ksD) 0 else D.sub (e0.getD I.toNat ksD) 0 0)=D.t s/\ksL I e0/\kA 9 43 [.str s,.dg 2 (if 2=0 then D.cell (e0.getD I.toNat ksD) 1 else D.sub (e0.getD I.toNat ksD) 1 2),.dg 9 y1] N (λx a=>yn Q N0 a0 e0 c0 (ksW.wrap (I - 1)) J O U Y aa ab ac ae
 ah ai aj ak al am ao x a)) (uP N (Q y1))):yn Q N0 a0 e0 c0 I J O U Y aa ab ac ae ah ai aj ak al am ao y1 N:=
  hE uI h
end Go.Proofs.YtlaniepnglheoaaGreat
set_option maxRecDepth 100000
namespace Go.Proofs.YtlaniepnglheoaaGreat
open Go Go.Proofs Go.Proofs.Tryz
def BH:Hint:=⟨[hc 4 [1,2,5]],[],[(6,[en 0,en 1,en 2,en 3,en 4,en 5,en 6,en 7]),(9,hs 7 [ec 5 [40]]),(12,hs 7 [ec 5 [50]]),(16,[en 0,en 1,en 2,en 3,en 4,en 5,en 6,en 11,ec 7 [69],en 8,en 9,en 10,ec 12 [74],en 13]),(19,[en 0,en 1,en 2,en 3,en 4,en 5,en 6,en 7,en 8,en 9,en 10,en 11,ec 12 [92],en 13,en 14,eh 15,ec 16 [85],en 17])]⟩
def BA:Hint:=⟨[hc 4 [1,12,13,14]],[],[(6,[en 0,en 1,en 2,en 3,en 4,en 5,ec 6 [20],en 7])]⟩
def tN:Hint:=⟨[hc 13 [0,3,5,59,60,61]],[],[(8,[en 0,en 1,en 2,en 3,en 4,en 5,en 6,en 7,ec 8 [33],en 9,en 10,en 11,ec 12 [37],en 13]),(10,[en 0,en 1,en 2,en 3,en 4,en 5,en 6,en 7,en 11,en 12,en 13,en 14,ec 8 [48],en 9,eh 10,ec 15 [55],en 16]),(15,hs 7 [ec 4 [69]]),(17,[en 0,en 1,en 2,en 3,en 4,en 5,en 6,en 7,eh 8,en 9,en 10,en 11,en 12,en 13])]⟩
def wu (Q:QT [.int .i64]) N0 a1 e1 c1 I J N:=ksT 67 4 Q N0 (an 1 (.sv a1 2 e1 c1::.pb 0 0 0 0::an 2 (.j I::an 95 []))) [.vd J 9] N
def wo (Q:QT [.bool]) N0 a1 e1 c1 I J O U Y N:=ksT 19 4 Q N0 (an 1 (.sv a1 0 e1 c1::an 10 (.sv I 4 J O::.j U::.j Y::an 13 []))) [] N
def xp (Q:QT [.int .i64]) N0 a0 e0 c0 m5 c5 I J O U Y y0 r1 q1 N:=ksT 54 13 Q N0 (.sv a0 3 e0 c0::an 2 (.pb 0 0 0 0::an 1 (.sb 1 0 0 m5 c5::an 53 (.sv I 9 J O::.j U::.j Y::an 24 [])))) [.vd y0 9,.arr 3 0 r1 q1] N
theorem Ih N I J(Q:QT [.bool])(h :
Bel N I->∃ n:Int,(I.cell 0)=D.j n/\Br (n==2) (kB 63 [.j J,.j 0,.j 1] N (λb a=>uP a (Q b))) (kB 63 [.j J,.j 0,.j 10006] N (λa
 b=>uP b (Q a)))):ksC 23 [.dg 2 I,.j J] N Q:=
  eE H0 h
theorem Nm N b0(Q:QT [.int .i64])(h :
Br b0 (uP N (Q 1)) (uP N (Q 0))):ksC 176 [.bool b0] N Q:=
 eE H0 h
theorem Rb N b0(Q:QT [.int .i64])(h :
Br b0 (uP N (Q 1)) (uP N (Q 0))):ksC 153 [.bool b0] N Q:=
 eE H0 h
theorem LU N n0(Q:QT [.int .i64])(h :
(10007:Int)≠(0:Int)/\Br (decide (Int.tmod n0 10007<0)) (uP N (Q (ksW.wrap (Int.tmod n0 10007+10007)))) (uP N (Q (Int.tmod n0 10007)))):ksC 175 [.j n0] N Q:=
 eE H0 h
theorem IW N J I O(Q:QT [.int .i64,.bool])(h :
kB 63 [.j I,.j 0,.j 10006] N (λb a=>Br (!b) (uP a (Q 0 false)) (kB 63 [.j O,.j 0,.j 10006] a (λa b=>Br (!a) (uP b (Q 0 false)) (Br
 (ksE J (bytes [43])) (kI 175 [.j (ksW.wrap (I+O))] b (λn a=>uP a (Q n true))) (Br (ksE J (bytes [45])) (kI 175 [.j (ksW.wrap (I - O))] b (λa b=>uP b (Q a true))) (Br (ksE J (bytes [42])) (kI 175 [.j (ksW.wrap (I*O))] b (λa b=>uP b (Q a true))) (Br (ksE J (bytes [61])) (kI
 176 [.bool (I==O)] b (λa b=>uP b (Q a true))) (Br (ksE J (bytes [60])) (kI 176 [.bool (decide (I<O))] b
 (λa b=>uP b (Q a true))) (Br (ksE J (bytes [38])) (Br (I==1) (kI 176 [.bool (O==1)] b (λa b=>uP
 b (Q a true))) (kI 176 [.bool false] b (λa b=>uP b (Q a true)))) (Br (ksE J (bytes [124])) (Br (I==1) (kI
 176 [.bool true] b (λa b=>uP b (Q a true))) (kI 176 [.bool (O==1)] b (λa b=>uP b (Q a true)))) (Br (ksE J (bytes [33])) (kI 176 [.bool (I==0)] b (λa b=>uP b (Q a true))) (uP b (Q 0 false)))))))))))))):ksC 117 [.str J,.j I,.j O] N Q:=
  eE H0 h
theorem Ig N I a1 e1 c1(Q:QT [.int .i64])(h :
Bel N I->Bel N (D.sl a1 2 e1 c1)->∃ n:Int,(I.cell 0)=D.j n/\Br (n==1) (wu Q N a1 e1 c1 (ksW.wrap ((e1.length:Int) - 1))
 I N) (Br (n==4) (∃ a d,∃ c:Nat,(I.cell 8)=D.sl a 9 d c/\ksL 0 d/\∀ a,N<=a->ACalls prog 67 [.i] [.dg 9
 (d.getD 0 ksD),.sv a1 2 e1 c1] a (λc d=>a<=d->∃ a e,∃ f:Nat,(I.cell 8)=D.sl a 9 e f/\Br (decide ((e.length :
 Int)>1)) (∃ a e,∃ f:Nat,(I.cell 8)=D.sl a 9 e f/\ksL 1 e/\∀ a,d<=a->ACalls prog 67 [.i]
 [.dg 9 (e.getD 1 ksD),.sv a1 2 e1 c1] a (λd e=>a<=e->∃ s,(I.cell 1)=D.t s/\kIB 117 [.str s,.j c,.j d] e (λa _ b=>
 uP b (Q a)))) (∃ a,(I.cell 1)=D.t a/\kIB 117 [.str a,.j c,.j 0] d (λa _ b=>uP b (Q a))))) (Br (n==5) (∃ a b,∃ c:Nat,
 (I.cell 8)=D.sl a 9 b c/\∃ a c,∃ d:Nat,(I.cell 8)=D.sl a 9 c d/\ksL 0 c/\∀ a,N <=
 a->ACalls prog 67 [.i] [.dg 9 (c.getD 0 ksD),.sv a1 2 e1 c1] a (λc d=>a<=d->(0<=ksW.wrap (2 - c)/\ksW.wrap
 (2 - c)<(b.length:Int))/\∀ a,d<=a->ACalls prog 67 [.i] [.dg 9 (List.getD b (ksW.wrap (2 - c)).toNat default),.sv a1 2 e1 c1]
 a (λb c=>a<=c->uP c (Q b)))) (Br (n==8) ((0=0/\0=0)/\zA [] e1 24/\∀(a:Nat),∃ b c,∃ d:Nat,(I.cell 8)=D.sl
 b 9 c d/\ksL 1 c/\∃ b,(I.cell 1)=D.t b/\∃ d e,∃ f:Nat,(I.cell 8)=D.sl d 9 e f /\
 ksL 0 e/\∀ d,N<=d->ACalls prog 67 [.i] [.dg 9 (e.getD 0 ksD),.sv a1 2 e1 c1] d (λe f=>
 d<=f->(([]++e1).length=([]++e1).length/\a=a)/\zA ([]++e1) [D.ag [D.t b,D.j e]] 24/\∀(a:Nat),(([]++e1++[D.ag [D.t b,
 D.j e]]).length=([]++e1++[D.ag [D.t b,D.j e]]).length/\a=a)/\∀ d,ApA d ([]++e1++[D.ag [D.t b,D.j e]])->Off [d] (c.getD 1 ksD)->∀ g,f<=g->wm g [d]->ACalls prog 67 [.i] [.dg 9 (c.getD 1 ksD),.sv d 2 ([]++e1++[D.ag [D.t b,D.j e]])
 a] g (λa b=>g<=b->uP b (Q a)))) (∃ a:Int,(I.cell 3)=D.j a/\uP N (Q a)))))):ksC 67 [.dg 9 I,.sv a1 2 e1 c1] N Q:=
  eE BH h
theorem Na N I J(Q:QT [.bool])(h :
Bel N I->∃ n:Int,(I.cell 0)=D.j n/\Br (n==2) (kB 46 [.j J,.j 0,.j 1] N (λb a=>uP a (Q b))) (kB 101 [.j J] N (λa b=>uP b (Q
 a)))):ksC 50 [.dg 2 I,.j J] N Q:=
  eE H0 h
theorem IS N a0 e0 c0 a1 e1 c1(Q:QT [.bool])(h :
Bel N (D.sl a0 4 e0 c0)->Bel N (D.sl a1 0 e1 c1)->Br (bne (e0.length:Int) (e1.length:Int)) (uP N (Q false)) (wo Q N a1 e1 c1 a0 e0 c0
 (e0.length:Int) 0 N)):ksC 19 [.sv a0 4 e0 c0,.sv a1 0 e1 c1] N Q:=
  eE BA h
theorem LI N n0(Q:QT [.int .i64])(h :
(10007:Int)≠(0:Int)/\(10007:Int)≠(0:Int)/\∀ a,N<=a->Q (Int.tmod (ksW.wrap (Int.tmod n0 10007+10007)) 10007) a):ksC 152 [.j n0] N Q:=
 eE H0 h
theorem IM N s0 n1 n2(Q:QT [.int .i64,.bool])(h :
kB 101 [.j n1] N (fun b a=>Br (!b) (uP a (Q 0 false)) (kB 101 [.j n2] a (fun a b=>Br (!a) (uP b (Q 0 false)) (Br (ksE s0 (bytes [43])) (kI 152 [.j (ksW.wrap (n1+n2))] b (fun n a=>uP a (Q n true))) (Br (ksE s0 (bytes
 [45])) (kI 152 [.j (ksW.wrap (n1 - n2))] b (fun a b=>uP b (Q a true))) (Br (ksE s0 (bytes [42])) (kI 152 [.j
 (ksW.wrap (n1*n2))] b (fun a b=>uP b (Q a true))) (Br (ksE s0 (bytes [61])) (kI 153 [.bool (n1==n2)] b
 (fun a b=>uP b (Q a true))) (Br (ksE s0 (bytes [60])) (kI 153 [.bool (decide (n1<n2))] b (fun a b=>uP b (Q
 a true))) (Br (ksE s0 (bytes [38])) (Br (n1==1) (kI 153 [.bool (n2==1)] b (fun a b=>uP b (Q a true))) (kI 153
 [.bool false] b (fun a b=>uP b (Q a true)))) (Br (ksE s0 (bytes [124])) (Br (n1==1) (kI 153 [.bool true] b (fun
 a b=>uP b (Q a true))) (kI 153 [.bool (n2==1)] b (fun a b=>uP b (Q a true)))) (Br (ksE s0 (bytes [33]))
 (kI 153 [.bool (n1==0)] b (fun a b=>uP b (Q a true))) (uP b (Q 0 false)))))))))))))):ksC 105 [.str s0,.j n1,.j n2] N Q:=
  eE H0 h
theorem Bt N J e0 O I(Q:QT [.int .i64])(h :
Bel N (D.sl J 3 e0 O)->Bel N I->∃ n:Int,(I.cell 0)=D.j n/\Br (n==1) (∃ s,(I.cell 1)=D.t s/\kA 3 103 [.sv J 3 e0 O,.str s] N (λx a
 => ∃ b:Int,(x.cell 1)=D.j b/\uP a (Q b))) (Br (n==2) (∃ a:Int,(I.cell 3)=D.j a/\uP N (Q a)) (Br (n==3) (∃ a:Int,(I.cell 3) =
 D.j a/\uP N (Q a)) (Br (n==5) (∃ a b,∃ c:Nat,(I.cell 8)=D.sl a 9 b c/\∃ a c,∃ d:Nat,(I.cell 8)=D.sl a 9 c d/\ksL 0 c/\∀ a,N<=a->ACalls prog 54 [.i] [.sv J 3 e0 O,.dg 9 (c.getD 0 ksD)] a (λc d=>a<=d->(0 <=
 ksW.wrap (2 - c)/\ksW.wrap (2 - c)<(b.length:Int))/\∀ a,d<=a->ACalls prog 54 [.i] [.sv J 3 e0 O,.dg 9 (List.getD b
 (ksW.wrap (2 - c)).toNat default)] a (λb c=>a<=c->uP c (Q b)))) (Br (n==8) (∃ a,(I.cell 1)=D.t a/\∃ b c,∃ d:Nat,
 (I.cell 8)=D.sl b 9 c d/\ksL 0 c/\∃ b d,∃ e:Nat,(I.cell 8)=D.sl b 9 d e/\ksL 1 d/\∀ b,N<=b->ACalls prog 54 [.i] [.sv J 3 e0 O,.dg 9 (c.getD 0 ksD)] b (λc e=>b<=e ->
 kL 3 51 [.sv J 3 e0 O,.dg 3 (D.ag [D.t a,D.j c,D.lit (.bool false)])] e (λa b c e=>∀ f,e<=f->ACalls prog 54 [.i] [.sv a 3
 b c,.dg 9 (d.getD 1 ksD)] f (λa b=>f<=b->uP b (Q a))))) (∃ a b,∃ c:Nat,(I.cell 8)=D.sl a 9 b c /\
 xp Q N J e0 O 2 2 a b c (b.length:Int) 0 I [D.j 0,D.j 0] 2 N)))))):ksC 54 [.sv J 3 e0 O,.dg 9 I] N Q:=
  eE tN h
theorem qt {Q:QT [.int .i64]}{N0 a1 e1 c1 n5 y0 N}(h :
Br (decide (n5≥0)) (ksL n5 e1/\∃ s,(if 0=0 then D.cell (e1.getD n5.toNat ksD) 0 else D.sub (e1.getD n5.toNat ksD) 0 0)=D.t s/\∃ a,(y0.cell 1)=D.t a/\Br (ksE s a) (ksL n5 e1/\∃ n:Int,(if 0=0
 then D.cell (e1.getD n5.toNat ksD) 1 else D.sub (e1.getD n5.toNat ksD) 1 0)=D.j n/\uP N (Q n)) (wu Q N0 a1 e1 c1
 (ksW.wrap (n5 - 1)) y0 N)) (∃ a:Int,(y0.cell 3)=D.j a/\uP N (Q a))):wu Q N0 a1 e1 c1 n5 y0 N:=
  hE BH h
theorem qm {Q:QT [.bool]}{N0 a1 e1 c1 a12 e12 c12 n13 n14 N}(h :
Br (decide (n14<n13)) (ksL n14 e12/\ksL n14 e1/\∃ n:Int,e1.getD n14.toNat ksD=D.j n /\
 kB 50 [.dg 2 (D.sub (e12.getD n14.toNat ksD) 1 2),.j n] N (fun b a=>Br (!b) (uP a (Q false)) (wo Q N0 a1 e1 c1 a12 e12 c12 n13
 (ksW.wrap (n14+1)) a))) (uP N (Q true))):wo Q N0 a1 e1 c1 a12 e12 c12 n13 n14 N:=
  hE BA h
theorem yD {Q:QT [.int .i64]}{N0 a0 e0}{c0 U c5:Nat}{Y J aa O I y0 r1 q1 N}(h :
Br (decide (I<O)) (ksL I J/\∀ a,N<=a->ACalls prog 54 [.i] [.sv a0 3 e0 c0,.dg 9 (J.getD I.toNat ksD)] a (λn b=>a<=b->(0<=I/\I<(U:Int)/\(0+I.toNat:Nat)<r1.length)/\(0+I.toNat:Nat)<r1.length /\
 xp Q N0 a0 e0 c0 U c5 Y J aa O (ksW.wrap (I+1)) y0 (List.set r1 (0+I.toNat:Nat) (D.j n)) q1 b)) (∃ s,(y0.cell 1)
 = D.t s/\((0:Int)<=(0:Int)/\0<(U:Int)/\0<r1.length)/\0<r1.length/\∃ a:Int,r1.getD 0 ksD=D.j a/\((0:Int)<=(1:Int)/\1
 < (U:Int)/\1<r1.length)/\1<r1.length/\∃ c:Int,r1.getD 1 ksD=D.j c/\kIB 105 [.str s,.j a,.j c] N (λa _ b=>uP b (Q
 a)))):xp Q N0 a0 e0 c0 U c5 Y J aa O I y0 r1 q1 N:=
  hE tN h
end Go.Proofs.YtlaniepnglheoaaGreat
set_option maxRecDepth 100000
namespace Go.Proofs.YtlaniepnglheoaaGreat
open Go Go.Proofs Go.Proofs.Tryz
def qc:Hint:=⟨[hc 4 [2,3,5]],[],[(1,hs 51 [ec 31 [34,36],ec 39 [42,44]]),(6,[en 0,en 1,en 2,en 3,en 4,en 5,en 6,en 7,en 8,en 9,ec 10 [68,73],en 11])]⟩
def xu (Q:QT [.bool]) N0 I J O N:=ksT 10 4 Q N0 (an 2 (.pb 0 0 0 0::.pb 1 0 0 0::an 1 (.j I::an 70 []))) [.vd J 9,.vd O 9] N
theorem Rc N I e0 J(Q:QT [.bool])(h :
Bel N (D.sl I 0 e0 J)->∀ a,N<=a->Q (decide ((e0.length:Int)>1048576)) a):ksC 4 [.sv I 0 e0 J] N Q:=
 eE H0 h
theorem FX N I J(Q:QT [.bool])(h :
Bel N I->Bel N J->∃ n:Int,(I.cell 0)=D.j n/\∃ d:Int,(J.cell 0)=D.j d/\Br (bne n d) (uP N (Q false)) (∃ s,(I.cell 1)=D.t s/\∃
 d,(J.cell 1)=D.t d/\Br (!(ksE s d)) (uP N (Q false)) (∃ d,(I.cell 2)=D.t d/\∃ e,(J.cell 2)=D.t e /\
 Br (!(ksE d e)) (uP N (Q false)) (∃ d:Int,(I.cell 3)=D.j d/\∃ e:Int,(J.cell 3)=D.j e/\Br (bne d
 e) (uP N (Q false)) (kB 26 [.dg 2 (D.sub I 4 2),.dg 2 (D.sub J 4 2)] N (λb d=>Br (!b) (uP d (Q false)) (kB 26 [.dg 2 (D.sub I 6 2),.dg 2 (D.sub J
 6 2)] d (λb d=>Br (!b) (uP d (Q false)) (∃ a b,∃ c:Nat,(I.cell 8)=D.sl a 9 b c/\∃ a c,∃ e:Nat,(J.cell 8)=D.sl a 9 c e
 /\ Br (bne (b.length:Int) (c.length:Int)) (uP d (Q false)) (xu Q N 0 I J d)))))))))):ksC 10 [.dg 9 I,.dg 9 J] N Q:=
  eE qc h
theorem sZ {Q:QT [.bool]}{N0 I J O N}(h :
∃ a d,∃ c:Nat,(J.cell 8)=D.sl a 9 d c/\Br (decide (I<(d.length:Int))) (∃ a c,∃ d:Nat,(J.cell 8)=D.sl a 9 c d/\ksL I c/\∃ a d,∃ e:Nat,(O.cell 8)=D.sl a 9 d e/\ksL I d/\kB 10 [.dg 9 (c.getD I.toNat ksD),.dg 9 (d.getD I.toNat ksD)] N (λb a=>Br (!b) (uP a (Q false)) (xu Q N0 (ksW.wrap (I+1)) J O
 a))) (uP N (Q true))):xu Q N0 I J O N:=
  hE qc h
end Go.Proofs.YtlaniepnglheoaaGreat
set_option maxRecDepth 100000
namespace Go.Proofs.YtlaniepnglheoaaGreat
open Go Go.Proofs Go.Proofs.Tryz
def BI:Hint:=⟨[hc 4 [1,2,3,8,9,10,12]],[],[(1,hs 4 [ec 1 [16]]),(8,hs 15 [ec 6 [46]]),(9,[en 0,en 1,en 2,en 3,en 4,en 5,en 6,en 7,en 8,en 9,en 10,en 11,en 12,eh 13,ec 14 [62,68],en 15,eh 16])]⟩
def qg:Hint:=⟨[hc 9 [1,5,6,7,9,10,11]],[],[(2,hs 3 [ec 1 [21]]),(3,hs 4 [ec 1 [23]]),(6,hs 17 [ec 12 [45]]),(7,[en 0,en 1,en 2,en 3,ec 4 [54],ec 5 [51],eh 6]),(12,[en 0,en 1,en 2,en 3,en 4,en 5,en 6,en 7,en 8,en 9,ec 10 [78,80],en 11,eh 12])]⟩
def yu (Q:QT [.pk,.int .i64,.str,.str,.int .i64,.dc,.dc,.dc,.dc,.row 30 9]) N0 n1 s2 a3 e3 c3 a5 a6 a7 a8 I J O U Y aa ab ac ae ah ai aj ak al am ao aq au aw ax ay az a0 a2 a4 r2 q2 N:=ksT 200 4 Q N0 (an 1 (.j n1::.str s2::.sv a3 0 e3 c3::an 4 (.pb 0 0 0 0::.pb 1 0 0 0::.sv a5 0 a6 a7::an 1 (.j a8::an 65 [])))) [ksV I J O U Y aa ab ac ae ah ai aj ak al am,.var [.j ao,.str aq,.str au,.j aw,.dc ax,.dc ay,.dc az,.dc a0,.sb 2 9 0 a2 a4],.arr 30 9 r2 q2] N
def zI (Q:QT [.ag 9]) N0 s1 n9 a4 a5 y0 I J O U Y aa ab ac ae ah ai aj ak al am ao aq au aw ax ay az a0 a2 a3 r3 q3 N:=ksT 180 9 Q N0 (an 1 (.str s1::an 3 (.pb 0 0 0 0::.pb 1 0 0 0::.pb 2 0 0 0::an 1 (.j n9::.bool a4::.j a5::an 72 [])))) [.vd y0 9,ksV I J O U Y aa ab ac ae ah ai aj ak al am,.var [.j ao,.str aq,.str au,.j aw,.dc ax,.dc ay,.dc az,.dc a0,.sb 3 9 0 a2 a3],.arr 30 9 r3 q3] N
theorem Ir N I Y s2 J O U(Q:QT [.pk,.int .i64,.str,.str,.int .i64,.dc,.dc,.dc,.dc,.row 30 9])(h :
Bel N I->Bel N (D.sl J 0 O U)->∀ b,N<=b->ACalls prog 32 [.pk,.i,.str,.str,.i,.dc,.dc,.dc,.dc,.row 30 9] [.dg 9 I] b (λn s c d
 x e f g h i j=>b<=j->Bel j (D.ag h)->∀ b,j<=b->ACalls prog 198 [.sl 0,.i] [.dg 9 I] b (λa j k _ l=>b<=l->Bel l (D.sl
 a 0 j k)->yu Q N Y s2 J O U a j k 0 0 b0 b0 0 0 none [] 0 0 none [] 0 none [] 0 n s c d x e f g h.length i h i l))):ksC 200 [.dg 9 I,.j Y,.str s2,.sv J 0 O U] N Q:=
  eE BI h
theorem Fc N O I J(Q:QT [.ag 9])(h :
Bel N O->Bel N J->∃ n:Int,(O.cell 0)=D.j n/\Br (n==1) (∃ s,(O.cell 1)=D.t s/\Br (ksE s I) (∀ b,N<=b
 -> ACalls prog 32 [.pk,.i,.str,.str,.i,.dc,.dc,.dc,.dc,.row 30 9] [.dg 9 J] b (λc d e f x g h i j k l=>b<=l->Bel l (D.ag j)
 -> w2 (j.length=j.length/\k=k) (∀ a b,l<=b->Fresh N b a [D.ag j,x,g,h,i]->uP b (Q (D.ag [D.j c,D.t d,D.t e,D.j f,x,g,
 h,i,D.sl a 9 j k]))))) (∀ a,N<=a->ACalls prog 32 [.pk,.i,.str,.str,.i,.dc,.dc,.dc,.dc,.row 30 9] [.dg 9 O] a (λb c d e f g
 h i j k l=>a<=l->Bel l (D.ag j)->∀ a,l<=a->ACalls prog 198 [.sl 0,.i] [.dg 9 O] a (λl m n o p=>a<=p->Bel p
 (D.sl l 0 m n)->∀ a,p<=a->ACalls prog 111 [.i] [.sv l 0 m n,.str I] a (λl m=>a<=m->Br (decide (o≥0)) (Br (!(decide
 (l≥0))) (∃ a n,∃ p:Nat,(O.cell 8)=D.sl a 9 n p/\ksL o n/\kL 0 199 [.dg 9 (n.getD o.toNat ksD)] m (λa m n p=>∀ q,p<=q->ACalls prog 111 [.i] [.sv a 0 m n,.str I] q (λa m=>q<=m->Br (decide (a ≥
 0)) (kL 0 199 [.dg 9 J] m (λa b c d=>∀ e,d<=e->ACalls prog 200 [.pk,.i,.str,.str,.i,.dc,.dc,.dc,.dc,.row 30 9] [.dg 9 O,.j
 o,.str I,.sv a 0 b c] e (λa b c d f g h i j k m=>e<=m->Bel m (D.ag j)->zI Q N I o
 (decide (l≥0)) 0 J 0 b0 b0 0 0 none [] 0 0 none [] 0 none [] 0 a b c d f g h i j.length k j k m))) (zI Q N I
 o (decide (l≥0)) 0 J 0 b0 b0 0 0 none [] 0 0 none [] 0 none [] 0 b c d e f g h i j.length k j k m)))) (zI Q N
 I o (decide (l≥0)) 0 J 0 b0 b0 0 0 none [] 0 0 none [] 0 none [] 0 b c d e f g h i j.length k j k m)) (zI Q
 N I o (decide (l≥0)) 0 J 0 b0 b0 0 0 none [] 0 0 none [] 0 none [] 0 b c d e f g h i j.length k j k m)))))) (∀ a,N<=a
 -> ACalls prog 32 [.pk,.i,.str,.str,.i,.dc,.dc,.dc,.dc,.row 30 9] [.dg 9 O] a (λb c d e f g h i j k l=>a<=l ->
 Bel l (D.ag j)->∀ a,l<=a->ACalls prog 198 [.sl 0,.i] [.dg 9 O] a (λl m n o p=>a<=p->Bel p (D.sl l 0 m n)->∀
 a,p<=a->ACalls prog 111 [.i] [.sv l 0 m n,.str I] a (λl m=>a<=m->Br (decide (o≥0)) (Br (!(decide (l≥0))) (∃ a
 n,∃ p:Nat,(O.cell 8)=D.sl a 9 n p/\ksL o n/\kL 0 199 [.dg 9 (n.getD o.toNat ksD)] m (fun
 a m n p=>∀ q,p<=q->ACalls prog 111 [.i] [.sv a 0 m n,.str I] q (λa m=>q<=m->Br (decide (a≥0)) (kL 0 199
 [.dg 9 J] m (λa b c d=>∀ e,d<=e->ACalls prog 200 [.pk,.i,.str,.str,.i,.dc,.dc,.dc,.dc,.row 30 9] [.dg 9 O,.j o,.str
 I,.sv a 0 b c] e (λa b c d f g h i j k m=>e<=m->Bel m (D.ag j)->zI Q N I o
 (decide (l≥0)) 0 J 0 b0 b0 0 0 none [] 0 0 none [] 0 none [] 0 a b c d f g h i j.length k j k m)))
 (zI Q N I o (decide (l≥0)) 0 J 0 b0 b0 0 0 none [] 0 0 none [] 0 none [] 0 b c d e f g h i j.length k j
 k m)))) (zI Q N I o (decide (l≥0)) 0 J 0 b0 b0 0 0 none [] 0 0 none [] 0 none [] 0 b c d e f g h i
 j.length k j k m)) (zI Q N I o (decide (l≥0)) 0 J 0 b0 b0 0 0 none [] 0 0 none [] 0 none [] 0 b c d e f g
 h i j.length k j k m)))))):ksC 180 [.dg 9 O,.str I,.dg 9 J] N Q:=
  eE qg h
theorem qy {Q:QT [.pk,.int .i64,.str,.str,.int .i64,.dc,.dc,.dc,.dc,.row 30 9]}{N0 U s2 a3 e3 c3 a8 ai a9 O al am ao aq au aw ax ay az a0 a2 a4 a5 a6 a7 Y aj ak aa ab ac ae ah I J r2 q2 N}(h :
Br (decide (O<(ai.length:Int))) (ksL O ai/\∃ s,ai.getD O.toNat ksD=D.t s/\∀ b,N<=b->ACalls prog
 111 [.i] [.sv a3 0 e3 c3,.str s] b (λn d=>b<=d->Br (decide (n<0)) (yu Q N0 U s2 a3 e3 c3 a8 ai a9 (ksW.wrap (O+1))
 al am ao aq au aw ax ay az a0 a2 a4 a5 a6 a7 Y aj ak aa ab ac ae ah I J r2 q2 d) ((I=r2.length/\J
 = q2)/\∀ a,ApA a r2->∀ b,d<=b->wm b [a]->ACalls prog 198 [.sl 0,.i] [.dg 9 (D.ag [D.j Y,D.t aj,D.t ak,D.j aa,ab,ac,ae,ah,
 D.sl a 9 r2 J])] b (λc d e _ f=>b<=f->Off [a] (D.sl c 0 d e)/\(Bel f (D.sl c 0 d e)->(0<=U/\U<(I:Int)/\(0+U.toNat :
 Nat)<r2.length)/\(0+U.toNat:Nat)<r2.length/\kL 0 199 [.dg 9 (List.getD r2 (0+U.toNat:Nat) default)] f (λa b c e=>∀ f,e<=f ->
 ACalls prog 204 [.row 9 0] [.sv a3 0 e3 c3,.sv a 0 b c] f (λa b c=>f<=c->Bel c (D.ag a)->(a.length=a.length/\b=b) /\
 zA a [D.t s2] 16/\∀(b:Nat),((a++[D.t s2]).length=(a++[D.t s2]).length/\b=b)/\zA (a++[D.t s2]) d 16/\∀(b :
 Nat),((a++[D.t s2]++d).length=(a++[D.t s2]++d).length/\b=b)/\∀ e,ApA e (a++[D.t s2]++d)->∀ f,c<=f->wm f [e]
 -> ACalls prog 205 [.str] [.sv e 0 (a++[D.t s2]++d) b] f (λa b=>f<=b->(0<=U/\U<(I:Int)/\(0+U.toNat:Nat)<r2.length)
 /\ (0+U.toNat:Nat)<r2.length/\ksL O ai/\∃ c,ai.getD O.toNat ksD=D.t c/\kA 9 141 [.str a] b (λx
 b=>kA 9 180 [.dg 9 (List.getD r2 (0+U.toNat:Nat) default),.str c,.dg 9 x] b (λb c=>(0<=U/\U<(I:Int)/\(0+U.toNat:Nat) <
 r2.length)/\(0+U.toNat:Nat)<r2.length/\Br (O==0) (yu Q N0 U s2 a3 e3 c3 a8 ai a9 (ksW.wrap (O+1)) al am ao aq
 au aw ax ay az a0 a2 a4 a5 a6 a7 Y a ak aa ab ac ae ah I J (List.set r2 (0+U.toNat:Nat) b) q2 c)
 (yu Q N0 U s2 a3 e3 c3 a8 ai a9 (ksW.wrap (O+1)) al am ao aq au aw ax ay az a0 a2 a4 a5 a6 a7 Y
 aj a aa ab ac ae ah I J (List.set r2 (0+U.toNat:Nat) b) q2 c))))))))))) ((I=r2.length/\J=q2)/\uP N (Q Y aj ak
 aa ab ac ae ah r2 J))):yu Q N0 U s2 a3 e3 c3 a8 ai a9 O al am ao aq au aw ax ay az a0 a2 a4 a5 a6 a7 Y aj ak aa ab ac ae ah I J r2 q2 N:=
  hE BI h
theorem sd {Q:QT [.ag 9]}{N0 s1 n9 a5 I y0 aj ak al am ao aq au aw ax ay az a0 a2 a3 a4 ab ac ae ah O U Y aa}{J ai:Nat}{r3 q3 N}(h :
Br (decide (I<(J:Int))) (Br (bne I n9) ((0<=I/\I<(J:Int)/\(0+I.toNat:Nat)<r3.length)/\(0+I.toNat:Nat)<r3.length /\
 kA 9 180 [.dg 9 (List.getD r3 (0+I.toNat:Nat) default),.str s1,.dg 9 y0] N (λx a=>(0<=I/\I<(J:Int)/\(0+I.toNat:Nat) <
 r3.length)/\(0+I.toNat:Nat)<r3.length/\zI Q N0 s1 n9 a5 (ksW.wrap (I+1)) y0 aj ak al am ao aq au aw ax
 ay az a0 a2 a3 a4 ab ac ae ah O U Y aa J ai (List.set r3 (0+I.toNat:Nat) x) q3 a)) (Br (!a5) ((0<=I/\I<(J
 : Int)/\(0+I.toNat:Nat)<r3.length)/\(0+I.toNat:Nat)<r3.length/\kA 9 180 [.dg 9 (List.getD r3 (0+I.toNat:Nat) default),.str s1,.dg 9
 y0] N (λa b=>(0<=I/\I<(J:Int)/\(0+I.toNat:Nat)<r3.length)/\(0+I.toNat:Nat)<r3.length/\zI Q N0 s1 n9 a5
 (ksW.wrap (I+1)) y0 aj ak al am ao aq au aw ax ay az a0 a2 a3 a4 ab ac ae ah O U Y aa J ai
 (List.set r3 (0+I.toNat:Nat) a) q3 b)) (zI Q N0 s1 n9 a5 (ksW.wrap (I+1)) y0 aj ak al am ao aq au aw ax
 ay az a0 a2 a3 a4 ab ac ae ah O U Y aa J ai r3 q3 N))) (w4 (J=r3.length/\ai=q3) (∀ a b,N<=b->Fresh N0 b a
 [D.ag r3,O,U,Y,aa]->uP b (Q (D.ag [D.j ab,D.t ac,D.t ae,D.j ah,O,U,Y,aa,D.sl a 9 r3 q3]))))):zI Q N0 s1 n9 a5 I y0 aj ak al am ao aq au aw ax ay az a0 a2 a3 a4 ab ac ae ah O U Y aa J ai r3 q3 N:=
  hE qg h
end Go.Proofs.YtlaniepnglheoaaGreat
set_option maxRecDepth 100000
namespace Go.Proofs.YtlaniepnglheoaaGreat
open Go Go.Proofs Go.Proofs.Tryz
def E7:Hint:=⟨[],[],[(8,hs 10 [ec 1 [12],ec 7 [18]])]⟩
def CQ:Hint:=⟨[hc 4 [1,2,5]],[],[(6,[en 0,en 1,en 2,en 3,en 4,en 5,en 6,ec 7 [25],ec 8 [24],en 9])]⟩
def pN:Hint:=⟨[hc 6 [1,2,4,5,6],hc 12 [1,2,4,5,9]],[],[(8,hs 7 [ec 5 [37]]),(9,hs 9 [ec 2 [41]]),(17,[en 0,en 1,en 2,en 3,en 4,en 5,en 6,en 7,eh 8,en 9,en 10,en 11,en 12,en 13])]⟩
def L0:Hint:=⟨[],[],[(1,hs 12 [ec 5 [13]]),(4,hs 7 [ec 3 [21,23]])]⟩
def H1:Hint:=⟨[],[],[(1,hs 4 [ec 1 [8]])]⟩
def CF:Hint:=⟨[hc 3 [1,2,4,5]],[],[(5,hs 7 [ec 5 [20]]),(6,hs 9 [ec 2 [24]]),(10,[en 0,en 1,en 2,en 3,en 4,en 5,en 6,en 7,en 8,en 9,ec 10 [38,44],eh 11,en 12]),(12,[en 0,en 1,en 2,en 3,en 4,en 5,en 6,en 8,en 9,en 10,en 11,en 12,en 13,ec 7 [51,54],ec 14 [55,61],eh 15,en 16])]⟩
def BE:Hint:=⟨[hc 10 [1,2,4,10]],[],[(3,hs 3 [ec 1 [25]]),(4,hs 8 [ec 1 [29]]),(7,hs 8 [ec 4 [41]]),(12,[en 0,en 1,en 2,en 3,en 4,en 5,en 6,en 13,ec 7 [57],ec 8 [56],en 9,en 10,en 11,en 12,eh 14,en 15,en 16]),(14,hs 8 [ec 3 [65,67]])]⟩
def Ju:Hint:=⟨[],[],[(2,hs 3 [ec 1 [11]]),(3,hs 8 [ec 1 [15]]),(6,hs 10 [ec 7 [36]]),(8,[en 0,en 1,en 2,en 3,en 4,en 5,en 6,ec 7 [45,48],eh 8,en 9]),(10,hs 7 [ec 4 [62]])]⟩
def Hz:Hint:=⟨[],[],[(1,hs 2 [ec 1 [13]]),(5,hs 8 [ec 1 [21]]),(8,hs 8 [ec 1 [30]]),(11,hs 13 [ec 4 [42]]),(12,hs 6 [ec 2 [47,48]]),(17,hs 8 [ec 1 [57]])]⟩
def xR (Q:QT [.bool]) N0 I J O N:=ksT 124 4 Q N0 (an 1 (.j I::.pb 0 0 0 0::an 2 (.j J::an 24 []))) [.vd O 9] N
def yc (Q:QT [.ag 9,.int .i64]) N0 n4 m5 c5 n6 y0 I J O U Y aa ab ac ae ah ai aj ak al am r2 q2 N:=ksT 125 6 Q N0 (an 1 (.pb 0 0 0 0::.pb 1 0 0 0::an 1 (.j n4::.sb 2 0 0 m5 c5::.j n6::an 95 []))) [.vd y0 9,ksV I J O U Y aa ab ac ae ah ai aj ak al am,.arr 3 0 r2 q2] N
def vW (Q:QT [.ag 9,.int .i64]) N0 n5 y0 I J O U Y aa ab ac ae ah ai aj ak al am y2 N:=ksT 126 3 Q N0 (an 1 (.pb 0 0 0 0::.pb 1 0 0 0::an 1 (.pb 2 0 0 0::.j n5::an 58 []))) [.vd y0 9,ksV I J O U Y aa ab ac ae ah ai aj ak al am,.vd y2 9] N
def yd (Q:QT [.ag 9,.int .i64,.bool]) N0 n1 ao y0 I J O U Y aa ab ac ae ah ai aj ak al am N:=ksT 127 10 Q N0 (an 1 (.j n1::.pb 0 0 0 0::an 1 (.pb 1 0 0 0::an 5 (.j ao::an 60 [])))) [.vd y0 9,ksV I J O U Y aa ab ac ae ah ai aj ak al am] N
def xQ (Q:QT [.ag 9,.int .i64]) N0 n4 m5 c5 n9 y0 I J O U Y aa ab ac ae ah ai aj ak al am r2 q2 N:=ksT 125 12 Q N0 (an 1 (.pb 0 0 0 0::.pb 1 0 0 0::an 1 (.j n4::.sb 2 0 0 m5 c5::an 3 (.j n9::an 92 [])))) [.vd y0 9,ksV I J O U Y aa ab ac ae ah ai aj ak al am,.arr 3 0 r2 q2] N
theorem Fd N I(Q:QT [.bool])(h :
Bel N I->∃ n:Int,(I.cell 0)=D.j n/\Br (n==2) (uP N (Q true)) (Br (n==3) (uP N (Q true)) (Br (n==6) (uP N (Q true)) (Br (n==9) (uP N (Q
 true)) (Br (n==10) (kB 123 [.dg 9 I,.j 0] N (λb d=>Br b (∃ a b,∃ c:Nat,(I.cell 8)=D.sl a 9 b c/\ksL 0 b/\kB 124 [.dg 9 (b.getD 0 ksD),.j 1] d (λa b=>uP b (Q a))) (uP d (Q false)))) (uP N (Q false))))))):ksC 77 [.dg 9 I] N Q:=
  eE E7 h
theorem Lk N I J(Q:QT [.bool])(h :
Bel N I->∃ n:Int,(I.cell 0)=D.j n/\Br (n==11) (Br (J==1) (uP N (Q false)) (xR Q N J 0 I N)) (xR Q N J 0 I N)):ksC 124 [.dg 9 I,.j J] N Q:=
 eE CQ h
theorem Nk N I(Q:QT [.ag 9,.int .i64])(h :
Bel N I->∃ s,(I.cell 1)=D.t s/\Br (ksE s (bytes [38])) (yc Q N 3 2 2 0 I 0 b0 b0 0 0 none [] 0 0 none
 [] 0 none [] 0 [D.j 0,D.j 0] 2 N) (∃ a,(I.cell 1)=D.t a/\Br (ksE a (bytes [124])) (yc Q N 3 2 2 0 I 0
 b0 b0 0 0 none [] 0 0 none [] 0 none [] 0 [D.j 0,D.j 0] 2 N) (∃ a,(I.cell 1)=D.t a/\Br (ksE a (bytes [33]))
 (yc Q N 3 2 2 0 I 0 b0 b0 0 0 none [] 0 0 none [] 0 none [] 0 [D.j 0,D.j 0] 2 N) (yc Q N 2 2 2 0 I 0 b0 b0 0 0 none [] 0 0 none [] 0
 none [] 0 [D.j 0,D.j 0] 2 N)))):ksC 125 [.dg 9 I] N Q:=
  eE pN h
theorem Nj N I J(Q:QT [.ag 9,.int .i64])(h :
Bel N I->∃ a b,∃ c:Nat,(I.cell 8)=D.sl a 9 b c/\ksL J b/\∀ a,N<=a->ACalls prog 78 [.ag 9,.i] [.dg 9 (b.getD J.toNat ksD)] a (λx n b=>a<=b->Bel b x->Br (n==0) (uP b (Q I n)) (kA 9 128 [.dg 9 I,.j J,.dg 9 x] b (λa b=>uP b (Q a
 n))))):ksC 179 [.dg 9 I,.j J] N Q:=
  eE L0 h
theorem If N O I J(Q:QT [.ag 9])(h :
Bel N O->Bel N J->∀ b,N<=b->ACalls prog 32 [.pk,.i,.str,.str,.i,.dc,.dc,.dc,.dc,.row 30 9] [.dg 9 O] b (λn s c d x e f g
 h i j=>b<=j->Bel j (D.ag h)->(0<=I/\I<(h.length:Int)/\(0+I.toNat:Nat)<h.length)/\(0+I.toNat:Nat)<h.length/\w5 (h.length
 = (List.set h (0+I.toNat:Nat) J).length/\i=i) (∀ a b,j<=b->Fresh N b a [D.ag (List.set h (0+I.toNat:Nat) J),x,e,f,g]->∀ j,
 b<=j->Q (D.ag [D.j n,D.t s,D.t c,D.j d,x,e,f,g,D.sl a 9 (List.set h (0+I.toNat:Nat) J) i]) j))):ksC 128 [.dg 9 O,.j I,.dg 9 J] N Q:=
  eE H1 h
theorem LW N I(Q:QT [.ag 9,.int .i64])(h :
Bel N I->∃ a b,∃ c:Nat,(I.cell 8)=D.sl a 9 b c/\ksL 0 b/\vW Q N 0 I 0 b0 b0 0 0 none []
 0 0 none [] 0 none [] 0 (b.getD 0 ksD) N):ksC 126 [.dg 9 I] N Q:=
  eE CF h
theorem Id N x0 n1(Q:QT [.ag 9,.int .i64,.bool])(h :
Bel N x0->∃ n:Int,(x0.cell 0)=D.j n/\Br (n==11) (Br (n1==1) (∃ a d,∃ c:Nat,(x0.cell 8)=D.sl a 9 d c/\ksL 0 d/\kB 77 [.dg 9 (d.getD 0 ksD)] N (fun b a=>Br (!b) (∀ b,a<=b->ACalls prog 179 [.ag 9,.i] [.dg 9 x0,.j 0] b (fun x a
 c=>b<=c->Bel c x->uP c (Q x a true))) (∃ b:Int,D.cell (d.getD 0 ksD) 0=D.j b/\Br (b==10) (∃ b c,∃ e:Nat,D.cell
 (d.getD 0 ksD) 8=D.sl b 9 c e/\ksL 0 c/\∀ b,a<=b->ACalls prog 32 [.pk,.i,.str,.str,.i,
 .dc,.dc,.dc,.dc,.row 30 9] [.dg 9 (c.getD 0 ksD)] b (fun a s c d e f g h i j k=>b<=k->Bel k (D.ag i)->w2
 (i.length=i.length/\j=j) (∀ b l,k<=l->Fresh N l b [D.ag i,e,f,g,h]->uP l (Q (D.ag [D.j a,D.t s,D.t c,D.j d,
 e,f,g,h,D.sl b 9 i j]) 6 true)))) (uP a (Q x0 0 true))))) (yd Q N n1 0 x0 0 b0 b0 0 0 none [] 0 0 none [] 0 none [] 0 N))
 (yd Q N n1 0 x0 0 b0 b0 0 0 none [] 0 0 none [] 0 none [] 0 N)):ksC 127 [.dg 9 x0,.j n1] N Q:=
  eE BE h
theorem LX N I(Q:QT [.ag 9,.int .i64])(h :
Bel N I->∃ a d,∃ c:Nat,(I.cell 8)=D.sl a 9 d c/\ksL 0 d/\kB 77 [.dg 9 (d.getD 0 ksD)] N (fun
 b a=>Br (!b) (∀ b,a<=b->ACalls prog 179 [.ag 9,.i] [.dg 9 I,.j 0] b (λx n a=>b<=a->Bel a x->uP a (Q x n))) (∃ b:Int,(I.cell 0) =
 D.j b/\Br (b==5) (∃ b:Int,D.cell (d.getD 0 ksD) 0=D.j b/\Br (b==3) (∃ b c,∃ e:Nat,(I.cell 8)=D.sl b 9 c e /\
 ∃ b:Int,D.cell (d.getD 0 ksD) 3=D.j b/\(0<=ksW.wrap (2 - b)/\ksW.wrap (2 - b)<(c.length:Int))/\∀ d,a<=d ->
 ACalls prog 32 [.pk,.i,.str,.str,.i,.dc,.dc,.dc,.dc,.row 30 9] [.dg 9 (List.getD c (ksW.wrap (2 - b)).toNat default)] d (λa s b
 c e f g h i j k=>d<=k->Bel k (D.ag i)->w2 (i.length=i.length/\j=j) (∀ d l,k<=l->Fresh N l d [D.ag i,
 e,f,g,h]->uP l (Q (D.ag [D.j a,D.t s,D.t b,D.j c,e,f,g,h,D.sl d 9 i j]) 2)))) (∃ b:Int,(I.cell 0)=D.j b/\Br
 (b==8) (∃ b c,∃ e:Nat,(I.cell 8)=D.sl b 9 c e/\ksL 1 c/\∃ b,(I.cell 1)=D.t b/\kA 9
 180 [.dg 9 (c.getD 1 ksD),.str b,.dg 9 (d.getD 0 ksD)] a (λa b=>uP b (Q a 5))) (∃ b:Int,(I.cell 0)=D.j b/\Br
 (b==12) (∃ b:Int,D.cell (d.getD 0 ksD) 0=D.j b/\Br (b==10) (∃ b c,∃ e:Nat,D.cell (d.getD 0 ksD) 8=D.sl b 9
 c e/\ksL 0 c/\∀ b,a<=b->ACalls prog 32 [.pk,.i,.str,.str,.i,.dc,.dc,.dc,.dc,.row 30 9] [.dg 9
 (c.getD 0 ksD)] b (λa c d e f g h i j k l=>b<=l->Bel l (D.ag j)->w2 (j.length=j.length/\k =
 k) (∀ b m,l<=m->Fresh N m b [D.ag j,f,g,h,i]->uP m (Q (D.ag [D.j a,D.t c,D.t d,D.j e,f,g,h,i,D.sl
 b 9 j k]) 7)))) (∃ b:Int,(I.cell 0)=D.j b/\Br (b==13) (∃ b:Int,D.cell (d.getD 0 ksD) 0=D.j b/\Br (b==2) ((1
 = ([d.getD 0 ksD]).length/\1=1)/\∀ b,ApA b [d.getD 0 ksD]->∀ c,a<=c->wm c [b]->ACalls prog 28 [.ag 9] [.j 10,.sv
 b 9 [d.getD 0 ksD] 1] c (λa d=>c<=d->Off [b] a/\(Bel d a->uP d (Q a 8)))) (∃ b:Int,D.cell (d.getD 0 ksD) 0=D.j b/\Br (b==3) ((1=([d.getD 0 ksD]).length/\1=1)/\∀ b,ApA b [d.getD 0 ksD]->∀ c,a<=c->wm c
 [b]->ACalls prog 28 [.ag 9] [.j 10,.sv b 9 [d.getD 0 ksD] 1] c (λa d=>c<=d->Off [b] a/\(Bel d a->uP d (Q a
 8)))) (uP a (Q I 0)))) (uP a (Q I 0)))) (∃ b:Int,(I.cell 0)=D.j b/\Br (b==13) (∃ b:Int,D.cell (d.getD 0 ksD) 0=D.j b
 /\ Br (b==2) ((1=([d.getD 0 ksD]).length/\1=1)/\∀ b,ApA b [d.getD 0 ksD]->∀ c,a<=c->wm c [b]->ACalls prog 28
 [.ag 9] [.j 10,.sv b 9 [d.getD 0 ksD] 1] c (λa d=>c<=d->Off [b] a/\(Bel d a->uP d (Q a 8)))) (∃ b:Int,
 D.cell (d.getD 0 ksD) 0=D.j b/\Br (b==3) ((1=([d.getD 0 ksD]).length/\1=1)/\∀ b,ApA b [d.getD 0 ksD]->∀
 c,a<=c->wm c [b]->ACalls prog 28 [.ag 9] [.j 10,.sv b 9 [d.getD 0 ksD] 1] c (λa d=>c<=d->Off [b] a/\(Bel d
 a->uP d (Q a 8)))) (uP a (Q I 0)))) (uP a (Q I 0)))))) (∃ b:Int,(I.cell 0)=D.j b/\Br (b==8) (∃ b c,∃ e:Nat,(I.cell
 8)=D.sl b 9 c e/\ksL 1 c/\∃ b,(I.cell 1)=D.t b/\kA 9 180 [.dg 9 (c.getD 1 ksD),.str
 b,.dg 9 (d.getD 0 ksD)] a (λa b=>uP b (Q a 5))) (∃ b:Int,(I.cell 0)=D.j b/\Br (b==12) (∃ b:Int,D.cell
 (d.getD 0 ksD) 0=D.j b/\Br (b==10) (∃ b c,∃ e:Nat,D.cell (d.getD 0 ksD) 8=D.sl b 9 c e/\ksL 0 c/\∀ b,a<=b->ACalls prog 32 [.pk,.i,.str,.str,.i,.dc,.dc,.dc,.dc,.row 30 9] [.dg 9 (c.getD 0 ksD)]
 b (λa c d e f g h i j k l=>b<=l->Bel l (D.ag j)->w2 (j.length=j.length/\k=k) (∀ b m,l <=
 m->Fresh N m b [D.ag j,f,g,h,i]->uP m (Q (D.ag [D.j a,D.t c,D.t d,D.j e,f,g,h,i,D.sl b 9 j
 k]) 7)))) (∃ b:Int,(I.cell 0)=D.j b/\Br (b==13) (∃ b:Int,D.cell (d.getD 0 ksD) 0=D.j b/\Br (b==2) ((1 =
 ([d.getD 0 ksD]).length/\1=1)/\∀ b,ApA b [d.getD 0 ksD]->∀ c,a<=c->wm c [b]->ACalls prog 28 [.ag 9] [.j 10,.sv
 b 9 [d.getD 0 ksD] 1] c (λa d=>c<=d->Off [b] a/\(Bel d a->uP d (Q a 8)))) (∃ b:Int,D.cell (d.getD 0 ksD) 0=D.j b/\Br (b==3) ((1=([d.getD 0 ksD]).length/\1=1)/\∀ b,ApA b [d.getD 0 ksD]->∀ c,a<=c->wm c
 [b]->ACalls prog 28 [.ag 9] [.j 10,.sv b 9 [d.getD 0 ksD] 1] c (λa d=>c<=d->Off [b] a/\(Bel d a->uP d (Q a
 8)))) (uP a (Q I 0)))) (uP a (Q I 0)))) (∃ b:Int,(I.cell 0)=D.j b/\Br (b==13) (∃ b:Int,D.cell (d.getD 0 ksD) 0=D.j b
 /\ Br (b==2) ((1=([d.getD 0 ksD]).length/\1=1)/\∀ b,ApA b [d.getD 0 ksD]->∀ c,a<=c->wm c [b]->ACalls prog
 28 [.ag 9] [.j 10,.sv b 9 [d.getD 0 ksD] 1] c (λa d=>c<=d->Off [b] a/\(Bel d a->uP d (Q a 8)))) (∃ b:Int,
 D.cell (d.getD 0 ksD) 0=D.j b/\Br (b==3) ((1=([d.getD 0 ksD]).length/\1=1)/\∀ b,ApA b [d.getD 0 ksD]->∀
 c,a<=c->wm c [b]->ACalls prog 28 [.ag 9] [.j 10,.sv b 9 [d.getD 0 ksD] 1] c (λa d=>c<=d->Off [b] a/\(Bel
 d a->uP d (Q a 8)))) (uP a (Q I 0)))) (uP a (Q I 0)))))))):ksC 129 [.dg 9 I] N Q:=
  eE Ju h
theorem Ie N I(Q:QT [.ag 9,.int .i64])(h :
Bel N I->kB 77 [.dg 9 I] N (λb d=>Br b (uP d (Q I 0)) (∃ n:Int,(I.cell 0)=D.j n/\Br (n==4) (∀ a,d<=a->ACalls prog 125 [.ag 9,.i]
 [.dg 9 I] a (λx b c=>a<=c->Bel c x->uP c (Q x b))) (Br (n==7) (∀ a,d<=a->ACalls prog 126 [.ag 9,.i] [.dg 9 I] a (λb c d=>
 a<=d->Bel d b->uP d (Q b c))) (Br (n==10) (∃ a b,∃ c:Nat,(I.cell 8)=D.sl a 9 b c/\ksL 0 b/\∀
 a,d<=a->ACalls prog 127 [.ag 9,.i,.bool] [.dg 9 (b.getD 0 ksD),.j 1] a (λb c _ d=>a<=d->Bel d b->kA 9 128 [.dg 9
 I,.j 0,.dg 9 b] d (λa b=>uP b (Q a c)))) (Br (n==5) (∀ a,d<=a->ACalls prog 129 [.ag 9,.i] [.dg 9 I] a (λb c d=>
 a<=d->Bel d b->uP d (Q b c))) (Br (n==8) (∀ a,d<=a->ACalls prog 129 [.ag 9,.i] [.dg 9 I] a (λb c d=>a<=d->Bel
 d b->uP d (Q b c))) (Br (n==12) (∀ a,d<=a->ACalls prog 129 [.ag 9,.i] [.dg 9 I] a (λb c d=>a<=d->Bel d b->uP d
 (Q b c))) (Br (n==13) (∀ a,d<=a->ACalls prog 129 [.ag 9,.i] [.dg 9 I] a (λb c d=>a<=d->Bel d b->uP d (Q b c))) (uP
 d (Q I 0))))))))))):ksC 78 [.dg 9 I] N Q:=
  eE Hz h
theorem AC {Q:QT [.bool]}{N0 O I J N}(h :
∃ a d,∃ c:Nat,(J.cell 8)=D.sl a 9 d c/\Br (decide (I<(d.length:Int))) (∃ a c,∃ d:Nat,(J.cell 8)=D.sl a 9 c d/\ksL I c/\kI 178 [.dg 9 J,.j O] N (λn a=>kB 124 [.dg 9 (c.getD I.toNat ksD),.j n] a (λb a=>Br (!b) (uP a (Q
 false)) (xR Q N0 O (ksW.wrap (I+1)) J a)))) (uP N (Q true))):xR Q N0 O I J N:=
  hE CQ h
theorem BT {Q:QT [.ag 9,.int .i64]}{N0 n4 m5 c5 n6 y0 I J O U Y aa ab ac ae ah ai aj ak al am r2 q2 N}(h :
∃ a d,∃ c:Nat,(y0.cell 8)=D.sl a 9 d c/\Br (decide (n6<(d.length:Int))) (∃ a c,∃ d:Nat,(y0.cell 8)=D.sl a 9 c d/\ksL n6 c/\kB 77 [.dg 9 (c.getD n6.toNat ksD)] N (λb a=>Br (!b) (∀ b,a<=b->ACalls prog 179 [.ag 9,.i] [.dg 9 y0,.j
 n6] b (λx n a=>b<=a->Bel a x->uP a (Q x n))) (yc Q N0 n4 m5 c5 (ksW.wrap (n6+1)) y0 I J O U Y aa ab ac
 ae ah ai aj ak al am r2 q2 a))) (xQ Q N0 n4 m5 c5 0 y0 I J O U Y aa ab ac ae ah ai aj ak al am r2
 q2 N)):yc Q N0 n4 m5 c5 n6 y0 I J O U Y aa ab ac ae ah ai aj ak al am r2 q2 N:=
  hE pN h
theorem pq {Q:QT [.ag 9,.int .i64]}{N0 n5 y0 J O U Y aa ab ac ae ah ai aj ak al am ao I N}(h :
Br (decide (n5<2)) (∃ a d,∃ c:Nat,(y0.cell 8)=D.sl a 9 d c/\ksL n5 d/\kB 77 [.dg 9 (d.getD n5.toNat ksD)] N
 (λb a=>Br (!b) (∀ b,a<=b->ACalls prog 179 [.ag 9,.i] [.dg 9 y0,.j n5] b (λx n a=>b<=a->Bel a x->uP a (Q x n))) (vW Q N0
 (ksW.wrap (n5+1)) y0 J O U Y aa ab ac ae ah ai aj ak al am ao I a))) (∃ a:Int,(I.cell 0)=D.j a/\Br (a
 == 6) (∃ a b,∃ c:Nat,(I.cell 8)=D.sl a 9 b c/\ksL 0 b/\∃ s,(I.cell 1)=D.t s/\∃ a c,∃
 d:Nat,(y0.cell 8)=D.sl a 9 c d/\ksL 1 c/\kA 9 180 [.dg 9 (b.getD 0 ksD),.str s,.dg 9
 (c.getD 1 ksD)] N (λa b=>uP b (Q a 3))) (Br (a==9) (∃ a b,∃ c:Nat,(I.cell 8)=D.sl a 9 b c/\ksL 0 b/\∃ a,(I.cell 1)=D.t a/\∃ c,(I.cell 2)=D.t c/\∃ d e,∃ f:Nat,(y0.cell 8)=D.sl d 9 e f/\ksL 1 e/\kA 9 180 [.dg 9 (b.getD 0 ksD),.str a,.dg 9 I] N (λa b=>kA 9 180 [.dg 9 a,.str c,
 .dg 9 (e.getD 1 ksD)] b (λa b=>uP b (Q a 4)))) (uP N (Q y0 0))))):vW Q N0 n5 y0 J O U Y aa ab ac ae ah ai aj ak al am ao I N:=
  hE CF h
theorem rY {Q:QT [.ag 9,.int .i64,.bool]}{N0 n1 I y0 J O U Y aa ab ac ae ah ai aj ak al am ao N}(h :
∃ a d,∃ c:Nat,(y0.cell 8)=D.sl a 9 d c/\Br (decide (I<(d.length:Int))) (∃ a c,∃ d:Nat,(y0.cell 8)=D.sl a 9 c d/\ksL I c/\kI 178 [.dg 9 y0,.j n1] N (λn a=>∀ d,a<=d->ACalls prog 127 [.ag 9,.i,.bool] [.dg 9 (c.getD I.toNat ksD),.j n] d (λx a b c=>d<=c->Bel c x->Br b (kA 9 128 [.dg 9 y0,.j I,.dg 9 x] c (λb c=>uP c (Q b a true)))
 (yd Q N0 n1 (ksW.wrap (I+1)) y0 J O U Y aa ab ac ae ah ai aj ak al am ao c)))) (uP N (Q y0 0
 false))):yd Q N0 n1 I y0 J O U Y aa ab ac ae ah ai aj ak al am ao N:=
  hE BE h
theorem pu {Q:QT [.ag 9,.int .i64]}{N0 n4}{m5 c5:Nat}{n9 y0 n1_0 s1_1 s1_2 n1_3 n1_4 a1_5 e1_5 c1_5 n1_6 a1_7 e1_7 c1_7 a1_8 e1_8 c1_8 r2 q2 N}(h :
∃ a d,∃ c:Nat,(y0.cell 8)=D.sl a 9 d c/\Br (decide (n9<(d.length:Int))) (∃ a b,∃ c:Nat,(y0.cell 8)=D.sl a 9 b c/\ksL n9 b/\∃ n:Int,(if 0=0 then D.cell (b.getD n9.toNat ksD) 0 else D.sub (b.getD n9.toNat ksD) 0 0)=D.j n /\
 Br (bne n n4) (uP N (Q y0 0)) (∃ a b,∃ c:Nat,(y0.cell 8)=D.sl a 9 b c/\ksL n9 b/\∃ a:Int,(if 0=0 then
 D.cell (b.getD n9.toNat ksD) 3 else D.sub (b.getD n9.toNat ksD) 3 0)=D.j a/\(0<=n9/\n9<(m5:Int)/\(0+n9.toNat:Nat) <
 r2.length)/\(0+n9.toNat:Nat)<r2.length/\xQ Q N0 n4 m5 c5 (ksW.wrap (n9+1)) y0 n1_0 s1_1 s1_2 n1_3 n1_4 a1_5 e1_5 c1_5 n1_6 a1_7
 e1_7 c1_7 a1_8 e1_8 c1_8 (List.set r2 (0+n9.toNat:Nat) (D.j a)) q2 N)) (∃ s,(y0.cell 1)=D.t s/\((0:Int)<=(0:Int)/\0<(m5:Int)/\0 <
 r2.length)/\0<r2.length/\∃ a:Int,r2.getD 0 ksD=D.j a/\((0:Int)<=(1:Int)/\1<(m5:Int)/\1<r2.length)/\1<r2.length/\∃ c :
 Int,r2.getD 1 ksD=D.j c/\kIB 117 [.str s,.j a,.j c] N (fun a _ b=>∃ c,(y0.cell 1)=D.t c/\Br (ksE c (bytes [43])) (kA 9 74 [.j a] b (fun x a=>uP a (Q x 1))) (∃ c,(y0.cell 1)=D.t c/\Br (ksE c (bytes [45])) (kA 9 74 [.j a] b (fun a b=>uP b (Q a 1))) (∃ c,(y0.cell 1)=D.t c/\Br (ksE c (bytes [42]))
 (kA 9 74 [.j a] b (fun a b=>uP b (Q a 1))) (kA 9 73 [.j a] b (fun a b=>uP b (Q a 1)))))))):xQ Q N0 n4 m5 c5 n9 y0 n1_0 s1_1 s1_2 n1_3 n1_4 a1_5 e1_5 c1_5 n1_6 a1_7 e1_7 c1_7 a1_8 e1_8 c1_8 r2 q2 N:=
  hE pN h
end Go.Proofs.YtlaniepnglheoaaGreat
set_option maxRecDepth 100000
namespace Go.Proofs.YtlaniepnglheoaaGreat
open Go Go.Proofs Go.Proofs.Tryz
def F3:Hint:=⟨[],[],[(1,hs 7 [ec 1 [3],ec 4 [6]])]⟩
def F2:Hint:=⟨[],[],[(1,hs 8 [ec 1 [4]]),(3,hs 7 [ec 4 [16]])]⟩
def tR:Hint:=⟨[hc 6 [2,6,7,9,11]],[],[(1,hs 9 [ec 2 [14]]),(8,[en 0,en 1,en 2,en 3,en 4,en 5,en 6,en 7,en 8,ec 9 [43],en 10]),(10,[en 0,en 1,en 2,en 3,en 4,en 5,en 6,en 7,en 8,en 9,ec 10 [56],en 11,eh 12,eh 13]),(11,hs 3 [ec 1 [64]])]⟩
def B9:Hint:=⟨[],[],[(4,hs 10 [ec 3 [27]]),(5,hs 10 [ec 3 [34]]),(6,hs 10 [ec 3 [41]]),(7,hs 10 [ec 3 [48]]),(8,hs 25 [ec 6 [57,58],ec 17 [68,69]]),(10,hs 6 [ec 3 [79]]),(11,hs 9 [ec 2 [84]]),(12,hs 16 [ec 12 [98,99]])]⟩
def xA (Q:QT [.ag 11]) N0 a2 e2 c2 a9 e9 c9 au J O U Y aa ab ac ae ah ai aj ak al am ao aq I y1 N:=ksT 11 6 Q N0 (an 2 (.sv a2 0 e2 c2::an 3 (.pb 0 0 0 0::.pb 1 0 0 0::an 1 (.sv a9 4 e9 c9::an 1 (.j au::an 54 []))))) [.var [.j J,.j O,.str U,.str Y,.j aa,.j ab,.sv ac 2 ae ah,.j ai,.sv aj 2 ak al,.sv am 9 ao aq,.j I],.vd y1 9] N
theorem Hk N I(Q:QT [.bool])(h :
Bel N I->kB 79 [.dg 9 I] N (λb a=>Br b (kB 77 [.dg 9 I] a (λa b=>uP b (Q a))) (uP a (Q false)))):ksC 31 [.dg 9 I] N Q:=
 eE F3 h
theorem Hi N x0(Q:QT [.ag 9,.bool])(h :
Bel N x0->kB 31 [.dg 9 x0] N (fun b d=>Br (!b) (∀ a,d<=a->Q (D.ag [D.j 0,D.t b0,D.t b0,D.j 0,D.j 0,D.sl none 2 [] 0,D.j 0,D.sl none 2 []
 0,D.sl none 9 [] 0]) false a) (∃ n:Int,(x0.cell 0)=D.j n/\Br (bne n 10) (∀ a,d<=a->Q (D.ag [D.j 0,D.t b0,D.t b0,D.j 0,D.j 0,D.sl none 2 [] 0,
 D.j 0,D.sl none 2 [] 0,D.sl none 9 [] 0]) false a) (∃ a b,∃ c:Nat,(x0.cell 8)=D.sl a 9 b c/\ksL 0 b/\∀ a,
 d<=a->ACalls prog 32 [.pk,.i,.str,.str,.i,.dc,.dc,.dc,.dc,.row 30 9] [.dg 9 (b.getD 0 ksD)] a (fun b s c d x e f g h i
 j=>a<=j->Bel j (D.ag h)->w2 (h.length=h.length/\i=i) (∀ a k,j<=k->Fresh N k a [D.ag h,x,e,f,g]->uP k (Q
 (D.ag [D.j b,D.t s,D.t c,D.j d,x,e,f,g,D.sl a 9 h i]) true))))))):ksC 12 [.dg 9 x0] N Q:=
  eE F2 h
theorem Bv N a0 e0 c0 x1 a2 e2 c2(Q:QT [.ag 11])(h :
Bel N (D.sl a0 4 e0 c0)->Bel N x1->Bel N (D.sl a2 0 e2 c2)->kAB 9 27 [.sv a0 4 e0 c0,.dg 9 x1] N (fun x b d=>∀ e,d<=e->ACalls prog 16 [.sl 4,
 .sl 4] [.sv a0 4 e0 c0] e (fun a c d f g h i=>e<=i->Bel i (D.sl a 4 c d)->Bel i (D.sl f 4 g h)->Br (!b) (∀ a,i<=a->Q (D.ag
 [D.j 0,D.j 0,D.t b0,D.t b0,D.j 0,D.j 0,D.sl none 2 [] 0,D.j 0,D.sl none 2 [] 0,D.sl none 9 [] 0,D.j 0]) a) (Br (bne (e2.length:Int) (c.length :
 Int)) (∀ a,i<=a->Q (D.ag [D.j 0,D.j 0,D.t b0,D.t b0,D.j 0,D.j 0,D.sl none 2 [] 0,D.j 0,D.sl none 2 [] 0,D.sl none 9 [] 0,D.j 0]) a)
 (xA Q N a2 e2 c2 a c d 0 0 0 b0 b0 0 0 none [] 0 0 none [] 0 none [] 0 0 x i))))):ksC 11 [.sv a0 4 e0 c0,.dg 9 x1,.sv a2 0 e2 c2] N Q:=
  eE tR h
theorem DP N I e0 J(Q:QT [.bool])(h :
Bel N (D.sl I 0 e0 J)->kB 4 [.sv I 0 e0 J] N (λb d=>Br b (uP d (Q true)) (∀ b,d<=b->ACalls prog 5 [.sl 4,.ag 9,.sl 0] [.sv I 0 e0 J]
 b (λa c d x e f g h=>b<=h->Bel h (D.sl a 4 c d)->Bel h x->Bel h (D.sl e 0 f g)->kAB 9 6 [.sv a 4 c d,.dg 9 x,.sv e 0 f
 g] h (λb h i=>kAB 9 7 [.sv a 4 c d,.dg 9 x,.sv e 0 f g] i (λi j k=>kAB 9 8 [.sv a 4 c d,.dg 9 x,.sv e 0 f g] k (fun
 k l m=>kAB 9 9 [.sv a 4 c d,.dg 9 x,.sv e 0 f g] m (λm o p=>Br (!(h==j)) (uP p (Q false)) (kB 10 [.dg 9 b,.dg 9 i]
 p (λi j=>Br (!i) (uP j (Q false)) (Br (!(l==o)) (uP j (Q false)) (kB 10 [.dg 9 k,.dg 9 m] j (λi j=>Br (!i) (uP j (Q
 false)) (Br (!(h==l)) (uP j (Q false)) (kA 11 11 [.sv a 4 c d,.dg 9 x,.sv e 0 f g] j (λa c=>kAB 9 12 [.dg 9 (D.sub a 1 9)] c
 (λc d e=>Br (!h) (uP e (Q true)) (∃ n:Int,(a.cell 0)=D.j n/\Br (bne n 1) (uP e (Q true)) (Br d (kB 10 [.dg 9 c,.dg 9 b] e (fun
 a b=>uP b (Q a))) (uP e (Q false))))))))))))))))))))):ksC 3 [.sv I 0 e0 J] N Q:=
  eE B9 h
theorem uc {Q:QT [.ag 11]}{N0 a2 e2 c2 a9 O c9 I U Y aa ab ac ae ah ai aj ak al am ao aq au aw J y1 N}(h :
Br (decide (I<(O.length:Int))) (ksL I O/\ksL I e2/\∃ n:Int,e2.getD I.toNat ksD=D.j n/\kB 23 [.dg 2 (if 2=0 then D.cell (O.getD I.toNat ksD) 1 else D.sub (O.getD I.toNat ksD) 1 2),.j n] N (λb c=>
 Br (!b) (∀ a,c<=a->Q (D.ag [D.j 0,D.j 0,D.t b0,D.t b0,D.j 0,D.j 0,D.sl none 2 [] 0,D.j 0,D.sl none 2 [] 0,D.sl none 9 [] 0,D.j 0]) a) (ksL I O/\ksL I e2/\∃ b:Int,e2.getD I.toNat ksD=D.j b/\kA 9 29 [.dg 2 (if 2=0 then D.cell
 (O.getD I.toNat ksD) 1 else D.sub (O.getD I.toNat ksD) 1 2),.j b] c (λx b=>(2=([y1,x]).length/\2=2)/\∀ a,ApA a [y1,x]
 -> ∀ c,b<=c->wm c [a]->ACalls prog 28 [.ag 9] [.j 7,.sv a 9 [y1,x] 2] c (λb d=>c<=d->Off [a] b/\(Bel d b->xA Q
 N0 a2 e2 c2 a9 O c9 (ksW.wrap (I+1)) U Y aa ab ac ae ah ai aj ak al am ao aq au aw J b d)))))) (kA 11 30
 [.dg 9 y1,.j 200] N (λa b=>uP b (Q a)))):xA Q N0 a2 e2 c2 a9 O c9 I U Y aa ab ac ae ah ai aj ak al am ao aq au aw J y1 N:=
  hE tR h
end Go.Proofs.YtlaniepnglheoaaGreat
