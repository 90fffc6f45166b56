/- Printed by gen.py: what the functions come to. -/
import Derived.Test.YtlaniepnglheoaaGreatDoorJh
set_option linter.unusedVariables false
set_option maxRecDepth 100000
namespace Go.Proofs.YtlaniepnglheoaaGreatDoor
open Go Go.Proofs Go.Proofs.Tryz
def B8:Hint:=⟨[hc 2 [0,3]],[],[]⟩
def CG:Hint:=⟨[hc 3 [1,2,5]],[],[(5,hs 8 [ec 6 [23]])]⟩
def sL:Hint:=⟨[hc 3 [1,3,4]],[],[(5,hs 9 [ec 6 [17]])]⟩
def CF:Hint:=⟨[hc 2 [1,3]],[],[(4,hs 7 [ec 5 [15]])]⟩
def CB:Hint:=⟨[],[],[(1,hs 13 [ec 1 [3],ec 5 [7],ec 10 [12]])]⟩
def Eo:Hint:=⟨[hc 2 [0,3]],[],[(4,hs 25 [ec 13 [22]])]⟩
def GY:Hint:=⟨[],[],[(2,hs 15 [ec 3 [15],ec 11 [23]]),(4,[en 0,en 1,en 2,en 3,en 4,ec 5 [32],en 6,en 7,en 8,en 9,en 10,en 11,en 12,en 13,ec 14 [41],en 15,en 16,en 17]),(12,hs 9 [ec 6 [57]])]⟩
def B9:Hint:=⟨[hc 2 [1,3]],[],[(4,hs 7 [ec 5 [15]]),(6,[en 0,ec 1 [18],en 2,en 3,en 4,en 5,en 6,ec 7 [24],en 8,en 9,en 10])]⟩
def GZ:Hint:=⟨[hc 4 [1,2,5]],[],[(6,[en 0,en 1,en 2,en 3,en 4,en 5,en 6,ec 7 [21],ec 8 [20],en 9])]⟩
def GV:Hint:=⟨[],[],[(1,hs 8 [ec 1 [5],ec 5 [8]])]⟩
def CN:Hint:=⟨[hc 2 [0,1,5]],[],[]⟩
def rm:Hint:=⟨[hc 3 [1,2,3,4]],[],[(5,[en 0,en 1,en 2,en 3,en 4,en 5,en 6,ec 7 [21],en 8,eh 9,en 10,eh 11])]⟩
def MH:Hint:=⟨[],[],[(1,[en 0,en 2,ec 1 [5],ec 3 [7],en 4,en 5,eh 6])]⟩
def qL:Hint:=⟨[hc 4 [2,3,5]],[],[(6,[en 0,en 1,en 2,en 3,en 4,en 5,en 6,en 7,en 8,en 9,ec 10 [31,36],en 11])]⟩
def KS:Hint:=⟨[],[],[(3,[en 0,en 1,en 2,en 3,en 4,en 5,en 7,en 8,en 9,en 10,en 11,en 16,ec 6 [26],ec 12 [32],en 13,en 14,en 15,eh 17,en 18]),(4,hs 7 [ec 3 [38,39]]),(6,hs 13 [ec 6 [49]]),(9,[en 0,en 1,en 2,en 3,en 4,en 6,en 7,en 8,en 9,en 10,en 15,ec 5 [61],ec 11 [67],en 12,en 13,en 14,eh 16,en 17]),(11,hs 7 [ec 4 [75,77]]),(12,[en 0,en 1,en 2,en 3,en 4,en 6,en 7,en 8,en 9,en 10,en 12,en 13,en 14,en 15,en 16,en 21,ec 5 [83],ec 11 [89],ec 17 [95],en 18,en 19,en 20,eh 22,en 23]),(13,[en 0,en 1,en 2,en 3,en 4,en 5,ec 6 [103,105],en 7,eh 8,en 9])]⟩
def BG:Hint:=⟨[hc 3 [0,1,5,6] [(5,94,4)]],[],[(5,hs 26 [ec 5 [18]]),(6,[en 0,en 1,en 2,en 3,en 4,en 5,en 6,en 7,en 8,en 9,en 10,en 12,en 13,en 14,en 15,en 16,ec 11 [50],en 17,en 18,eh 19,eh 20])]⟩
def KI:Hint:=⟨[],[],[(1,hs 5 [ec 1 [3]])]⟩
def IW:Hint:=⟨[],[],[(3,[en 0,en 1,en 2,en 3,en 4,en 5,en 6,en 12,ec 7 [22],ec 8 [21],en 9,en 10,en 11,eh 13,en 14]),(7,hs 4 [ec 1 [36]]),(9,[en 0,en 2,ec 1 [42],ec 3 [44],eh 4,en 5]),(11,hs 7 [ec 4 [53]])]⟩
def Gb:Hint:=⟨[hc 5 [0,1,4,6,7]],[],[]⟩
def KT:Hint:=⟨[],[],[(6,[en 0,en 1,en 2,en 3,en 4,en 5,en 6,en 7,en 8,en 9,en 10,en 11,en 12,en 13,en 14,ec 15 [34,37],en 16,eh 17,en 18]),(7,[en 0,en 1,en 2,en 3,en 4,en 5,en 6,en 7,en 8,en 9,en 10,en 11,en 12,en 13,en 14,ec 15 [51,54],en 16]),(8,hs 9 [ec 6 [62]])]⟩
def CO:Hint:=⟨[hc 24 [0,2,4,6,13,14] [(13,32,2)]],[],[(6,hs 8 [ec 5 [43]]),(14,hs 10 [ec 3 [57]]),(20,hs 10 [ec 3 [71]]),(26,hs 14 [ec 7 [92]]),(30,hs 9 [ec 2 [105]])]⟩
def KX:Hint:=⟨[],[],[(1,hs 10 [ec 3 [12]]),(2,hs 7 [ec 4 [20]])]⟩
def KF:Hint:=⟨[],[],[(1,hs 9 [ec 6 [14]]),(3,hs 10 [ec 3 [22]])]⟩
def xP (Q:QT [.bool]) N0 I J N:=jT 87 2 Q N0 (.str I::an 2 (.j J::an 58 [])) [] N
def vQ (Q:QT [.i]) N0 n1 I J N:=jT 97 3 Q N0 (an 1 (.j n1::.pb 0 0 0 0::an 2 (.j I::an 21 []))) [.vd J 2] N
def xL (Q:QT [.i]) N0 I n4 J N:=jT 98 3 Q N0 (an 1 (.pb 0 0 0 0::an 1 (.j I::.j n4::an 17 []))) [.vd J 2] N
def vP (Q:QT [.bool]) N0 I J N:=jT 99 2 Q N0 (an 1 (.pb 0 0 0 0::an 1 (.j I::an 35 []))) [.vd J 2] N
def uS (Q:QT [.bool]) N0 a0 e0 c0 I N:=jT 41 2 Q N0 (.sv a0 4 e0 c0::an 2 (.j I::an 34 [])) [] N
def vL (Q:QT [.bool]) N0 I J N:=jT 51 2 Q N0 (an 1 (.pb 0 0 0 0::an 1 (.j I::an 24 []))) [.vd J 9] N
def tB (Q:QT [.bool]) N0 n1 I J N:=jT 88 4 Q N0 (an 1 (.j n1::.pb 0 0 0 0::an 2 (.j I::an 20 []))) [.vd J 9] N
def vb (Q:QT [.i]) N0 a0 e0 c0 I J N:=jT 152 2 Q N0 (.sv a0 4 e0 c0::.str I::an 3 (.j J::an 15 [])) [] N
def tR (Q:QT [.ag 2]) N0 n4 y0 I J O U Y aa ab ac N:=jT 90 3 Q N0 (an 1 (.pb 0 0 0 0::.pb 1 0 0 0::.pb 2 0 0 0::.j n4::an 22 [])) [.vd y0 2,.var [.j I,.sv J 2 O U],.var [.j Y,.sv aa 2 ab ac]] N
def yx (Q:QT [.bool]) N0 I J O N:=jT 199 4 Q N0 (an 2 (.pb 0 0 0 0::.pb 1 0 0 0::an 1 (.j I::an 33 []))) [.vd J 2,.vd O 2] N
def yR (Q:QT [.sl 4]) N0 a0 e0 c0 n1 I c5 J r0 O N:=jT 203 3 Q N0 (.sv a0 4 e0 c0::.j n1::an 3 (.sb 0 4 0 I c5::.j J::an 54 [])) [.arr 94 4 r0 O] N
def yz (Q:QT [.ag 2,.bool]) N0 Y a1 e1 c1 n6 n7 I J O U N:=jT 206 5 Q N0 (.str Y::.sv a1 2 e1 c1::an 2 (.pb 0 0 0 0::an 1 (.j n6::.j n7::an 36 []))) [.var [.j I,.sv J 2 O U]] N
def xc (Q:QT [.ag 2,.bool]) N0 a0 e0 c0 n2 Y aa ab y0 I J O U r2 q2 N:=jT 89 24 Q N0 (.sv a0 4 e0 c0::an 1 (.j n2::an 1 (.pb 0 0 0 0::an 1 (.pb 1 0 0 0::an 6 (.sb 2 2 0 Y aa::.j ab::an 97 []))))) [.vd y0 9,.var [.j I,.sv J 2 O U],.arr 32 2 r2 q2] N
def xn (Q:QT [.ag 2]) N0 n4 y0 I J O U Y aa ab r3 q3 N:=jT 90 3 Q N0 (an 1 (.pb 0 0 0 0::.pb 1 0 0 0::.pb 2 0 0 0::.j n4::an 22 [])) [.vd y0 2,.var [.j I,.sv J 2 O U],.var [.j Y,.sb 3 2 0 aa ab],.arr 32 2 r3 q3] N
theorem PX N n0 n1 n2(Q:QT [.bool])(h :
Br (decide (n0≥n1)) (uP N (Q (decide (n0<=n2)))) (uP N (Q false))):jC 44 [.j n0,.j n1,.j n2] N Q:=
 eE H0 h
theorem Li N I(Q:QT [.bool])(h :
xP Q N I 0 N):jC 87 [.str I] N Q:=
 eE B8 h
theorem Lt N I n1(Q:QT [.i])(h :
Bel N I->vQ Q N (jW.wrap (n1 - 1)) 0 I N):jC 97 [.dg 2 I,.j n1] N Q:=
 eE CG h
theorem Nu N n0 n1(Q:QT [.i])(h :
Br (decide (n0>n1)) (uP N (Q n0)) (uP N (Q n1))):jC 150 [.j n0,.j n1] N Q:=
 eE H0 h
theorem DO N I(Q:QT [.i])(h :
Bel N I->xL Q N 0 0 I N):jC 98 [.dg 2 I] N Q:=
 eE sL h
theorem Ls N I(Q:QT [.bool])(h :
Bel N I->vP Q N 0 I N):jC 99 [.dg 2 I] N Q:=
 eE CF h
theorem DS N I(Q:QT [.bool])(h :
Bel N I->kI 97 [.dg 2 I,.j 30] N (λn a=>Br (decide (n≥0)) (kI 98 [.dg 2 I] a (λa c=>Br (decide (a<=8)) (kB 99 [.dg 2 I] c (λb
 a=>uP a (Q b))) (uP c (Q false)))) (uP a (Q false)))):jC 49 [.dg 2 I] N Q:=
  eE CB h
theorem Nq N a0 e0 c0(Q:QT [.bool])(h :
Bel N (D.sl a0 4 e0 c0)->uS Q N a0 e0 c0 0 N):jC 41 [.sv a0 4 e0 c0] N Q:=
 eE Eo h
theorem Lw N I(Q:QT [.bool])(h :
Bel N I->∃ n:Int,(I.cell 0)=D.j n/\Br (n==0) (∃ a b,∃ c:Nat,(I.cell 1)=D.sl a 2 b c/\uP N (Q ((b.length:Int)==0))) (uP N (Q
 false))):jC 159 [.dg 2 I] N Q:=
  eE H0 h
theorem I9 N I(Q:QT [.i])(h :
Br (jE I (bytes [43])) (uP N (Q 2)) (Br (jE I (bytes [45])) (uP N (Q 2)) (Br
 (jE I (bytes [42])) (uP N (Q 2)) (Br (jE I (bytes [61])) (uP N (Q 2)) (Br
 (jE I (bytes [60])) (uP N (Q 2)) (Br (jE I (bytes [38])) (uP N (Q 2)) (Br
 (jE I (bytes [124])) (uP N (Q 2)) (Br (jE I (bytes [33])) (uP N (Q 1)) (uP N (Q
 0)))))))))):jC 161 [.str I] N Q:=
  eE H0 h
theorem JI N I(Q:QT [.bool])(h :
Bel N I->∃ n:Int,(I.cell 0)=D.j n/\Br (n==4) (∃ s,(I.cell 1)=D.t s/\kI 161 [.str s] N (λa b=>Br (decide (a>0)) (∃ a,(I.cell
 2)=D.t a/\uP b (Q (jE a b0))) (uP b (Q false)))) (Br (n==1) (∃ a,(I.cell 1)=D.t a/\kB 87 [.str a] N (fun
 b a=>Br b (∃ b,(I.cell 2)=D.t b/\uP a (Q (jE b b0))) (uP a (Q false)))) (Br (n==6) (∃ a,(I.cell 1)=D.t
 a/\kB 87 [.str a] N (λa b=>Br a (∃ a,(I.cell 2)=D.t a/\uP b (Q (jE a b0))) (uP b (Q false))))
 (Br (n==8) (∃ a,(I.cell 1)=D.t a/\kB 87 [.str a] N (λa b=>Br a (∃ a,(I.cell 2)=D.t a/\uP b (Q (jE a b0))) (uP b (Q false)))) (Br (n==9) (∃ a,(I.cell 1)=D.t a/\kB 87 [.str a] N (λa b=>Br a (∃ a,(I.cell 2)=D.t a
 /\ kB 87 [.str a] b (λa b=>Br a (∃ a,(I.cell 1)=D.t a/\∃ c,(I.cell 2)=D.t c/\uP b (Q (!(jE a c)))) (uP b (Q false)))) (uP b (Q false)))) (∃ a,(I.cell 1)=D.t a/\Br (jE a b0) (∃ a,
 (I.cell 2)=D.t a/\uP N (Q (jE a b0))) (uP N (Q false)))))))):jC 160 [.dg 9 I] N Q:=
  eE H0 h
theorem IF N I(Q:QT [.bool])(h :
Bel N I->∃ n:Int,(I.cell 0)=D.j n/\Br (n==6) (kB 49 [.dg 2 (D.sub I 4 2)] N (λb a=>Br (!(true==b)) (uP a (Q false)) (∃ b:Int,
 (I.cell 0)=D.j b/\kB 49 [.dg 2 (D.sub I 6 2)] a (λa c=>Br (!((b==9)==a)) (uP c (Q false)) (∃ a:Int,(I.cell 0)=D.j a/\Br (bne
 a 9) (kB 159 [.dg 2 (D.sub I 6 2)] c (λa b=>Br (!a) (uP b (Q false)) (∃ a:Int,(I.cell 0)=D.j a/\Br (a==2) (∃ a:Int,(I.cell
 3)=D.j a/\kB 44 [.j a,.j 0,.j 10006] b (λa b=>Br a (kB 160 [.dg 9 I] b (λa b=>uP b (Q a))) (uP b (Q false)))) (Br (a ==
 3) (∃ a:Int,(I.cell 3)=D.j a/\kB 44 [.j a,.j 0,.j 1] b (λa b=>Br a (kB 160 [.dg 9 I] b (λa b=>uP b (Q a))) (uP b (Q
 false)))) (∃ a:Int,(I.cell 3)=D.j a/\kB 44 [.j a,.j 0,.j 0] b (λa b=>Br a (kB 160 [.dg 9 I] b (λa b=>uP b (Q a))) (uP
 b (Q false)))))))) (∃ a:Int,(I.cell 0)=D.j a/\Br (a==2) (∃ a:Int,(I.cell 3)=D.j a/\kB 44 [.j a,.j 0,.j 10006] c (λa b=>
 Br a (kB 160 [.dg 9 I] b (λa b=>uP b (Q a))) (uP b (Q false)))) (Br (a==3) (∃ a:Int,(I.cell 3)=D.j a/\kB 44 [.j a,.j 0,
 .j 1] c (λa b=>Br a (kB 160 [.dg 9 I] b (λa b=>uP b (Q a))) (uP b (Q false)))) (∃ a:Int,(I.cell 3)=D.j a/\kB 44
 [.j a,.j 0,.j 0] c (λa b=>Br a (kB 160 [.dg 9 I] b (λa b=>uP b (Q a))) (uP b (Q false))))))))))) (∃ a:Int,(I.cell
 0)=D.j a/\kB 49 [.dg 2 (D.sub I 4 2)] N (λb c=>Br (!((a==9)==b)) (uP c (Q false)) (Br (!(a==9)) (kB 159 [.dg 2 (D.sub I 4 2)]
 c (λa b=>Br (!a) (uP b (Q false)) (∃ a:Int,(I.cell 0)=D.j a/\kB 49 [.dg 2 (D.sub I 6 2)] b (λb c=>Br (!((a==9)
 == b)) (uP c (Q false)) (∃ a:Int,(I.cell 0)=D.j a/\Br (bne a 9) (kB 159 [.dg 2 (D.sub I 6 2)] c (λa b=>Br (!a) (uP b (Q
 false)) (∃ a:Int,(I.cell 0)=D.j a/\Br (a==2) (∃ a:Int,(I.cell 3)=D.j a/\kB 44 [.j a,.j 0,.j 10006] b (λa b=>Br
 a (kB 160 [.dg 9 I] b (λa b=>uP b (Q a))) (uP b (Q false)))) (Br (a==3) (∃ a:Int,(I.cell 3)=D.j a/\kB 44 [.j a,.j
 0,.j 1] b (λa b=>Br a (kB 160 [.dg 9 I] b (λa b=>uP b (Q a))) (uP b (Q false)))) (∃ a:Int,(I.cell 3)=D.j a/\kB
 44 [.j a,.j 0,.j 0] b (λa b=>Br a (kB 160 [.dg 9 I] b (λa b=>uP b (Q a))) (uP b (Q false)))))))) (∃ a:Int,(I.cell
 0)=D.j a/\Br (a==2) (∃ a:Int,(I.cell 3)=D.j a/\kB 44 [.j a,.j 0,.j 10006] c (λa b=>Br a (kB 160 [.dg 9 I] b (fun
 a b=>uP b (Q a))) (uP b (Q false)))) (Br (a==3) (∃ a:Int,(I.cell 3)=D.j a/\kB 44 [.j a,.j 0,.j 1] c (λa b=>Br
 a (kB 160 [.dg 9 I] b (λa b=>uP b (Q a))) (uP b (Q false)))) (∃ a:Int,(I.cell 3)=D.j a/\kB 44 [.j a,.j 0,.j 0] c (fun
 a b=>Br a (kB 160 [.dg 9 I] b (λa b=>uP b (Q a))) (uP b (Q false))))))))))) (∃ a:Int,(I.cell 0)=D.j a/\kB 49 [.dg 2
 (D.sub I 6 2)] c (λb c=>Br (!((a==9)==b)) (uP c (Q false)) (∃ a:Int,(I.cell 0)=D.j a/\Br (bne a 9) (kB 159 [.dg 2
 (D.sub I 6 2)] c (λa b=>Br (!a) (uP b (Q false)) (∃ a:Int,(I.cell 0)=D.j a/\Br (a==2) (∃ a:Int,(I.cell 3)=D.j a
 /\ kB 44 [.j a,.j 0,.j 10006] b (λa b=>Br a (kB 160 [.dg 9 I] b (λa b=>uP b (Q a))) (uP b (Q false)))) (Br (a ==
 3) (∃ a:Int,(I.cell 3)=D.j a/\kB 44 [.j a,.j 0,.j 1] b (λa b=>Br a (kB 160 [.dg 9 I] b (λa b=>uP b (Q
 a))) (uP b (Q false)))) (∃ a:Int,(I.cell 3)=D.j a/\kB 44 [.j a,.j 0,.j 0] b (λa b=>Br a (kB 160 [.dg 9 I] b (fun
 a b=>uP b (Q a))) (uP b (Q false)))))))) (∃ a:Int,(I.cell 0)=D.j a/\Br (a==2) (∃ a:Int,(I.cell 3)=D.j a/\kB 44
 [.j a,.j 0,.j 10006] c (λa b=>Br a (kB 160 [.dg 9 I] b (λa b=>uP b (Q a))) (uP b (Q false)))) (Br (a==3) (∃
 a:Int,(I.cell 3)=D.j a/\kB 44 [.j a,.j 0,.j 1] c (λa b=>Br a (kB 160 [.dg 9 I] b (λa b=>uP b (Q a))) (uP
 b (Q false)))) (∃ a:Int,(I.cell 3)=D.j a/\kB 44 [.j a,.j 0,.j 0] c (λa b=>Br a (kB 160 [.dg 9 I] b (λa b=>uP
 b (Q a))) (uP b (Q false)))))))))))) ):jC 100 [.dg 9 I] N Q:=
  eE GY h
theorem JG N I(Q:QT [.i])(h :
Bel N I->∃ n:Int,(I.cell 0)=D.j n/\Br (n==1) (uP N (Q 0)) (Br (n==2) (uP N (Q 0)) (Br (n==3) (uP N (Q 0)) (Br (n==4) (∃ s,(I.cell 1) =
 D.t s/\kI 161 [.str s] N (λa b=>uP b (Q a))) (Br (n==6) (uP N (Q 1)) (Br (n==9) (uP N (Q 1)) (Br (n==10) (uP N (Q 1)) (Br (n==11) (uP N (Q
 1)) (Br (n==12) (uP N (Q 1)) (Br (n==13) (uP N (Q 1)) (Br (n==7) (uP N (Q 2)) (Br (n==8) (uP N (Q 2)) (Br (n==5) (uP N (Q 3)) (uP N (Q
 (-1)))))))))))))))):jC 101 [.dg 9 I] N Q:=
  eE H0 h
theorem Lj N I(Q:QT [.bool])(h :
Bel N I->vL Q N 0 I N):jC 51 [.dg 9 I] N Q:=
 eE B9 h
theorem DZ N I n1(Q:QT [.i])(h :
Bel N I->∃ n:Int,(I.cell 0)=D.j n/\Br (n==10) (uP N (Q (jW.wrap (n1+1)))) (Br (n==11) (uP N (Q (jW.wrap (n1 - 1)))) (uP N
 (Q n1)))):jC 151 [.dg 9 I,.j n1] N Q:=
  eE H0 h
theorem PZ N I n1(Q:QT [.bool])(h :
Bel N I->kB 44 [.j n1,.j 0,.j 2] N (λb a=>Br (!b) (uP a (Q false)) (tB Q N n1 0 I a))):jC 88 [.dg 9 I,.j n1] N Q:=
 eE GZ h
theorem IC N I n1(Q:QT [.bool])(h :
Bel N I->kB 51 [.dg 9 I] N (λb a=>Br b (kB 88 [.dg 9 I,.j n1] a (λa b=>uP b (Q a))) (uP a (Q false)))):jC 42 [.dg 9 I,.j n1] N Q:=
 eE GV h
theorem L1 N a0 e0 c0 I(Q:QT [.i])(h :
Bel N (D.sl a0 4 e0 c0)->vb Q N a0 e0 c0 I (jW.wrap ((e0.length:Int) - 1)) N):jC 152 [.sv a0 4 e0 c0,.str I] N Q:=
 eE CN h
theorem Lr N I(Q:QT [.ag 2])(h :
Bel N I->∃ n:Int,(I.cell 0)=D.j n/\tR Q N 0 I 0 none [] 0 n none [] 0 N):jC 90 [.dg 2 I] N Q:=
 eE rm h
theorem Nw N(Q:QT [.ag 2])(h :
uP N (Q (D.ag [D.j 1,jN]))):jC 69 [] N Q:=
 eE H0 h
theorem Lq N(Q:QT [.ag 2])(h :
uP N (Q (D.ag [D.j 2,jN]))):jC 70 [] N Q:=
 eE H0 h
theorem L6 N a0 e0 c0 J I O(Q:QT [.sl 4])(h :
Bel N (D.sl a0 4 e0 c0)->Bel N I->(0=0/\0=0)/\zB [] e0 56/\∀(c:Nat),(([]++e0).length=([]++e0).length/\c=c)/\zB ([]++e0)
 [D.ag [D.t J,(I.cell 0),(I.cell 1),D.j O]] 56/\∀(b:Nat),w2 (([]++e0++[D.ag [D.t J,(I.cell 0),(I.cell 1),D.j O]]).length=([]++e0 ++
 [D.ag [D.t J,(I.cell 0),(I.cell 1),D.j O]]).length/\b=b) (∀ a c,N<=c->Fresh N c a [D.ag ([]++e0++[D.ag [D.t J,(I.cell 0),(I.cell
 1),D.j O]])]->uP c (Q a ([]++e0++[D.ag [D.t J,(I.cell 0),(I.cell 1),D.j O]]) b))):jC 139 [.sv a0 4 e0 c0,.str J,.dg 2 I,.j O] N Q:=
  eE H0 h
theorem FA N I J(Q:QT [.ag 2])(h :
Bel N I->Bel N J->kA 2 90 [.dg 2 I] N (λx b=>kA 2 90 [.dg 2 J] b (λb c=>w3 (2=([x,b]).length/\2=2) (∀ a d,c<=d->Fresh N
 d a [D.ag [x,b]]->uP d (Q (D.ag [D.j 3,D.sl a 2 [x,b] 2])))))):jC 72 [.dg 2 I,.dg 2 J] N Q:=
  eE MH h
theorem Fk N I J(Q:QT [.bool])(h :
Bel N I->Bel N J->∃ n:Int,(I.cell 0)=D.j n/\∃ b:Int,(J.cell 0)=D.j b/\Br (bne n b) (uP N (Q false)) (∃ a b,∃ c:Nat,(I.cell 1)
 = D.sl a 2 b c/\∃ a c,∃ d:Nat,(J.cell 1)=D.sl a 2 c d/\Br (bne (b.length:Int) (c.length:Int)) (uP N (Q false))
 (yx Q N 0 I J N))):jC 199 [.dg 2 I,.dg 2 J] N Q:=
  eE qL h
theorem qJ N a0 e0 c0 I n2(Q:QT [.ag 2,.bool])(h :
Bel N (D.sl a0 4 e0 c0)->Bel N I->∃ n:Int,(I.cell 0)=D.j n/\Br (n==6) (∃ s,(I.cell 1)=D.t s/\∃ a d,∃ c:Nat,(I.cell 8)=D.sl a 9 d
 c/\jL 0 d/\kL 4 139 [.sv a0 4 e0 c0,.str s,.dg 2 (D.sub I 4 2),.j n2] N (λa c e f=>kAB 2 43 [.sv a
 4 c e,.dg 9 (d.getD 0 jD),.j n2] f (λx b a=>kA 2 72 [.dg 2 (D.sub I 4 2),.dg 2 x] a (λa c=>uP c (Q a b))))) (Br (n==8)
 (∃ a b,∃ c:Nat,(I.cell 8)=D.sl a 9 b c/\jL 0 b/\kAB 2 43 [.sv a0 4 e0 c0,.dg 9 (b.getD 0 jD),.j n2] N (λa b c=>Br (!b) (uP c (Q (D.ag [D.j 0,jN]) false)) (∃ b,(I.cell 1)=D.t b/\∃ d e,∃ f :
 Nat,(I.cell 8)=D.sl d 9 e f/\jL 1 e/\kL 4 139 [.sv a0 4 e0 c0,.str b,.dg 2 a,.j n2] c (λa
 b c d=>kAB 2 43 [.sv a 4 b c,.dg 9 (e.getD 1 jD),.j n2] d (λa b c=>uP c (Q a b)))))) (kA 2 72 [.dg 2 (D.sub I
 4 2),.dg 2 (D.sub I 6 2)] N (λa b=>∃ c,(I.cell 1)=D.t c/\∃ d,(I.cell 2)=D.t d/\∃ e f,∃ g:Nat,(I.cell 8)=D.sl e 9
 f g/\jL 0 f/\kL 4 139 [.sv a0 4 e0 c0,.str c,.dg 2 a,.j n2] b (λb c e g=>kL 4 139 [.sv
 b 4 c e,.str d,.dg 2 (D.sub I 4 2),.j n2] g (λb c d e=>kAB 2 43 [.sv b 4 c d,.dg 9 (f.getD 0 jD),.j n2] e
 (λb c d=>Br c (kB 199 [.dg 2 b,.dg 2 (D.sub I 6 2)] d (λb c=>uP c (Q a b))) (uP d (Q a false))))))))):jC 153 [.sv a0 4 e0 c0,.dg 9 I,.j n2] N Q:=
  eE KS h
theorem Lh N I(Q:QT [.bool])(h :
Bel N I->∃ n:Int,(I.cell 0)=D.j n/\Br (n==1) (∃ a b,∃ c:Nat,(I.cell 1)=D.sl a 2 b c/\uP N (Q ((b.length:Int)==0))) (∃ a:Int,
 (I.cell 0)=D.j a/\Br (a==2) (∃ a b,∃ c:Nat,(I.cell 1)=D.sl a 2 b c/\uP N (Q ((b.length:Int)==0))) (uP N (Q false)))):jC 140 [.dg 2 I] N Q:=
  eE H0 h
theorem JC N a0 e0 c0 n1(Q:QT [.sl 4])(h :
Bel N (D.sl a0 4 e0 c0)->yR Q N a0 e0 c0 n1 0 0 0 [] 0 N):jC 203 [.sv a0 4 e0 c0,.j n1] N Q:=
 eE BG h
theorem DW N I(Q:QT [.ag 2])(h :
Bel N I->kA 2 90 [.dg 2 I] N (λx b=>w3 (1=([x]).length/\1=1) (∀ a c,b<=c->Fresh N c a [D.ag [x]]->uP c (Q (D.ag [D.j 4,D.sl a 2 [x]
 1]))))):jC 71 [.dg 2 I] N Q:=
  eE KI h
theorem JL N a0 e0 c0 I n2(Q:QT [.ag 2,.bool])(h :
Bel N (D.sl a0 4 e0 c0)->Bel N I->∃ n:Int,(I.cell 0)=D.j n/\Br (n==12) (kL 4 203 [.sv a0 4 e0 c0,.j n2] N (λa c d e=>∃ f g,∃ h
 : Nat,(I.cell 8)=D.sl f 9 g h/\jL 0 g/\kI 151 [.dg 9 I,.j n2] e (λe f=>kAB 2 43 [.sv a 4 c
 d,.dg 9 (g.getD 0 jD),.j e] f (λx b a=>Br (!b) (uP a (Q (D.ag [D.j 0,jN]) false)) (∃ b:Int,(I.cell 0)=D.j b /\
 Br (b==10) (kA 2 71 [.dg 2 x] a (λa b=>uP b (Q a true))) (∃ b:Int,(I.cell 0)=D.j b/\Br (b==13) (kA 2 71 [.dg 2 x] a (λa b
 => kB 140 [.dg 2 x] b (λb c=>uP c (Q a b)))) (∃ b:Int,(x.cell 0)=D.j b/\Br (b==4) (∃ b c,∃ d:Nat,(x.cell 1)=D.sl b
 2 c d/\jL 0 c/\kA 2 90 [.dg 2 (c.getD 0 jD)] a (λa b=>uP b (Q a true))) (uP a (Q
 (D.ag [D.j 0,jN]) false))))))))) (∃ a b,∃ c:Nat,(I.cell 8)=D.sl a 9 b c/\jL 0 b
 /\ kI 151 [.dg 9 I,.j n2] N (λa c=>kAB 2 43 [.sv a0 4 e0 c0,.dg 9 (b.getD 0 jD),.j a] c (λa b c=>Br (!b) (uP c (Q
 (D.ag [D.j 0,jN]) false)) (∃ b:Int,(I.cell 0)=D.j b/\Br (b==10) (kA 2 71 [.dg 2 a] c (λa b=>uP b (Q a true))) (∃
 b:Int,(I.cell 0)=D.j b/\Br (b==13) (kA 2 71 [.dg 2 a] c (λb c=>kB 140 [.dg 2 a] c (λa c=>uP c (Q b a)))) (∃ b :
 Int,(a.cell 0)=D.j b/\Br (b==4) (∃ b d,∃ e:Nat,(a.cell 1)=D.sl b 2 d e/\jL 0 d /\
 kA 2 90 [.dg 2 (d.getD 0 jD)] c (λa b=>uP b (Q a true))) (uP c (Q (D.ag [D.j 0,jN]) false))))))))):jC 154 [.sv a0 4 e0 c0,.dg 9 I,.j n2] N Q:=
  eE IW h
theorem Pa N I a1 e1 c1(Q:QT [.ag 2,.bool])(h :
Bel N (D.sl a1 2 e1 c1)->Br (jE I (bytes [38])) (yz Q N I a1 e1 c1 2 0 0 none [] 0 N) (Br (jE I (bytes [124])) (yz Q N I a1 e1 c1 2 0 0 none [] 0 N) (Br (jE I (bytes [33]))
 (yz Q N I a1 e1 c1 2 0 0 none [] 0 N) (yz Q N I a1 e1 c1 1 0 0 none [] 0 N)))):jC 206 [.str I,.sv a1 2 e1 c1] N Q:=
  eE Gb h
theorem L0 N I a1 e1 c1(Q:QT [.ag 2,.bool])(h :
Bel N I->Bel N (D.sl a1 2 e1 c1)->∃ n:Int,(I.cell 0)=D.j n/\Br (n==4) (∃ s,(I.cell 1)=D.t s/\kAB 2 206 [.str s,.sv a1 2 e1 c1] N (λx b
 a=>uP a (Q x b))) (Br (n==5) (jL 1 e1/\jL 0 e1/\∃ a:Int,(if 0=0
 then D.cell (e1.getD 0 jD) 0 else D.sub (e1.getD 0 jD) 0 0)=D.j a/\Br (a==2) (jL 1 e1/\jL 2 e1/\kB 199 [.dg 2 (e1.getD 1 jD),.dg 2 (e1.getD 2 jD)] N (λa b=>uP b (Q (e1.getD 1 jD) a))) (uP N (Q (e1.getD 1 jD) false))) (jL 0 e1/\∃ b:Int,(if 0=0 then D.cell (e1.getD 0 jD) 0 else D.sub (e1.getD 0 jD) 0 0)=D.j b/\Br (b==3) (jL 0 e1/\∃ a b,∃ c:Nat,(if 0=0
 then D.cell (e1.getD 0 jD) 1 else D.sub (e1.getD 0 jD) 1 0)=D.sl a 2 b c/\jL 0 b/\jL 1 e1/\kB 199 [.dg 2 (b.getD 0 jD),.dg 2 (e1.getD 1 jD)] N (λa b=>Br a (jL 0 e1/\∃ a c,∃ d:Nat,(if 0=0 then D.cell (e1.getD 0 jD) 1 else D.sub (e1.getD 0 jD) 1 0)=D.sl a 2 c d
 /\ jL 1 c/\kA 2 90 [.dg 2 (c.getD 1 jD)] b (λa b=>uP b (Q a true))) (uP b (Q (D.ag [D.j
 0,jN]) false)))) (uP N (Q (D.ag [D.j 0,jN]) false))))):jC 155 [.dg 9 I,.sv a1 2 e1 c1] N Q:=
  eE KT h
theorem L2 N a0 e0 c0 I n2(Q:QT [.ag 2,.bool])(h :
Bel N (D.sl a0 4 e0 c0)->Bel N I->∃ n:Int,(I.cell 0)=D.j n/\Br (n==1) (∃ s,(I.cell 1)=D.t s/\kI 152 [.sv a0 4 e0 c0,.str s] N (λa b
 => Br (decide (a<0)) (uP b (Q (D.ag [D.j 0,jN]) false)) (jL a e0/\∃ c:Int,(if 0=0 then D.cell (e0.getD a.toNat jD) 3 else D.sub (e0.getD a.toNat jD) 3 0)=D.j c/\Br (bne c n2) (uP b (Q (D.ag [D.j 0,jN]) false)) (jL a e0/\kA 2 90 [.dg 2 (if 2=0 then D.cell (e0.getD a.toNat jD) 1 else D.sub (e0.getD a.toNat jD) 1 2)] b
 (λx a=>uP a (Q x true)))))) (Br (n==2) (kA 2 69 [] N (λa b=>uP b (Q a true))) (Br (n==3) (kA 2 70 [] N (λa b=>uP b (Q a
 true))) (Br (n==6) (kAB 2 153 [.sv a0 4 e0 c0,.dg 9 I,.j n2] N (λa b c=>uP c (Q a b))) (Br (n==8) (kAB 2 153 [.sv a0 4 e0 c0,.dg 9 I,.j
 n2] N (λa b c=>uP c (Q a b))) (Br (n==9) (kAB 2 153 [.sv a0 4 e0 c0,.dg 9 I,.j n2] N (λa b c=>uP c (Q a b))) (Br (n ==
 10) (kAB 2 154 [.sv a0 4 e0 c0,.dg 9 I,.j n2] N (λa b c=>uP c (Q a b))) (Br (n==11) (kAB 2 154 [.sv a0 4 e0 c0,.dg 9 I,.j n2] N (fun
 a b c=>uP c (Q a b))) (Br (n==12) (kAB 2 154 [.sv a0 4 e0 c0,.dg 9 I,.j n2] N (λa b c=>uP c (Q a b))) (Br (n==13) (kAB 2
 154 [.sv a0 4 e0 c0,.dg 9 I,.j n2] N (λa b c=>uP c (Q a b))) (xc Q N a0 e0 c0 n2 0 0 0 I 0 none [] 0 [] 0 N))))))))))):jC 89 [.sv a0 4 e0 c0,.dg 9 I,.j n2] N Q:=
  eE CO h
theorem L4 N a0 e0 c0 I n2(Q:QT [.ag 2,.bool])(h :
Bel N (D.sl a0 4 e0 c0)->Bel N I->kAB 2 89 [.sv a0 4 e0 c0,.dg 9 I,.j n2] N (λx b a=>Br (!b) (uP a (Q (D.ag [D.j 0,jN]) false))
 (kB 49 [.dg 2 x] a (λa b=>Br (!a) (uP b (Q (D.ag [D.j 0,jN]) false)) (uP b (Q x true)))))):jC 43 [.sv a0 4 e0 c0,.dg 9 I,.j n2] N Q:=
  eE KX h
theorem Lm N a0 e0 c0 I n2(Q:QT [.ag 2,.bool])(h :
Bel N (D.sl a0 4 e0 c0)->Bel N I->kB 41 [.sv a0 4 e0 c0] N (λb a=>Br (!b) (uP a (Q (D.ag [D.j 0,jN]) false)) (kB 42 [.dg 9 I,.j
 n2] a (λa b=>Br (!a) (uP b (Q (D.ag [D.j 0,jN]) false)) (kAB 2 43 [.sv a0 4 e0 c0,.dg 9 I,.j n2] b (λx a b=>uP b (Q x
 a))))))):jC 17 [.sv a0 4 e0 c0,.dg 9 I,.j n2] N Q:=
  eE KF h
theorem pR {Q:QT [.bool]}{N0 J I N}(h :
Br (decide (I<(J.size:Int))) ((0<=I/\I<(J.size:Int))/\Br (decide ((UInt8.toNat (Array.getD (ByteArray.data J) I.toNat (OfNat.ofNat 0)) :
 Int)≥97)) ((0<=I/\I<(J.size:Int))/\Br (!(decide ((UInt8.toNat (Array.getD (ByteArray.data J) I.toNat (OfNat.ofNat 0)):Int)<=122))) (Br (I ==
 0) (uP N (Q false)) ((0<=I/\I<(J.size:Int))/\Br (decide ((UInt8.toNat (Array.getD (ByteArray.data J) I.toNat (OfNat.ofNat 0)):Int)<48)) (uP N (Q
 false)) ((0<=I/\I<(J.size:Int))/\Br (decide ((UInt8.toNat (Array.getD (ByteArray.data J) I.toNat (OfNat.ofNat 0)):Int)>57)) (uP N (Q false))
 (xP Q N0 J (jW.wrap (I+1)) N)))) (xP Q N0 J (jW.wrap (I+1)) N)) (Br (I==0) (uP N (Q false)) ((0<=I/\I
 < (J.size:Int))/\Br (decide ((UInt8.toNat (Array.getD (ByteArray.data J) I.toNat (OfNat.ofNat 0)):Int)<48)) (uP N (Q false)) ((0<=I/\I<(J.size
 : Int))/\Br (decide ((UInt8.toNat (Array.getD (ByteArray.data J) I.toNat (OfNat.ofNat 0)):Int)>57)) (uP N (Q false)) (xP Q N0 J
 (jW.wrap (I+1)) N))))) (kB 44 [.j (J.size:Int),.j 1,.j 4] N (λb a=>Br b (Br (!(jE J (bytes [105,
 102]))) (Br (!(jE J (bytes [108,101,116]))) (Br (!(jE J (bytes [114,101,99]))) (Br
 (!(jE J (bytes [114,117,110]))) (∀ b,a<=b->Q (!(jE J (bytes [108,105,102,
 116]))) b) (uP a (Q false))) (uP a (Q false))) (uP a (Q false))) (uP a (Q false))) (uP a (Q false))))):xP Q N0 J I N:=
  hE B8 h
theorem pa {Q:QT [.i]}{N0 n1 I J N}(h :
∃ a b,∃ c:Nat,(J.cell 1)=D.sl a 2 b c/\Br (decide (I<(b.length:Int))) (Br (decide (n1≥0)) (∃ a b,∃ c:Nat,(J.cell 1)=D.sl
 a 2 b c/\jL I b/\kI 97 [.dg 2 (b.getD I.toNat jD),.j n1] N (λn a=>vQ Q N0 n
 (jW.wrap (I+1)) J a)) (uP N (Q n1))) (uP N (Q n1))):vQ Q N0 n1 I J N:=
  hE CG h
theorem u4 {Q:QT [.i]}{N0 J n4 I N}(h :
∃ a b,∃ c:Nat,(I.cell 1)=D.sl a 2 b c/\Br (decide (n4<(b.length:Int))) (∃ a b,∃ c:Nat,(I.cell 1)=D.sl a 2 b c/\jL n4 b/\kI 98 [.dg 2 (b.getD n4.toNat jD)] N (λn a=>kI 150 [.j J,.j n] a (λa b=>xL Q N0
 a (jW.wrap (n4+1)) I b))) (uP N (Q (jW.wrap (J+1))))):xL Q N0 J n4 I N:=
  hE sL h
theorem pZ {Q:QT [.bool]}{N0 J I N}(h :
∃ a d,∃ c:Nat,(I.cell 1)=D.sl a 2 d c/\Br (decide (J<(d.length:Int))) (∃ a c,∃ d:Nat,(I.cell 1)=D.sl a 2 c d/\jL J c/\kB 99 [.dg 2 (c.getD J.toNat jD)] N (λb a=>Br (!b) (uP a (Q false)) (vP Q N0 (jW.wrap
 (J+1)) I a))) (∃ n:Int,(I.cell 0)=D.j n/\Br (n==1) (∃ a b,∃ c:Nat,(I.cell 1)=D.sl a 2 b c/\uP N (Q ((b.length:Int) ==
 0))) (Br (n==2) (∃ a b,∃ c:Nat,(I.cell 1)=D.sl a 2 b c/\uP N (Q ((b.length:Int)==0))) (Br (n==3) (∃ a b,∃ c:Nat,
 (I.cell 1)=D.sl a 2 b c/\uP N (Q ((b.length:Int)==2))) (Br (n==4) (∃ a b,∃ c:Nat,(I.cell 1)=D.sl a 2 b c/\uP N (Q
 ((b.length:Int)==1))) (uP N (Q false))))))):vP Q N0 J I N:=
  hE CF h
theorem BR {Q:QT [.bool]}{N0 a0 e0 c0 I N}(h :
Br (decide (I<(e0.length:Int))) (jL I e0/\∃ s,(if 0=0 then D.cell (e0.getD I.toNat jD) 0 else D.sub
 (e0.getD I.toNat jD) 0 0)=D.t s/\kB 87 [.str s] N (λb a=>Br (!b) (uP a (Q false)) (jL I e0/\kB 49 [.dg 2 (if 2 =
 0 then D.cell (e0.getD I.toNat jD) 1 else D.sub (e0.getD I.toNat jD) 1 2)] a (λa b=>Br (!a) (uP b (Q false)) (jL I e0/\∃ n:Int,(if 0=0 then D.cell (e0.getD I.toNat jD) 3 else D.sub (e0.getD I.toNat jD) 3 0)=D.j n/\kB 44 [.j n,
 .j 0,.j 2] b (λa b=>Br (!a) (uP b (Q false)) (uS Q N0 a0 e0 c0 (jW.wrap (I+1)) b))))))) (∀ a,N<=a->Q (decide
 ((e0.length:Int)<=12)) a)):uS Q N0 a0 e0 c0 I N:=
  hE Eo h
theorem pT {Q:QT [.bool]}{N0 J I N}(h :
∃ a d,∃ c:Nat,(I.cell 8)=D.sl a 9 d c/\Br (decide (J<(d.length:Int))) (∃ a c,∃ d:Nat,(I.cell 8)=D.sl a 9 c d/\jL J c/\kB 51 [.dg 9 (c.getD J.toNat jD)] N (λb a=>Br (!b) (uP a (Q false)) (vL Q N0 (jW.wrap
 (J+1)) I a))) (kB 100 [.dg 9 I] N (λa b=>Br a (∃ a c,∃ d:Nat,(I.cell 8)=D.sl a 9 c d/\kI 101 [.dg 9 I] b (λn a=>uP
 a (Q ((c.length:Int)==n)))) (uP b (Q false))))):vL Q N0 J I N:=
  hE B9 h
theorem Ct {Q:QT [.bool]}{N0 n1 I J N}(h :
∃ a d,∃ c:Nat,(J.cell 8)=D.sl a 9 d c/\Br (decide (I<(d.length:Int))) (∃ a c,∃ d:Nat,(J.cell 8)=D.sl a 9 c d/\jL I c/\kI 151 [.dg 9 J,.j n1] N (λn a=>kB 88 [.dg 9 (c.getD I.toNat jD),.j n] a (λb a=>Br (!b) (uP a (Q
 false)) (tB Q N0 n1 (jW.wrap (I+1)) J a)))) (uP N (Q true))):tB Q N0 n1 I J N:=
  hE GZ h
theorem pv {Q:QT [.i]}{N0 a0 e0 c0 J I N}(h :
Br (decide (I≥0)) (jL I e0/\∃ s,(if 0=0 then D.cell (e0.getD I.toNat jD) 0 else D.sub (e0.getD I.toNat jD) 0 0)=D.t s/\Br (jE s J) (uP N (Q I)) (vb Q N0 a0 e0 c0 J (jW.wrap (I - 1)) N)) (uP N (Q
 (-1)))):vb Q N0 a0 e0 c0 J I N:=
  hE CN h
theorem pY {Q:QT [.ag 2]}{N0 n4 y0 Y aa ab ac J O I U N}(h :
∃ a b,∃ c:Nat,(y0.cell 1)=D.sl a 2 b c/\Br (decide (n4<(b.length:Int))) (∃ a b,∃ c:Nat,(y0.cell 1)=D.sl a 2 b c/\jL n4 b/\kA 2 90 [.dg 2 (b.getD n4.toNat jD)] N (λx a=>Wb O I U [x]/\zB I [x] 32/\∀(b:Nat),
 xn Q N0 (jW.wrap (n4+1)) y0 Y aa ab ac J (I++[x]).length b (I++[x]) b a)) (uP N (Q (D.ag [D.j J,D.sl
 O 2 I U])))):tR Q N0 n4 y0 Y aa ab ac J O I U N:=
  hE rm h
theorem sU {Q:QT [.bool]}{N0 I J O N}(h :
∃ a d,∃ c:Nat,(J.cell 1)=D.sl a 2 d c/\Br (decide (I<(d.length:Int))) (∃ a c,∃ d:Nat,(J.cell 1)=D.sl a 2 c d/\jL I c/\∃ a d,∃ e:Nat,(O.cell 1)=D.sl a 2 d e/\jL I d/\kB 199 [.dg 2 (c.getD I.toNat jD),.dg 2 (d.getD I.toNat jD)] N (λb a=>Br (!b) (uP a (Q false)) (yx Q N0 (jW.wrap (I+1)) J O
 a))) (uP N (Q true))):yx Q N0 I J O N:=
  hE qL h
theorem qb {Q:QT [.sl 4]}{N0 a0 e0 c0 n1 O c5 I r0 J N}(h :
Br (decide (I<(e0.length:Int))) (jL I e0/\kB 140 [.dg 2 (if 2=0 then D.cell (e0.getD I.toNat jD) 1 else D.sub
 (e0.getD I.toNat jD) 1 2)] N (λb a=>Br b (jL I e0/\∃ n:Int,(if 0=0 then D.cell (e0.getD I.toNat jD)
 3 else D.sub (e0.getD I.toNat jD) 3 0)=D.j n/\Br (decide (n<=n1)) (jL I e0/\∃ s,(if 0=0 then D.cell (e0.getD I.toNat jD) 0 else D.sub (e0.getD I.toNat jD) 0 0)=D.t s/\kI 152 [.sv a0 4 e0 c0,.str s] a (λa b=>Br (a==I) (jL I e0/\∃ a,(if 0=0 then D.cell (e0.getD I.toNat jD) 0 else D.sub (e0.getD I.toNat jD) 0 0)=D.t a/\jL I e0/\jL I e0/\∃ d:Int,(if 0=0 then D.cell (e0.getD I.toNat jD) 3 else D.sub (e0.getD I.toNat jD) 3 0)=D.j d/\kA 2 90 [.dg 2 (if 2=0 then D.cell (e0.getD I.toNat jD) 1 else D.sub (e0.getD I.toNat jD) 1 2)] b (λx b
 => (O=r0.length/\c5=J)/\zB r0 [D.ag [D.t a,(x.cell 0),(x.cell 1),D.j d]] 56/\∀(c:Nat),yR Q N0 a0 e0 c0 n1 (r0++[D.ag
 [D.t a,(x.cell 0),(x.cell 1),D.j d]]).length c (jW.wrap (I+1)) (r0++[D.ag [D.t a,(x.cell 0),(x.cell 1),D.j d]]) c b))
 (yR Q N0 a0 e0 c0 n1 O c5 (jW.wrap (I+1)) r0 J b))) (yR Q N0 a0 e0 c0 n1 O c5 (jW.wrap (I+1)) r0 J a))
 (yR Q N0 a0 e0 c0 n1 O c5 (jW.wrap (I+1)) r0 J a))) (w3 (O=r0.length/\c5=J) (∀ a b,N<=b->Fresh N0 b a [D.ag r0]->uP
 b (Q a r0 J)))):yR Q N0 a0 e0 c0 n1 O c5 I r0 J N:=
  hE BG h
theorem Cv {Q:QT [.ag 2,.bool]}{N0 s0 a1 e1 c1 n6 Y I J O U N}(h :
Br (decide (Y<(e1.length:Int))) (jL Y e1/\∃ n:Int,(if 0=0 then D.cell (e1.getD Y.toNat jD) 0 else D.sub
 (e1.getD Y.toNat jD) 0 0)=D.j n/\Br (bne n n6) (uP N (Q (D.ag [D.j 0,jN]) false)) (yz Q N0 s0 a1 e1 c1 n6
 (jW.wrap (Y+1)) I J O U N)) (Br (jE s0 (bytes [43])) (kA 2 69 [] N (λx a=>uP a (Q x true))) (Br
 (jE s0 (bytes [45])) (kA 2 69 [] N (λa b=>uP b (Q a true))) (Br (jE s0 (bytes
 [42])) (kA 2 69 [] N (λa b=>uP b (Q a true))) (kA 2 70 [] N (λa b=>uP b (Q a true))))))):yz Q N0 s0 a1 e1 c1 n6 Y I J O U N:=
  hE Gb h
theorem qg {Q:QT [.ag 2,.bool]}{N0 a0 e0 c0 n2 ab J I y0 O U Y aa r2 q2 N}(h :
∃ a d,∃ c:Nat,(y0.cell 8)=D.sl a 9 d c/\Br (decide (I<(d.length:Int))) (∃ a c,∃ d:Nat,(y0.cell 8)=D.sl a 9 c d/\jL I c/\kAB 2 43 [.sv a0 4 e0 c0,.dg 9 (c.getD I.toNat jD),.j n2] N (λx b a=>Br (!b) (uP a (Q (D.ag [D.j 0,
 jN]) false)) ((ab=r2.length/\J=q2)/\zB r2 [x] 32/\∀(b:Nat),xc Q N0 a0 e0 c0 n2 (r2++[x]).length b
 (jW.wrap (I+1)) y0 O U Y aa (r2++[x]) b a))) ((ab=r2.length/\J=q2)/\∀ a,ApA a r2->Off [a] y0->∀ b,N<=b->xj
 b [a]->ACalls prog 155 [.ag 2,.bool] [.dg 9 y0,.sv a 2 r2 J] b (λc d e=>b<=e->Off [a] c/\(Bel e c->uP e (Q c d))))):xc Q N0 a0 e0 c0 n2 ab J I y0 O U Y aa r2 q2 N:=
  hE CO h
theorem sX {Q:QT [.ag 2]}{N0 n4 y0 U Y aa ab I J O r3 q3 N}(h :
∃ a b,∃ c:Nat,(y0.cell 1)=D.sl a 2 b c/\Br (decide (n4<(b.length:Int))) (∃ a b,∃ c:Nat,(y0.cell 1)=D.sl a 2 b c/\jL n4 b/\kA 2 90 [.dg 2 (b.getD n4.toNat jD)] N (λx a=>(J=r3.length/\O=q3)/\zB r3 [x] 32/\∀(b :
 Nat),xn Q N0 (jW.wrap (n4+1)) y0 U Y aa ab I (r3++[x]).length b (r3++[x]) b a)) (w3 (J=r3.length/\O =
 q3) (∀ a b,N<=b->Fresh N0 b a [D.ag r3]->uP b (Q (D.ag [D.j I,D.sl a 2 r3 q3]))))):xn Q N0 n4 y0 U Y aa ab I J O r3 q3 N:=
  hE rm h
end Go.Proofs.YtlaniepnglheoaaGreatDoor
set_option maxRecDepth 100000
namespace Go.Proofs.YtlaniepnglheoaaGreatDoor
open Go Go.Proofs Go.Proofs.Tryz
def tP:Hint:=⟨[hc 2 [0,1,7,8]],[],[]⟩
def Bu:Hint:=⟨[hc 2 [0,6,7]],[],[]⟩
def rC:Hint:=⟨[hc 3 [3,7,8,9]],[],[(5,hs 5 [ec 2 [14]])]⟩
def sJ:Hint:=⟨[hc 3 [3,7,8,9]],[],[(5,hs 5 [ec 2 [14]])]⟩
def Aw:Hint:=⟨[],[],[(1,[en 0,en 1,eh 2,en 3,en 4,en 5,en 6,en 7,en 8,en 9,en 10,en 11,en 12,en 13,en 14,en 15])]⟩
def Di:Hint:=⟨[],[],[(1,hs 5 [ec 2 [4]])]⟩
def vI:Hint:=⟨[hc 2 [0,1,7,8]],[],[(4,hs 6 [ec 5 [15]])]⟩
def GS:Hint:=⟨[],[],[(1,hs 11 [ec 2 [6]])]⟩
def Bw:Hint:=⟨[],[],[(1,hs 13 [ec 1 [3],ec 5 [7],ec 10 [12]])]⟩
def IN:Hint:=⟨[],[],[(1,hs 17 [ec 7 [9]])]⟩
def wQ:Hint:=⟨[hc 2 [0,1,7,8]],[],[(4,hs 6 [ec 5 [15]])]⟩
def IQ:Hint:=⟨[],[],[(12,hs 9 [ec 6 [34]]),(14,hs 26 [ec 18 [56],ec 23 [61]])]⟩
def vF:Hint:=⟨[hc 4 [1,2,15,16,17]],[],[(7,hs 5 [ec 3 [27,28]])]⟩
def KD:Hint:=⟨[],[],[(1,[en 0,en 1,en 2,en 3,ec 4 [7],en 5]),(14,[en 0,en 1,en 2,en 3,en 4,eh 5,en 6,eh 7]),(16,[en 0,en 1,en 2,en 3,en 4,en 5,en 6,en 7,en 8,eh 9,en 10,eh 11,en 12,eh 13,en 14,eh 15]),(17,hs 38 [ec 1 [54],ec 28 [79,81],ec 35 [86,88]])]⟩
def Dh:Hint:=⟨[],[],[(1,hs 5 [ec 2 [4]])]⟩
def vH:Hint:=⟨[hc 2 [0,1,7,8]],[],[(4,hs 6 [ec 5 [15]])]⟩
def GR:Hint:=⟨[],[],[(1,hs 11 [ec 2 [6]])]⟩
def J9:Hint:=⟨[],[],[(1,hs 3 [ec 1 [3]])]⟩
def B3:Hint:=⟨[hc 4 [1,2,3,15,16,17]],[],[(1,hs 5 [ec 3 [10]]),(6,[en 0,en 1,en 2,en 4,ec 3 [22],ec 5 [21],en 6])]⟩
def GO:Hint:=⟨[],[],[(1,hs 8 [ec 1 [5],ec 5 [8]])]⟩
def Dj:Hint:=⟨[],[],[(1,[en 0,en 1,en 2,en 3,en 4,en 5,en 6,ec 7 [11],eh 8])]⟩
def qx:Hint:=⟨[hc 2 [0,1,5]],[],[]⟩
def tO:Hint:=⟨[hc 3 [2,3,10,11,12]],[],[(5,[en 0,en 1,en 2,ec 3 [18],en 4,eh 5,en 6,eh 7])]⟩
def B4:Hint:=⟨[hc 11 [4,5,6,22,23,24]],[],[(13,hs 4 [ec 2 [28,29]])]⟩
def ME:Hint:=⟨[],[],[(1,[en 0,en 2,ec 1 [5],ec 3 [7],en 4,en 5,eh 6])]⟩
def KE:Hint:=⟨[],[],[(1,hs 5 [ec 1 [3]])]⟩
def KC:Hint:=⟨[],[],[(3,hs 6 [ec 4 [10]])]⟩
def BA:Hint:=⟨[hc 3 [0,1,5,9,10,11] [(5,94,4)]],[],[(5,hs 17 [ec 2 [17]]),(6,[en 0,en 1,en 2,en 3,en 4,en 6,en 7,ec 5 [37],en 8,en 9,eh 10,eh 11])]⟩
def FH:Hint:=⟨[],[],[(3,hs 10 [ec 7 [17]]),(5,hs 3 [ec 1 [24]]),(7,hs 10 [ec 7 [32],ec 8 [35]]),(9,[en 0,en 1,en 3,en 4,en 5,en 6,en 7,eh 2,ec 8 [45],ec 9 [47],eh 10]),(11,hs 9 [ec 6 [55]]),(12,hs 2 [ec 1 [58]]),(13,hs 3 [ec 1 [60]])]⟩
def qy:Hint:=⟨[hc 15 [4,6,7,9,57,58] [(9,32,2)]],[],[(5,[en 0,en 1,en 2,en 3,en 4,en 5,en 6,en 7,en 8,en 9,en 10]),(6,hs 7 [ec 5 [43]]),(22,hs 9 [ec 3 [79,80],ec 7 [83,84]]),(27,[en 0,en 1,en 2,en 3,en 4,en 5,en 6,en 7,en 8,ec 9 [102,103],en 10]),(28,hs 6 [ec 4 [109]]),(31,[en 0,en 1,en 2,en 3,en 4,en 5,en 6,en 7,en 9,en 10,en 11,en 12,en 13,en 15,eh 8,ec 14 [126],eh 16]),(34,hs 5 [ec 3 [134,135]]),(39,[en 0,en 1,en 2,en 3,en 4,en 5,en 6,en 8,en 9,en 10,en 11,en 12,eh 7,ec 13 [156],eh 14]),(41,hs 7 [ec 4 [162,164]]),(42,[en 0,en 1,en 2,en 3,en 4,en 5,en 6,en 7,en 8,en 9,en 10,en 11,en 12,en 14,en 15,en 16,en 17,en 18,en 20,eh 13,ec 19 [183],eh 21]),(43,hs 4 [ec 3 [186,188]]),(46,hs 5 [ec 3 [193]])]⟩
def MF:Hint:=⟨[],[],[(1,hs 6 [ec 3 [9]]),(2,hs 3 [ec 1 [12]])]⟩
def KB:Hint:=⟨[],[],[(1,hs 9 [ec 6 [13]]),(3,hs 6 [ec 3 [20]]),(4,[en 0,en 1,en 2,en 3,eh 4,en 5])]⟩
def yw (Q:QT [.i]) N0 a0 e0 c0 I J O N:=jT 222 2 Q N0 (.sv a0 0 e0 c0::.str I::an 5 (.j J::.j O::an 10 [])) [] N
def xN (Q:QT [.bool]) N0 I J O N:=jT 117 2 Q N0 (.str I::an 5 (.j J::.j O::an 40 [])) [] N
def xY (Q:QT [.i]) N0 I J O U Y n9 N:=jT 126 3 Q N0 (an 3 (.j I::an 3 (.sv J 2 O U::.j Y::.j n9::an 9 []))) [] N
def xI (Q:QT [.i]) N0 I J O U Y n9 N:=jT 127 3 Q N0 (an 3 (.j I::an 3 (.sv J 2 O U::.j Y::.j n9::an 10 []))) [] N
def wG (Q:QT [.i]) N0 a0 e0 c0 I J N:=jT 177 2 Q N0 (.sv a0 4 e0 c0::.str I::an 3 (.j J::an 15 [])) [] N
def uD (Q:QT [.ag 2]) N0 ae ah ai aj ak I J O U Y aa ab ac N:=jT 178 3 Q N0 (an 2 (.pb 0 0 0 0::.pb 1 0 0 0::an 6 (.sv ae 2 ah ai::.j aj::.j ak::an 12 []))) [.var [.j I,.sv J 2 O U],.var [.j Y,.sv aa 2 ab ac]] N
def zR (Q:QT [.ag 2]) N0 Y aa ab ac ae I J O U y1 y2 N:=jT 181 11 Q N0 (an 4 (.pb 0 0 0 0::.pb 1 0 0 0::.pb 2 0 0 0::an 15 (.sv Y 2 aa ab::.j ac::.j ae::an 10 []))) [.var [.j I,.sv J 2 O U],.vd y1 2,.vd y2 2] N
def yQ (Q:QT [.sl 4]) N0 a0 e0 c0 n1 O c5 a9 U c9 I J r0 Y N:=jT 227 3 Q N0 (.sv a0 4 e0 c0::.j n1::an 3 (.sb 0 4 0 O c5::an 3 (.sv a9 4 U c9::.j I::.j J::an 34 []))) [.arr 94 4 r0 Y] N
def yv (Q:QT [.ag 2]) N0 m9 c9 ae ah y0 I J O U Y aa ab ac r4 q4 N:=jT 120 15 Q N0 (an 4 (.pb 0 0 0 0::an 1 (.pb 1 0 0 0::.fn 176 [.pb 2 0 0 0,.pb 0 0 0 0,.pb 3 0 0 0]::an 1 (.sb 4 2 0 m9 c9::an 47 (.j ae::.j ah::an 137 []))))) [.vd y0 9,.var [.j I,.sv J 2 O U],.var [.sv Y 4 aa ab],.var [.j ac],.arr 32 2 r4 q4] N
def zY (Q:QT [.bool]) N0 a1 e1 c1 I J O U Y N:=jT 223 4 Q N0 (an 1 (.sv a1 2 e1 c1::.fn 182 []::an 12 (.sv I 2 J O::.j U::.j Y::an 14 []))) [] N
def vK (Q:QT [.bool]) N0 n1 I J O U Y y0 N:=jT 118 4 Q N0 (an 1 (.j n1::.fn 119 []::.pb 0 0 0 0::an 11 (.sv I 9 J O::.j U::.j Y::an 11 []))) [.vd y0 9] N
def xK (Q:QT [.ag 2]) N0 ac ae ah ai aj I J O U Y aa ab r2 q2 N:=jT 178 3 Q N0 (an 2 (.pb 0 0 0 0::.pb 1 0 0 0::an 6 (.sv ac 2 ae ah::.j ai::.j aj::an 12 []))) [.var [.j I,.sv J 2 O U],.var [.j Y,.sb 2 2 0 aa ab],.arr 32 2 r2 q2] N
def zj (Q:QT [.i]) N0 a0 e0 c0 I J N:=jT 173 2 Q N0 (.sv a0 4 e0 c0::.fn 116 []::an 5 (.j I::.j J::an 10 [])) [] N
def yG (Q:QT [.i]) N0 a0 e0 c0 I J O N:=jT 234 2 Q N0 (.sv a0 2 e0 c0::.fn 193 [.pd I 0 (.fn 129 [])]::an 5 (.j J::.j O::an 10 [])) [] N
def yF (Q:QT [.i]) N0 a0 e0 c0 I J O N:=jT 235 2 Q N0 (.sv a0 9 e0 c0::.fn 195 [.pd I 0 (.fn 131 [])]::an 5 (.j J::.j O::an 10 [])) [] N
theorem Lg N n0 n1 n2(Q:QT [.bool])(h :
Br (decide (n1<=n0)) (uP N (Q (decide (n0<=n2)))) (uP N (Q false))):jC 39 [.j n0,.j n1,.j n2] N Q:=
 eE H0 h
theorem Bo N a0 e0 c0 I(Q:QT [.i])(h :
Bel N (D.sl a0 0 e0 c0)->yw Q N a0 e0 c0 I (e0.length:Int) 0 N):jC 222 [.sv a0 0 e0 c0,.str I] N Q:=
 eE tP h
theorem qu N a0 e0 c0 I(Q:QT [.bool])(h :
Bel N (D.sl a0 0 e0 c0)->kI 222 [.sv a0 0 e0 c0,.str I] N (λn a=>uP a (Q (decide (n≥0))))):jC 174 [.sv a0 0 e0 c0,.str I] N Q:=
 eE H0 h
theorem LU N I(Q:QT [.bool])(h :
xN Q N I (I.size:Int) 0 N):jC 117 [.str I] N Q:=
 eE Bu h
theorem Ea N I(Q:QT [.i])(h :
Bel N I->∃ a b,∃ c:Nat,(I.cell 1)=D.sl a 2 b c/\xY Q N 1 a b c (b.length:Int) 0 N):jC 126 [.dg 2 I] N Q:=
 eE rC h
theorem DE N I(Q:QT [.i])(h :
Bel N I->∃ a b,∃ c:Nat,(I.cell 1)=D.sl a 2 b c/\xI Q N 0 a b c (b.length:Int) 0 N):jC 127 [.dg 2 I] N Q:=
 eE sJ h
theorem A2 N I(Q:QT [.bool])(h :
Bel N I->∃ n:Int,(I.cell 0)=D.j n/\kB 39 [.j n,.j 1,.j 4] N (λb d=>Br b (∃ a b,∃ c:Nat,(I.cell 1)=D.sl a 2 b c/\∃ a:Int,
 (I.cell 0)=D.j a/\(0<=jW.wrap (a - 1)/\jW.wrap (a - 1)<4/\(0+(jW.wrap (a - 1)).toNat:Nat)<4)/\(0 +
 (jW.wrap (a - 1)).toNat:Nat)<4/\∃ c:Int,List.getD [D.j 0,D.j 0,D.j 2,D.j 1] (0+(jW.wrap (a - 1)).toNat:Nat) default=D.j
 c/\uP d (Q ((b.length:Int)==c))) (uP d (Q false)))):jC 129 [.dg 2 I] N Q:=
  eE Aw h
theorem DI N I(Q:QT [.bool])(h :
Bel N I->kI 126 [.dg 2 I] N (λn a=>Br (decide (n<=30)) (kI 127 [.dg 2 I] a (λa c=>Br (decide (a<=8)) (kB 128 [.dg 2 I,.fn 129 []]
 c (λb a=>uP a (Q b))) (uP c (Q false)))) (uP a (Q false)))):jC 62 [.dg 2 I] N Q:=
  eE Bw h
theorem Iy N I(Q:QT [.bool])(h :
Bel N I->∃ s,(I.cell 0)=D.t s/\kB 117 [.str s] N (λb a=>Br (!b) (uP a (Q true)) (kB 62 [.dg 2 (D.sub I 1 2)] a (λa b=>Br (!a) (uP
 b (Q true)) (∃ n:Int,(I.cell 3)=D.j n/\kB 39 [.j n,.j 0,.j 2] b (λa b=>uP b (Q (!a)))))))):jC 116 [.dg 4 I] N Q:=
  eE IN h
theorem Nh N a0 e0 c0(Q:QT [.bool])(h :
Bel N (D.sl a0 4 e0 c0)->Br (decide ((e0.length:Int)<=12)) (kB 115 [.sv a0 4 e0 c0,.fn 116 []] N (λb a=>uP a (Q (!b)))) (uP N (Q false))):jC 56 [.sv a0 4 e0 c0] N Q:=
 eE H0 h
theorem Iz N I(Q:QT [.i])(h :
Br (jE I (bytes [43])) (uP N (Q 2)) (Br (jE I (bytes [45])) (uP N (Q 2)) (Br
 (jE I (bytes [42])) (uP N (Q 2)) (Br (jE I (bytes [61])) (uP N (Q 2)) (Br
 (jE I (bytes [60])) (uP N (Q 2)) (Br (jE I (bytes [38])) (uP N (Q 2)) (Br
 (jE I (bytes [124])) (uP N (Q 2)) (Br (jE I (bytes [33])) (uP N (Q 1)) (uP N (Q
 0)))))))))):jC 214 [.str I] N Q:=
  eE H0 h
theorem Nj N I(Q:QT [.i])(h :
Bel N I->∃ n:Int,(I.cell 0)=D.j n/\Br (n==4) (∃ s,(I.cell 1)=D.t s/\kI 214 [.str s] N (λa b=>uP b (Q a))) (Br (n==5) (uP N (Q
 3)) (Br (n==7) (uP N (Q 2)) (Br (n==8) (uP N (Q 2)) (Br (n==6) (uP N (Q 1)) (Br (n==9) (uP N (Q 1)) (Br (n==10) (uP N (Q 1)) (Br (n==11) (uP N (Q
 1)) (Br (n==12) (uP N (Q 1)) (Br (n==13) (uP N (Q 1)) (uP N (Q 0)))))))))))):jC 165 [.dg 9 I] N Q:=
  eE H0 h
theorem H9 N n0(Q:QT [.bool])(h :
kB 39 [.j n0,.j 0,.j 10006] N (λb a=>uP a (Q b))):jC 236 [.j n0] N Q:=
 eE H0 h
theorem I3 N I(Q:QT [.bool])(h :
Bel N I->∃ n:Int,(I.cell 0)=D.j n/\Br (n==1) (∃ s,(I.cell 1)=D.t s/\kB 117 [.str s] N (λb a=>uP a (Q b))) (Br (n==8) (∃ a,
 (I.cell 1)=D.t a/\kB 117 [.str a] N (λa b=>uP b (Q a))) (Br (n==2) (∃ a:Int,(I.cell 3)=D.j a/\kB 236 [.j a] N (λa b=>
 uP b (Q a))) (Br (n==3) (∃ a:Int,(I.cell 3)=D.j a/\kB 39 [.j a,.j 0,.j 1] N (λa b=>uP b (Q a))) (Br (n==4) (∃ a,(I.cell
 1)=D.t a/\kI 214 [.str a] N (λa b=>uP b (Q (decide (a>0))))) (Br (n==6) (∃ a,(I.cell 1)=D.t a/\kB 117 [.str a] N (λa b
 => Br a (kB 62 [.dg 2 (D.sub I 4 2)] b (λa b=>uP b (Q a))) (uP b (Q false)))) (Br (n==9) (∃ a,(I.cell 1)=D.t a/\kB 117 [.str a]
 N (λa b=>Br a (∃ a,(I.cell 2)=D.t a/\kB 117 [.str a] b (λa b=>Br a (∃ a,(I.cell 1)=D.t a/\∃ c,(I.cell 2)=D.t
 c/\Br (!(jE a c)) (kB 62 [.dg 2 (D.sub I 4 2)] b (λa b=>Br a (kB 62 [.dg 2 (D.sub I 6 2)] b (λa
 b=>uP b (Q a))) (uP b (Q false)))) (uP b (Q false))) (uP b (Q false)))) (uP b (Q false)))) (∃ a:Int,(I.cell 0)=D.j a/\kB 39 [.j a,
 .j 1,.j 13] N (λa b=>uP b (Q a)))))))))):jC 196 [.dg 9 I] N Q:=
  eE IQ h
theorem FX N I J(Q:QT [.bool])(h :
Bel N I->Bel N J->∃ n:Int,(I.cell 0)=D.j n/\∃ d:Int,(J.cell 0)=D.j d/\Br (n==d) (∃ a d,∃ c:Nat,(I.cell 1)=D.sl a 2 d c /\
 ∃ e f,∃ g:Nat,(J.cell 1)=D.sl e 2 f g/\kB 223 [.sv a 2 d c,.sv e 2 f g,.fn 182 []] N (λb a=>uP a (Q b))) (uP N (Q
 false))):jC 182 [.dg 2 I,.dg 2 J] N Q:=
  eE H0 h
theorem La N I(Q:QT [.bool])(h :
Bel N I->∃ a d,∃ c:Nat,(I.cell 8)=D.sl a 9 d c/\kI 165 [.dg 9 I] N (λn a=>Br (bne (d.length:Int) n) (uP a (Q false)) (∃ c:Int,
 (I.cell 0)=D.j c/\∃ c:Int,(I.cell 0)=D.j c/\Br (c==1) (∃ s,(I.cell 1)=D.t s/\kB 196 [.dg 9 I] a (λb a=>Br b (∃ b,(I.cell
 1)=D.t b/\Br (jE b s) (∃ b,(I.cell 2)=D.t b/\Br (jE b b0) (∃ b:Int,
 (I.cell 3)=D.j b/\Br (b==0) (kB 182 [.dg 2 (D.sub I 4 2),.dg 2 (D.ag [D.j 0,jN])] a (λa b=>Br a (kB 182 [.dg 2 (D.sub I 6
 2),.dg 2 (D.ag [D.j 0,jN])] b (λa b=>uP b (Q a))) (uP b (Q false)))) (uP a (Q false))) (uP a (Q false))) (uP a (Q false))) (uP
 a (Q false)))) (Br (c==8) (∃ b,(I.cell 1)=D.t b/\kB 196 [.dg 9 I] a (λa c=>Br a (∃ a,(I.cell 1)=D.t a/\Br (jE a b) (∃ a,(I.cell 2)=D.t a/\Br (jE a b0) (∃ a:Int,(I.cell 3)=D.j a/\Br (a ==
 0) (kB 182 [.dg 2 (D.sub I 4 2),.dg 2 (D.ag [D.j 0,jN])] c (λa b=>Br a (kB 182 [.dg 2 (D.sub I 6 2),.dg 2 (D.ag [D.j 0,D.sl
 none 2 [] 0])] b (λa b=>uP b (Q a))) (uP b (Q false)))) (uP c (Q false))) (uP c (Q false))) (uP c (Q false))) (uP c (Q false)))) (Br
 (c==2) (∃ b:Int,(I.cell 3)=D.j b/\kB 196 [.dg 9 I] a (λa c=>Br a (∃ a,(I.cell 1)=D.t a/\Br (jE a b0) (∃ a,(I.cell 2)=D.t a/\Br (jE a b0) (∃ a:Int,(I.cell 3)=D.j a/\Br (a==b) (kB
 182 [.dg 2 (D.sub I 4 2),.dg 2 (D.ag [D.j 0,jN])] c (λa b=>Br a (kB 182 [.dg 2 (D.sub I 6 2),.dg 2 (D.ag [D.j 0,D.sl none 2 []
 0])] b (λa b=>uP b (Q a))) (uP b (Q false)))) (uP c (Q false))) (uP c (Q false))) (uP c (Q false))) (uP c (Q false)))) (Br (c==3)
 (∃ b:Int,(I.cell 3)=D.j b/\kB 196 [.dg 9 I] a (λa c=>Br a (∃ a,(I.cell 1)=D.t a/\Br (jE a b0) (∃ a,(I.cell 2)=D.t a/\Br (jE a b0) (∃ a:Int,(I.cell 3)=D.j a/\Br (a==b) (kB 182 [.dg 2 (D.sub
 I 4 2),.dg 2 (D.ag [D.j 0,jN])] c (λa b=>Br a (kB 182 [.dg 2 (D.sub I 6 2),.dg 2 (D.ag [D.j 0,jN])] b (fun
 a b=>uP b (Q a))) (uP b (Q false)))) (uP c (Q false))) (uP c (Q false))) (uP c (Q false))) (uP c (Q false)))) (Br (c==4) (∃ b,
 (I.cell 1)=D.t b/\kB 196 [.dg 9 I] a (λa c=>Br a (∃ a,(I.cell 1)=D.t a/\Br (jE a b) (∃
 a,(I.cell 2)=D.t a/\Br (jE a b0) (∃ a:Int,(I.cell 3)=D.j a/\Br (a==0) (kB 182 [.dg 2 (D.sub I 4
 2),.dg 2 (D.ag [D.j 0,jN])] c (λa b=>Br a (kB 182 [.dg 2 (D.sub I 6 2),.dg 2 (D.ag [D.j 0,jN])] b (λa
 b=>uP b (Q a))) (uP b (Q false)))) (uP c (Q false))) (uP c (Q false))) (uP c (Q false))) (uP c (Q false)))) (Br (c==6) (∃ b,(I.cell
 1)=D.t b/\kB 196 [.dg 9 I] a (λa c=>Br a (∃ a,(I.cell 1)=D.t a/\Br (jE a b) (∃ a,
 (I.cell 2)=D.t a/\Br (jE a b0) (∃ a:Int,(I.cell 3)=D.j a/\Br (a==0) (kB 182 [.dg 2 (D.sub I 4 2),
 .dg 2 (D.ag [D.cell (D.sub I 4 2) 0,D.cell (D.sub I 4 2) 1])] c (λa b=>Br a (kB 182 [.dg 2 (D.sub I 6 2),.dg 2 (D.ag [D.j 0,D.sl none 2 []
 0])] b (λa b=>uP b (Q a))) (uP b (Q false)))) (uP c (Q false))) (uP c (Q false))) (uP c (Q false))) (uP c (Q false)))) (Br (c==9)
 (∃ b,(I.cell 1)=D.t b/\∃ c,(I.cell 2)=D.t c/\kB 196 [.dg 9 I] a (λa d=>Br a (∃ a,(I.cell 1)=D.t a/\Br
 (jE a b) (∃ a,(I.cell 2)=D.t a/\Br (jE a c) (∃ a:Int,(I.cell
 3)=D.j a/\Br (a==0) (kB 182 [.dg 2 (D.sub I 4 2),.dg 2 (D.ag [D.cell (D.sub I 4 2) 0,D.cell (D.sub I 4 2) 1])] d (λa b=>Br a (kB
 182 [.dg 2 (D.sub I 6 2),.dg 2 (D.ag [D.cell (D.sub I 6 2) 0,D.cell (D.sub I 6 2) 1])] b (λa b=>uP b (Q a))) (uP b (Q false)))) (uP d
 (Q false))) (uP d (Q false))) (uP d (Q false))) (uP d (Q false)))) (kB 196 [.dg 9 I] a (λa b=>Br a (∃ a,(I.cell 1)=D.t a/\Br
 (jE a b0) (∃ a,(I.cell 2)=D.t a/\Br (jE a b0) (∃ a:Int,(I.cell 3) =
 D.j a/\Br (a==0) (kB 182 [.dg 2 (D.sub I 4 2),.dg 2 (D.ag [D.j 0,jN])] b (λa b=>Br a (kB 182 [.dg 2 (D.sub I 6 2),.dg
 2 (D.ag [D.j 0,jN])] b (λa b=>uP b (Q a))) (uP b (Q false)))) (uP b (Q false))) (uP b (Q false))) (uP b (Q false))) (uP
 b (Q false))))))))))))):jC 131 [.dg 9 I] N Q:=
  eE KD h
theorem LV N I(Q:QT [.bool])(h :
Bel N I->kB 130 [.dg 9 I,.fn 131 []] N (λb a=>uP a (Q b))):jC 64 [.dg 9 I] N Q:=
 eE J9 h
theorem EY N I n1(Q:QT [.bool])(h :
Bel N I->kB 39 [.j n1,.j 0,.j 2] N (λb a=>uP a (Q b))):jC 119 [.dg 9 I,.j n1] N Q:=
 eE H0 h
theorem qi N I n1(Q:QT [.i])(h :
Bel N I->∃ n:Int,(I.cell 0)=D.j n/\Br (n==10) (uP N (Q (jW.wrap (n1+1)))) (Br (n==11) (uP N (Q (jW.wrap (n1 - 1)))) (uP N
 (Q n1)))):jC 175 [.dg 9 I,.j n1] N Q:=
  eE H0 h
theorem H3 N I n1(Q:QT [.bool])(h :
Bel N I->kB 64 [.dg 9 I] N (λb a=>Br b (kB 118 [.dg 9 I,.j n1,.fn 119 []] a (λa b=>uP b (Q a))) (uP a (Q false)))):jC 57 [.dg 9 I,.j n1] N Q:=
 eE GO h
theorem H7 N a0 e0 c0 I(Q:QT [.i])(h :
Bel N (D.sl a0 4 e0 c0)->wG Q N a0 e0 c0 I (jW.wrap ((e0.length:Int) - 1)) N):jC 177 [.sv a0 4 e0 c0,.str I] N Q:=
 eE qx h
theorem H6 N I(Q:QT [.ag 2])(h :
Bel N I->∃ n:Int,(I.cell 0)=D.j n/\∃ a b,∃ c:Nat,(I.cell 1)=D.sl a 2 b c/\uD Q N a b c (b.length:Int) 0 0 none [] 0 n
 none [] 0 N):jC 178 [.dg 2 I] N Q:=
  eE tO h
theorem Nn N(Q:QT [.ag 2])(h :
uP N (Q (D.ag [D.j 1,jN]))):jC 179 [] N Q:=
 eE H0 h
theorem Ld N(Q:QT [.ag 2])(h :
uP N (Q (D.ag [D.j 2,jN]))):jC 180 [] N Q:=
 eE H0 h
theorem Lb N I a1 e1 c1(Q:QT [.ag 2])(h :
Bel N (D.sl a1 2 e1 c1)->kA 2 179 [] N (λx a=>kA 2 179 [] a (λa b=>Br (jE I (bytes [61])) (kA 2 180 []
 b (λa b=>zR Q N a1 e1 c1 (e1.length:Int) 0 0 none [] 0 x a b)) (Br (jE I (bytes [60])) (kA 2 180
 [] b (λa b=>zR Q N a1 e1 c1 (e1.length:Int) 0 0 none [] 0 x a b)) (Br (jE I (bytes [38])) (kA 2
 180 [] b (λa b=>kA 2 180 [] b (λb c=>zR Q N a1 e1 c1 (e1.length:Int) 0 0 none [] 0 a b c))) (Br (jE I (bytes [124])) (kA 2 180 [] b (λa b=>kA 2 180 [] b (λb c=>zR Q N a1 e1 c1 (e1.length:Int) 0 0 none [] 0
 a b c))) (Br (jE I (bytes [33])) (kA 2 180 [] b (λa b=>kA 2 180 [] b (λb c=>zR Q N
 a1 e1 c1 (e1.length:Int) 0 0 none [] 0 a b c))) (zR Q N a1 e1 c1 (e1.length:Int) 0 0 none [] 0 x a b)))))))):jC 181 [.str I,.sv a1 2 e1 c1] N Q:=
  eE B4 h
theorem AM N a0 e0 c0(Q:QT [.row 94 4])(h :
Bel N (D.sl a0 4 e0 c0)->Br (Option.isNone a0) (uP N (Q [] 0)) ((0=0/\0=0)/\zB [] e0 56/\∀(c:Nat),(([]++e0).length=([]++e0).length /\
 c=c)/\uP N (Q ([]++e0) c))):jC 224 [.sv a0 4 e0 c0] N Q:=
  eE H0 h
theorem PU N a0 e0 c0 a1 e1 c1(Q:QT [.sl 4])(h :
Bel N (D.sl a0 4 e0 c0)->Bel N (D.sl a1 4 e1 c1)->∀ b,N<=b->ACalls prog 224 [.row 94 4] [.sv a0 4 e0 c0] b (λc d e=>b<=e->Bel e (D.ag
 c)->(c.length=c.length/\d=d)/\zB c e1 56/\∀(b:Nat),w2 ((c++e1).length=(c++e1).length/\b=b) (∀ a d,e<=d->Fresh N d a
 [D.ag (c++e1)]->uP d (Q a (c++e1) b)))):jC 183 [.sv a0 4 e0 c0,.sv a1 4 e1 c1] N Q:=
  eE H0 h
theorem Nm N I J(Q:QT [.ag 2])(h :
Bel N I->Bel N J->kA 2 178 [.dg 2 I] N (λx b=>kA 2 178 [.dg 2 J] b (λb c=>w3 (2=([x,b]).length/\2=2) (∀ a d,c<=d->Fresh
 N d a [D.ag [x,b]]->uP d (Q (D.ag [D.j 3,D.sl a 2 [x,b] 2])))))):jC 184 [.dg 2 I,.dg 2 J] N Q:=
  eE ME h
theorem Le N I(Q:QT [.ag 2])(h :
Bel N I->kA 2 178 [.dg 2 I] N (λx b=>w3 (1=([x]).length/\1=1) (∀ a c,b<=c->Fresh N c a [D.ag [x]]->uP c (Q (D.ag [D.j 4,D.sl a 2
 [x] 1]))))):jC 225 [.dg 2 I] N Q:=
  eE KE h
theorem LZ N I(Q:QT [.ag 2])(h :
Bel N I->∃ n:Int,(I.cell 0)=D.j n/\Br (bne n 4) (uP N (Q (D.ag [D.j 0,jN]))) (∃ a b,∃ c:Nat,(I.cell 1)=D.sl a 2 b c/\jL 0 b/\kA 2 178 [.dg 2 (b.getD 0 jD)] N (λx a=>uP a (Q x)))):jC 226 [.dg 2 I] N Q:=
 eE KC h
theorem LT N I(Q:QT [.bool])(h :
Bel N I->∃ n:Int,(I.cell 0)=D.j n/\kB 39 [.j n,.j 1,.j 2] N (λb d=>Br b (∃ a b,∃ c:Nat,(I.cell 1)=D.sl a 2 b c/\uP d (Q
 ((b.length:Int)==0))) (uP d (Q false)))):jC 228 [.dg 2 I] N Q:=
  eE H0 h
theorem I2 N a0 e0 c0 n1(Q:QT [.sl 4])(h :
Bel N (D.sl a0 4 e0 c0)->yQ Q N a0 e0 c0 n1 0 0 a0 e0 c0 (e0.length:Int) 0 [] 0 N):jC 227 [.sv a0 4 e0 c0,.j n1] N Q:=
 eE BA h
theorem Fj N a0 e0 c0 I n2(Q:QT [.ag 2])(h :
Bel N (D.sl a0 4 e0 c0)->Bel N I->∃ n:Int,(I.cell 0)=D.j n/\Br (n==10) (∃ a b,∃ c:Nat,(I.cell 8)=D.sl a 9 b c/\jL 0 b/\kA 2 58 [.sv a0 4 e0 c0,.dg 9 (b.getD 0 jD),.j (jW.wrap (n2+1))] N (λx a=>∃ b:Int,(x.cell 0)=D.j
 b/\Br (bne b 0) (kA 2 225 [.dg 2 x] a (λa b=>uP b (Q a))) (uP a (Q (D.ag [D.j 0,jN]))))) (Br (n==11) (∃ a b,∃ c :
 Nat,(I.cell 8)=D.sl a 9 b c/\jL 0 b/\kA 2 58 [.sv a0 4 e0 c0,.dg 9 (b.getD 0 jD),.j
 (jW.wrap (n2 - 1))] N (λa b=>kA 2 226 [.dg 2 a] b (λa b=>uP b (Q a)))) (Br (n==12) (∃ a b,∃ c:Nat,(I.cell 8) =
 D.sl a 9 b c/\jL 0 b/\kL 4 227 [.sv a0 4 e0 c0,.j n2] N (λa c d e=>kA 2 58 [.sv a 4 c
 d,.dg 9 (b.getD 0 jD),.j n2] e (λa b=>kA 2 226 [.dg 2 a] b (λa b=>uP b (Q a))))) (Br (n==13) (∃ a c,∃ d :
 Nat,(I.cell 8)=D.sl a 9 c d/\jL 0 c/\kA 2 58 [.sv a0 4 e0 c0,.dg 9 (c.getD 0 jD),.j n2] N
 (λa c=>kB 228 [.dg 2 a] c (λb c=>Br b (kA 2 225 [.dg 2 a] c (λa b=>uP b (Q a))) (uP c (Q (D.ag [D.j 0,D.sl none 2 []
 0])))))) (uP N (Q (D.ag [D.j 0,jN]))))))):jC 185 [.sv a0 4 e0 c0,.dg 9 I,.j n2] N Q:=
  eE FH h
theorem zZ N a0 e0 c0 I n2(Q:QT [.ag 2])(h :
Bel N (D.sl a0 4 e0 c0)->Bel N I->∃ n:Int,(I.cell 0)=D.j n/\Br (n==1) (∃ s,(I.cell 1)=D.t s/\kI 177 [.sv a0 4 e0 c0,.str s] N (λa b
 => Br (decide (a≥0)) (jL a e0/\∃ c:Int,(if 0=0 then D.cell (e0.getD a.toNat jD) 3 else D.sub (e0.getD a.toNat jD) 3 0)=D.j c/\Br (c==n2) (jL a e0/\kA 2 178 [.dg 2 (if 2=0 then D.cell (e0.getD a.toNat jD)
 1 else D.sub (e0.getD a.toNat jD) 1 2)] b (λx a=>uP a (Q x))) (uP b (Q (D.ag [D.j 0,jN])))) (uP b (Q (D.ag [D.j 0,D.sl
 none 2 [] 0]))))) (Br (n==2) (kA 2 179 [] N (λa b=>uP b (Q a))) (Br (n==3) (kA 2 180 [] N (λa b=>uP b (Q a))) (Br (n==4) (∃ a b,
 ∃ c:Nat,(I.cell 8)=D.sl a 9 b c/\yv Q N 0 0 (b.length:Int) 0 I 0 none [] 0 a0 e0 c0 n2 [] 0 N) (Br (n==5) (∀ a,ApA (Option.some
 a) [D.sl a0 4 e0 c0]->∀ c,ApA (Option.some c) [I]->∀ d,ApA (Option.some d) [D.j n2]->∀ e,N<=e->xj e [Option.some a,Option.some
 c,Option.some d]->ACalls prog 176 [.ag 2] [.j 1,.pd a 0 (D.sl a0 4 e0 c0),.pd c 9 I,.pd d 0 (D.j n2)] e (λf g=>e<=g->Off
 [Option.some a,Option.some c,Option.some d] f/\(Bel g f->∀ a,ApA (Option.some a) [D.sl a0 4 e0 c0]->∀ c,ApA (Option.some c) [I]
 -> ∀ d,ApA (Option.some d) [D.j n2]->∀ e,g<=e->xj e [Option.some a,Option.some c,Option.some d]->ACalls prog 176 [.ag 2] [.j 2,
 .pd a 0 (D.sl a0 4 e0 c0),.pd c 9 I,.pd d 0 (D.j n2)] e (λg h=>e<=h->Off [Option.some a,Option.some c,Option.some d] g
 /\ (Bel h g->∀ a,ApA (Option.some a) [D.sl a0 4 e0 c0]->∀ c,ApA (Option.some c) [I]->∀ d,ApA (Option.some d) [D.j n2]->∀ e,h <=
 e->xj e [Option.some a,Option.some c,Option.some d]->ACalls prog 176 [.ag 2] [.j 0,.pd a 0 (D.sl a0 4 e0 c0),.pd c 9 I,.pd d 0
 (D.j n2)] e (λh i=>e<=i->Off [Option.some a,Option.some c,Option.some d] h/\(Bel i h->kA 2 180 [] i (λa c=>kB 182
 [.dg 2 h,.dg 2 a] c (λb a=>Br b (kB 182 [.dg 2 f,.dg 2 g] a (λa b=>Br a (uP b (Q f)) (uP b (Q (D.ag [D.j 0,D.sl none 2 []
 0]))))) (uP a (Q (D.ag [D.j 0,jN])))))))))))) (Br (n==7) (∀ a,ApA (Option.some a) [D.sl a0 4 e0 c0]->∀ b,ApA (Option.some b)
 [I]->∀ c,ApA (Option.some c) [D.j n2]->∀ d,N<=d->xj d [Option.some a,Option.some b,Option.some c]->ACalls prog 176 [.ag 2]
 [.j 0,.pd a 0 (D.sl a0 4 e0 c0),.pd b 9 I,.pd c 0 (D.j n2)] d (λe f=>d<=f->Off [Option.some a,Option.some b,Option.some
 c] e/\(Bel f e->∀ a,ApA (Option.some a) [D.sl a0 4 e0 c0]->∀ b,ApA (Option.some b) [I]->∀ c,ApA (Option.some c) [D.j
 n2]->∀ d,f<=d->xj d [Option.some a,Option.some b,Option.some c]->ACalls prog 176 [.ag 2] [.j 1,.pd a 0 (D.sl a0 4 e0 c0),.pd
 b 9 I,.pd c 0 (D.j n2)] d (λf g=>d<=g->Off [Option.some a,Option.some b,Option.some c] f/\(Bel g f->∃ a :
 Int,(e.cell 0)=D.j a/\Br (a==3) (∃ a b,∃ c:Nat,(e.cell 1)=D.sl a 2 b c/\jL 0 b /\
 kB 182 [.dg 2 (b.getD 0 jD),.dg 2 f] g (λa b=>Br a (∃ a c,∃ d:Nat,(e.cell 1)=D.sl a 2 c d/\jL 1 c/\kA 2 178 [.dg 2 (c.getD 1 jD)] b (λa b=>uP b (Q a))) (uP b (Q (D.ag [D.j 0,D.sl none 2 []
 0]))))) (uP g (Q (D.ag [D.j 0,jN])))))))) (Br (n==6) (∃ a,(I.cell 1)=D.t a/\∃ b c,∃ d:Nat,(I.cell 8)=D.sl b 9 c
 d/\jL 0 c/\(1=([D.ag [D.t a,D.cell (D.sub I 4 2) 0,D.cell (D.sub I 4 2) 1,D.j n2]]).length/\1=1)/\∀
 b,ApA b [D.ag [D.t a,D.cell (D.sub I 4 2) 0,D.cell (D.sub I 4 2) 1,D.j n2]]->Off [b] (D.sl a0 4 e0 c0)->∀ d,N<=d->xj d [b]->ACalls
 prog 183 [.sl 4] [.sv a0 4 e0 c0,.sv b 4 [D.ag [D.t a,D.cell (D.sub I 4 2) 0,D.cell (D.sub I 4 2) 1,D.j n2]] 1] d (λa e f g=>d<=g
 -> Off [b] (D.sl a 4 e f)/\(Bel g (D.sl a 4 e f)->kA 2 58 [.sv a 4 e f,.dg 9 (c.getD 0 jD),.j n2] g (λa b=>
 ∃ c:Int,(a.cell 0)=D.j c/\Br (c==0) (uP b (Q (D.ag [D.j 0,jN]))) (kA 2 184 [.dg 2 (D.sub I 4 2),.dg 2 a] b (λa
 b=>uP b (Q a))))))) (Br (n==8) (∀ a,ApA (Option.some a) [D.sl a0 4 e0 c0]->∀ b,ApA (Option.some b) [I]->∀ c,ApA
 (Option.some c) [D.j n2]->∀ d,N<=d->xj d [Option.some a,Option.some b,Option.some c]->ACalls prog 176 [.ag 2] [.j 0,.pd a 0
 (D.sl a0 4 e0 c0),.pd b 9 I,.pd c 0 (D.j n2)] d (λe f=>d<=f->Off [Option.some a,Option.some b,Option.some c] e /\
 (Bel f e->∃ a:Int,(e.cell 0)=D.j a/\Br (a==0) (uP f (Q (D.ag [D.j 0,jN]))) (∃ a,(I.cell 1)=D.t a/\∃ b c,∃
 d:Nat,(I.cell 8)=D.sl b 9 c d/\jL 1 c/\(1=([D.ag [D.t a,(e.cell 0),(e.cell 1),D.j
 n2]]).length/\1=1)/\∀ b,ApA b [D.ag [D.t a,(e.cell 0),(e.cell 1),D.j n2]]->Off [b] (D.sl a0 4 e0 c0)->∀ d,f<=d->xj d [b]
 -> ACalls prog 183 [.sl 4] [.sv a0 4 e0 c0,.sv b 4 [D.ag [D.t a,(e.cell 0),(e.cell 1),D.j n2]] 1] d (λa e f g=>d<=g->Off
 [b] (D.sl a 4 e f)/\(Bel g (D.sl a 4 e f)->kA 2 58 [.sv a 4 e f,.dg 9 (c.getD 1 jD),.j n2] g (λa b=>uP b
 (Q a)))))))) (Br (n==9) (kA 2 184 [.dg 2 (D.sub I 4 2),.dg 2 (D.sub I 6 2)] N (λa b=>∃ c,(I.cell 1)=D.t c/\∃ d,(I.cell 2)=D.t
 d/\∃ e f,∃ g:Nat,(I.cell 8)=D.sl e 9 f g/\jL 0 f/\(2=([D.ag [D.t c,(a.cell 0),
 (a.cell 1),D.j n2],D.ag [D.t d,D.cell (D.sub I 4 2) 0,D.cell (D.sub I 4 2) 1,D.j n2]]).length/\2=2)/\∀ e,ApA e [D.ag [D.t c,(a.cell
 0),(a.cell 1),D.j n2],D.ag [D.t d,D.cell (D.sub I 4 2) 0,D.cell (D.sub I 4 2) 1,D.j n2]]->Off [e] (D.sl a0 4 e0 c0)->∀ g,b<=g->xj
 g [e]->ACalls prog 183 [.sl 4] [.sv a0 4 e0 c0,.sv e 4 [D.ag [D.t c,(a.cell 0),(a.cell 1),D.j n2],D.ag [D.t d,D.cell (D.sub I 4 2) 0,
 D.cell (D.sub I 4 2) 1,D.j n2]] 2] g (λb c d h=>g<=h->Off [e] (D.sl b 4 c d)/\(Bel h (D.sl b 4 c d)->kA 2 58
 [.sv b 4 c d,.dg 9 (f.getD 0 jD),.j n2] h (λb c=>kB 182 [.dg 2 b,.dg 2 (D.sub I 6 2)] c (λb c=>Br b (uP c
 (Q a)) (uP c (Q (D.ag [D.j 0,jN]))))))))) (kA 2 185 [.sv a0 4 e0 c0,.dg 9 I,.j n2] N (λa b=>uP b (Q a)))))))))))):jC 120 [.sv a0 4 e0 c0,.dg 9 I,.j n2] N Q:=
  eE qy h
theorem Np N a0 e0 c0 I n2(Q:QT [.ag 2])(h :
Bel N (D.sl a0 4 e0 c0)->Bel N I->kA 2 120 [.sv a0 4 e0 c0,.dg 9 I,.j n2] N (λx a=>kB 62 [.dg 2 x] a (λb a=>Br (!b) (uP a (Q (D.ag [D.j
 0,jN]))) (uP a (Q x))))):jC 58 [.sv a0 4 e0 c0,.dg 9 I,.j n2] N Q:=
  eE MF h
theorem LY N a0 e0 c0 I n2(Q:QT [.ag 2,.bool])(h :
Bel N (D.sl a0 4 e0 c0)->Bel N I->kB 56 [.sv a0 4 e0 c0] N (λb a=>Br (!b) (uP a (Q (D.ag [D.j 0,jN]) false)) (kB 57 [.dg 9 I,.j
 n2] a (λa b=>Br (!a) (uP b (Q (D.ag [D.j 0,jN]) false)) (kA 2 58 [.sv a0 4 e0 c0,.dg 9 I,.j n2] b (λx a=>∃ n:Int,(x.cell
 0)=D.j n/\uP a (Q x (bne n 0)))))))):jC 24 [.sv a0 4 e0 c0,.dg 9 I,.j n2] N Q:=
  eE KB h
theorem uc {Q:QT [.i]}{N0 a0 e0 c0 J O I N}(h :
Br (decide (I<O)) (jL I e0/\∃ s,e0.getD I.toNat jD=D.t s/\Br (jE J s) (uP
 N (Q I)) (yw Q N0 a0 e0 c0 J O (jW.wrap (I+1)) N)) (uP N (Q (-1)))):yw Q N0 a0 e0 c0 J O I N:=
  hE tP h
theorem pP {Q:QT [.bool]}{N0 J O I N}(h :
Br (decide (I<O)) ((0<=I/\I<(J.size:Int))/\Br (decide ((UInt8.toNat (Array.getD (ByteArray.data J) I.toNat (OfNat.ofNat 0)):Int)≥97))
 ((0<=I/\I<(J.size:Int))/\Br (!(decide ((UInt8.toNat (Array.getD (ByteArray.data J) I.toNat (OfNat.ofNat 0)):Int)<=122))) (Br (I==0) (uP N (Q
 false)) ((0<=I/\I<(J.size:Int))/\Br (decide ((UInt8.toNat (Array.getD (ByteArray.data J) I.toNat (OfNat.ofNat 0)):Int)<48)) (uP N (Q false)) ((0
 <= I/\I<(J.size:Int))/\Br (decide ((UInt8.toNat (Array.getD (ByteArray.data J) I.toNat (OfNat.ofNat 0)):Int)>57)) (uP N (Q false))
 (xN Q N0 J O (jW.wrap (I+1)) N)))) (xN Q N0 J O (jW.wrap (I+1)) N)) (Br (I==0) (uP N (Q false)) ((0 <=
 I/\I<(J.size:Int))/\Br (decide ((UInt8.toNat (Array.getD (ByteArray.data J) I.toNat (OfNat.ofNat 0)):Int)<48)) (uP N (Q false)) ((0<=I/\I <
 (J.size:Int))/\Br (decide ((UInt8.toNat (Array.getD (ByteArray.data J) I.toNat (OfNat.ofNat 0)):Int)>57)) (uP N (Q false)) (xN Q N0 J O
 (jW.wrap (I+1)) N))))) (kB 39 [.j (J.size:Int),.j 1,.j 4] N (λb c=>Br b ((5=5/\5=5)/\∀ a,ApA a [D.t (bytes [105,102]),D.t (bytes
 [108,101,116]),D.t (bytes [108,105,102,116]),D.t (bytes [114,101,99]),D.t (bytes [114,117,110])]->∀ b,c<=b->xj b [a]->ACalls prog 174
 [.bool] [.sv a 0 [D.t (bytes [105,102]),D.t (bytes [108,101,116]),D.t (bytes [108,105,102,116]),D.t (bytes [114,101,99]),D.t (bytes [114,117,
 110])] 5,.str J] b (λa c=>b<=c->uP c (Q (!a)))) (uP c (Q false))))):xN Q N0 J O I N:=
  hE Bu h
theorem tY {Q:QT [.i]}{N0 O Y J c7 U I N}(h :
Br (decide (I<U)) (jL I J/\kI 126 [.dg 2 (J.getD I.toNat jD)] N (λn a=>xY Q N0
 (jW.wrap (O+n)) Y J c7 U (jW.wrap (I+1)) a)) (uP N (Q O))):xY Q N0 O Y J c7 U I N:=
  hE rC h
theorem uy {Q:QT [.i]}{N0 J Y O c7 U I N}(h :
Br (decide (I<U)) (jL I O/\kI 127 [.dg 2 (O.getD I.toNat jD)] N (λn a=>xI Q N0 (if n >
 J then n else J) Y O c7 U (jW.wrap (I+1)) a)) (uP N (Q (jW.wrap (J+1)))) ):xI Q N0 J Y O c7 U I N:=
  hE sJ h
theorem DM N I(Q:QT [.bool])(h :
Bel N I->kB 129 [.dg 2 I] N (λb d=>Br b (∃ a b,∃ c:Nat,(I.cell 1)=D.sl a 2 b c/\∀ e,ApA (Option.some e) [D.fn (OfNat.ofNat 129) []] ->
 Off [Option.some e] (D.sl a 2 b c)->∀ f,d<=f->xj f [Option.some e]->ACalls prog 192 [.bool] [.sv a 2 b c,.fn 193 [.pd e 0 (.fn 129 [])]] f
 (λa b=>f<=b->uP b (Q (!a)))) (uP d (Q false)))):jC 128 [.dg 2 I,.fn 129 []] N Q:=
  eE GS h
theorem uN N a0 e0 c0(Q:QT [.bool])(h :
Bel N (D.sl a0 4 e0 c0)->kI 173 [.sv a0 4 e0 c0,.fn 116 []] N (λn a=>uP a (Q (decide (n≥0))))):jC 115 [.sv a0 4 e0 c0,.fn 116 []] N Q:=
 eE H0 h
theorem sF N a0 e0 c0 a1 e1 c1(Q:QT [.bool])(h :
Bel N (D.sl a0 2 e0 c0)->Bel N (D.sl a1 2 e1 c1)->Br (bne (e0.length:Int) (e1.length:Int)) (uP N (Q false)) (zY Q N a1 e1 c1
 a0 e0 c0 (e0.length:Int) 0 N)):jC 223 [.sv a0 2 e0 c0,.sv a1 2 e1 c1,.fn 182 []] N Q:=
  eE vF h
theorem DL N I(Q:QT [.bool])(h :
Bel N I->kB 131 [.dg 9 I] N (λb d=>Br b (∃ a b,∃ c:Nat,(I.cell 8)=D.sl a 9 b c/\∀ e,ApA (Option.some e) [D.fn (OfNat.ofNat 131) []] ->
 Off [Option.some e] (D.sl a 9 b c)->∀ f,d<=f->xj f [Option.some e]->ACalls prog 194 [.bool] [.sv a 9 b c,.fn 195 [.pd e 0 (.fn 131 [])]] f
 (λa b=>f<=b->uP b (Q (!a)))) (uP d (Q false)))):jC 130 [.dg 9 I,.fn 131 []] N Q:=
  eE GR h
theorem Fh N I n1(Q:QT [.bool])(h :
Bel N I->kB 119 [.dg 9 I,.j n1] N (λb d=>Br (!b) (uP d (Q false)) (∃ a b,∃ c:Nat,(I.cell 8)=D.sl a 9 b c/\vK Q N n1 a b
 c (b.length:Int) 0 I d))):jC 118 [.dg 9 I,.int .i64 n1,.fn 119 []] N Q:=
  eE B3 h
theorem rQ {Q:QT [.i]}{N0 a0 e0 c0 J I N}(h :
Br (decide (I≥0)) (jL I e0/\∃ s,(if 0=0 then D.cell (e0.getD I.toNat jD) 0 else D.sub (e0.getD I.toNat jD) 0 0)=D.t s/\Br (jE s J) (uP N (Q I)) (wG Q N0 a0 e0 c0 J (jW.wrap (I - 1)) N)) (uP N
 (Q (-1)))):wG Q N0 a0 e0 c0 J I N:=
  hE qx h
theorem rP {Q:QT [.ag 2]}{N0 aj aa ak ai J ab ac ae ah O U I Y N}(h :
Br (decide (J<ai)) (jL J aa/\kA 2 178 [.dg 2 (aa.getD J.toNat jD)] N (λx a=>Wb U I Y [x] /\
 zB I [x] 32/\∀(c:Nat),xK Q N0 aj aa ak ai (jW.wrap (J+1)) ab ac ae ah O (I++[x]).length c (I
 ++ [x]) c a)) (uP N (Q (D.ag [D.j O,D.sl U 2 I Y])))):uD Q N0 aj aa ak ai J ab ac ae ah O U I Y N:=
  hE tO h
theorem qV {Q:QT [.ag 2]}{N0 ac J ae ab I O U Y aa y1 y2 N}(h :
Br (decide (I<ab)) (jL I J/\kB 182 [.dg 2 (J.getD I.toNat jD),.dg 2 y1] N (λb a=>Br (!b) (uP a (Q
 (D.ag [D.j 0,jN]))) (zR Q N0 ac J ae ab (jW.wrap (I+1)) O U Y aa y1 y2 a))) (uP N (Q y2))):zR Q N0 ac J ae ab I O U Y aa y1 y2 N:=
  hE B4 h
theorem qT {Q:QT [.sl 4]}{N0 a0 e0 c0 n1 Y c5 a9 O c9 J I r0 U N}(h :
Br (decide (I<J)) (jL I O/\kB 228 [.dg 2 (D.sub (O.getD I.toNat jD) 1 2)] N (λb a=>Br b (∃ n:Int,
 D.cell (O.getD I.toNat jD) 3=D.j n/\Br (decide (n<=n1)) (∃ s,D.cell (O.getD I.toNat jD) 0=D.t s/\kI 177 [.sv a0 4 e0 c0,.str
 s] a (λa b=>Br (a==I) (∃ a,D.cell (O.getD I.toNat jD) 0=D.t a/\∃ d:Int,D.cell (O.getD I.toNat jD) 3=D.j
 d/\kA 2 178 [.dg 2 (D.sub (O.getD I.toNat jD) 1 2)] b (λx b=>(Y=r0.length/\c5=U)/\zB r0 [D.ag [D.t a,(x.cell 0),(x.cell
 1),D.j d]] 56/\∀(c:Nat),yQ Q N0 a0 e0 c0 n1 (r0++[D.ag [D.t a,(x.cell 0),(x.cell 1),D.j d]]).length c a9 O c9 J
 (jW.wrap (I+1)) (r0++[D.ag [D.t a,(x.cell 0),(x.cell 1),D.j d]]) c b)) (yQ Q N0 a0 e0 c0 n1 Y c5 a9 O c9 J
 (jW.wrap (I+1)) r0 U b))) (yQ Q N0 a0 e0 c0 n1 Y c5 a9 O c9 J (jW.wrap (I+1)) r0 U a)) (yQ Q N0 a0
 e0 c0 n1 Y c5 a9 O c9 J (jW.wrap (I+1)) r0 U a))) (w3 (Y=r0.length/\c5=U) (∀ a b,N<=b->Fresh N0 b a [D.ag r0]->uP b (Q a r0
 U)))):yQ Q N0 a0 e0 c0 n1 Y c5 a9 O c9 J I r0 U N:=
  hE BA h
theorem sT {Q:QT [.ag 2]}{N0 m9 c9 ah Y y0 aa ab ac ae I J O U r4 q4 N}(h :
Br (decide (Y<ah)) (∀ a,ApA (Option.some a) [D.sl I 4 J O]->∀ b,ApA (Option.some b) [y0]->∀ d,ApA (Option.some d) [D.j
 U]->∀ e,N<=e->xj e [Option.some a,Option.some b,Option.some d]->ACalls prog 176 [.ag 2] [.j Y,.pd a 0 (D.sl I 4 J O),.pd
 b 9 y0,.pd d 0 (D.j U)] e (λx f=>e<=f->Off [Option.some a,Option.some b,Option.some d] x/\(Bel f x->(m9=r4.length/\c9=q4)
 /\ zB r4 [x] 32/\∀(c:Nat),yv Q N0 (r4++[x]).length c ah (jW.wrap (Y+1)) y0 aa ab ac ae I J O U (r4
 ++ [x]) c f))) (∃ s,(y0.cell 1)=D.t s/\(m9=r4.length/\c9=q4)/\∀ a,ApA a r4->∀ b,N<=b->xj b [a]->ACalls prog 181 [.ag 2] [.str s,.sv a 2
 r4 c9] b (λc d=>b<=d->Off [a] c/\(Bel d c->uP d (Q c))))):yv Q N0 m9 c9 ah Y y0 aa ab ac ae I J O U r4 q4 N:=
  hE qy h
theorem A6 N n0 a1 J a2 I a3 O(Q:QT [.ag 2])(h :
∃ a b,∃ c:Nat,J=D.sl a 4 b c/\∃ d e,∃ f:Nat,(if 0=0 then(I.cell 8)else D.sub I 8 0)=D.sl d 9 e f/\jL n0 e/\∃ n:Int,O=D.j n/\kA 2 58 [.sv a 4 b c,.dg 9 (e.getD n0.toNat jD),.j n] N (λx a=>uP a (Q x))):jC 176 [.int .i64 n0,.pd a1 0 J,.pd a2 9 I,.pd a3 0 O] N Q:=
  eE Dj h
theorem ux N a0 e0 c0 I(Q:QT [.bool])(h :
Bel N (D.sl a0 2 e0 c0)->kI 234 [.sv a0 2 e0 c0,.fn 193 [.pd I 0 (.fn 129 [])]] N (λn a=>uP a (Q (decide (n≥0))))):jC 192 [.sv a0 2 e0 c0,.fn 193 [.pd I 0 (.fn 129 [])]] N Q:=
 eE H0 h
theorem tG N a0 e0 c0(Q:QT [.i])(h :
Bel N (D.sl a0 4 e0 c0)->zj Q N a0 e0 c0 (e0.length:Int) 0 N):jC 173 [.sv a0 4 e0 c0,.fn 116 []] N Q:=
 eE wQ h
theorem wU {Q:QT [.bool]}{N0 a1 e1 c1 U J Y O I N}(h :
Br (decide (I<O)) (jL I J/\jL I e1/\kB 182 [.dg 2 (J.getD I.toNat jD),.dg
 2 (e1.getD I.toNat jD)] N (λb a=>Br (!b) (uP a (Q false)) (zY Q N0 a1 e1 c1 U J Y O (jW.wrap (I +
 1)) a))) (uP N (Q true))):zY Q N0 a1 e1 c1 U J Y O I N:=
  hE vF h
theorem uw N a0 e0 c0 I(Q:QT [.bool])(h :
Bel N (D.sl a0 9 e0 c0)->kI 235 [.sv a0 9 e0 c0,.fn 195 [.pd I 0 (.fn 131 [])]] N (λn a=>uP a (Q (decide (n≥0))))):jC 194 [.sv a0 9 e0 c0,.fn 195 [.pd I 0 (.fn 131 [])]] N Q:=
 eE H0 h
theorem pQ {Q:QT [.bool]}{N0 n1 U J Y O I y0 N}(h :
Br (decide (I<O)) (jL I J/\kI 175 [.dg 9 y0,.j n1] N (λn a=>kB 118 [.dg 9 (J.getD I.toNat jD),.j
 n,.fn 119 []] a (λb a=>Br (!b) (uP a (Q false)) (vK Q N0 n1 U J Y O (jW.wrap (I+1)) y0 a)))) (uP N (Q true))):vK Q N0 n1 U J Y O I y0 N:=
  hE B3 h
theorem u3 {Q:QT [.ag 2]}{N0 ai Y aj ah I aa ab ac ae J O U r2 q2 N}(h :
Br (decide (I<ah)) (jL I Y/\kA 2 178 [.dg 2 (Y.getD I.toNat jD)] N (λx a=>(O=r2.length/\U
 = q2)/\zB r2 [x] 32/\∀(c:Nat),xK Q N0 ai Y aj ah (jW.wrap (I+1)) aa ab ac ae J (r2++[x]).length c
 (r2++[x]) c a)) (w3 (O=r2.length/\U=q2) (∀ a b,N<=b->Fresh N0 b a [D.ag r2]->uP b (Q (D.ag [D.j J,D.sl a 2 r2 q2]))))):xK Q N0 ai Y aj ah I aa ab ac ae J O U r2 q2 N:=
  hE tO h
theorem sH N a0 e0 c0 I(Q:QT [.i])(h :
Bel N (D.sl a0 2 e0 c0)->yG Q N a0 e0 c0 I (e0.length:Int) 0 N):jC 234 [.sv a0 2 e0 c0,.fn 193 [.pd I 0 (.fn 129 [])]] N Q:=
 eE vI h
theorem wC {Q:QT [.i]}{N0 a0 e0 c0 J I N}(h :
Br (decide (I<J)) (jL I e0/\kB 116 [.dg 4 (e0.getD I.toNat jD)] N (λb a=>Br b (uP a (Q I))
 (zj Q N0 a0 e0 c0 J (jW.wrap (I+1)) a))) (uP N (Q (-1)))):zj Q N0 a0 e0 c0 J I N:=
  hE wQ h
theorem sG N a0 e0 c0 I(Q:QT [.i])(h :
Bel N (D.sl a0 9 e0 c0)->yF Q N a0 e0 c0 I (e0.length:Int) 0 N):jC 235 [.sv a0 9 e0 c0,.fn 195 [.pd I 0 (.fn 131 [])]] N Q:=
 eE vH h
theorem wW {Q:QT [.i]}{N0 a0 e0 c0 I O J N}(h :
Br (decide (J<O)) (jL J e0/\kB 193 [.dg 2 (e0.getD J.toNat jD),.pd I 0 (.fn 129 [])] N (λb a=>Br b (uP
 a (Q J)) (yG Q N0 a0 e0 c0 I O (jW.wrap (J+1)) a))) (uP N (Q (-1)))):yG Q N0 a0 e0 c0 I O J N:=
  hE vI h
theorem wV {Q:QT [.i]}{N0 a0 e0 c0 I O J N}(h :
Br (decide (J<O)) (jL J e0/\kB 195 [.dg 9 (e0.getD J.toNat jD),.pd I 0 (.fn 131 [])] N (λb a=>Br b (uP
 a (Q J)) (yF Q N0 a0 e0 c0 I O (jW.wrap (J+1)) a))) (uP N (Q (-1)))):yF Q N0 a0 e0 c0 I O J N:=
  hE vH h
theorem A5 N I a1(Q:QT [.bool])(h :
Bel N I->kB 128 [.dg 2 I,.fn 129 []] N (λb a=>uP a (Q (!b)))):jC 193 [.dg 2 I,.pd a1 0 (.fn 129 [])] N Q:=
 eE Di h
theorem A4 N I a1(Q:QT [.bool])(h :
Bel N I->kB 130 [.dg 9 I,.fn 131 []] N (λb a=>uP a (Q (!b)))):jC 195 [.dg 9 I,.pd a1 0 (.fn 131 [])] N Q:=
 eE Dh h
end Go.Proofs.YtlaniepnglheoaaGreatDoor
set_option maxRecDepth 100000
namespace Go.Proofs.YtlaniepnglheoaaGreatDoor
open Go Go.Proofs Go.Proofs.Tryz
def A9:Hint:=⟨[hc 3 [3,7,8,9]],[],[(5,hs 5 [ec 2 [14]])]⟩
def Bv:Hint:=⟨[],[],[(1,hs 13 [ec 1 [3],ec 4 [6],ec 9 [11]])]⟩
def By:Hint:=⟨[hc 3 [3,7,8,9]],[],[(5,hs 5 [ec 2 [14]])]⟩
def BE:Hint:=⟨[hc 3 [1,3,4]],[],[(5,hs 9 [ec 6 [17]])]⟩
def CA:Hint:=⟨[],[],[(1,hs 13 [ec 1 [3],ec 5 [7],ec 10 [12]])]⟩
def CJ:Hint:=⟨[hc 3 [1,2,5]],[],[(5,hs 8 [ec 6 [23]])]⟩
def BF:Hint:=⟨[hc 2 [0,1,5]],[],[]⟩
def wg (Q:QT [.i]) N0 I J O U Y n9 N:=jT 122 3 Q N0 (an 3 (.j I::an 3 (.sv J 9 O U::.j Y::.j n9::an 10 []))) [] N
def xu (Q:QT [.i]) N0 I J O U Y n9 N:=jT 121 3 Q N0 (an 3 (.j I::an 3 (.sv J 9 O U::.j Y::.j n9::an 9 []))) [] N
def wj (Q:QT [.i]) N0 I n4 J N:=jT 86 3 Q N0 (an 1 (.pb 0 0 0 0::an 1 (.j I::.j n4::an 17 []))) [.vd J 9] N
def vX (Q:QT [.i]) N0 n1 I J N:=jT 85 3 Q N0 (an 1 (.j n1::.pb 0 0 0 0::an 2 (.j I::an 21 []))) [.vd J 9] N
def wk (Q:QT [.i]) N0 a0 e0 c0 I J N:=jT 210 2 Q N0 (.sv a0 0 e0 c0::.str I::an 3 (.j J::an 13 [])) [] N
theorem Ix N I(Q:QT [.i])(h :
Bel N I->∃ a b,∃ c:Nat,(I.cell 8)=D.sl a 9 b c/\wg Q N 0 a b c (b.length:Int) 0 N):jC 122 [.dg 9 I] N Q:=
 eE A9 h
theorem DH N I(Q:QT [.bool])(h :
Bel N I->kB 64 [.dg 9 I] N (λb a=>Br b (∀ b,a<=b->ACalls prog 121 [.i] [.dg 9 I] b (λn a=>b<=a->Br (decide (n<=80)) (kI 122
 [.dg 9 I] a (λa b=>uP b (Q (decide (a<=20))))) (uP a (Q false)))) (uP a (Q false)))):jC 59 [.dg 9 I] N Q:=
  eE Bv h
theorem DK N I(Q:QT [.i])(h :
Bel N I->∃ a b,∃ c:Nat,(I.cell 8)=D.sl a 9 b c/\xu Q N 1 a b c (b.length:Int) 0 N):jC 121 [.dg 9 I] N Q:=
 eE By h
theorem I7 N I(Q:QT [.i])(h :
Bel N I->wj Q N 0 0 I N):jC 86 [.dg 9 I] N Q:=
 eE BE h
theorem DR N I(Q:QT [.bool])(h :
Bel N I->kI 85 [.dg 9 I,.j 80] N (λn a=>Br (decide (n≥0)) (kI 86 [.dg 9 I] a (λa c=>Br (decide (a<=20)) (kB 51 [.dg 9 I] c (fun
 b a=>uP a (Q b))) (uP c (Q false)))) (uP a (Q false)))):jC 40 [.dg 9 I] N Q:=
  eE CA h
theorem Lu N I n1(Q:QT [.i])(h :
Bel N I->vX Q N (jW.wrap (n1 - 1)) 0 I N):jC 85 [.dg 9 I,.j n1] N Q:=
 eE CJ h
theorem I8 N a0 e0 c0 I(Q:QT [.i])(h :
Bel N (D.sl a0 0 e0 c0)->wk Q N a0 e0 c0 I 0 N):jC 210 [.sv a0 0 e0 c0,.str I] N Q:=
 eE BF h
theorem qS {Q:QT [.i]}{N0 J Y O c7 U I N}(h :
Br (decide (I<U)) (jL I O/\kI 122 [.dg 9 (O.getD I.toNat jD)] N (λn a=>wg Q N0 (if n>J
 then n else J) Y O c7 U (jW.wrap (I+1)) a)) (uP N (Q (jW.wrap (J+1))))):wg Q N0 J Y O c7 U I N:=
  hE A9 h
theorem vh {Q:QT [.i]}{N0 O Y J c7 U I N}(h :
Br (decide (I<U)) (jL I J/\∀ a,N<=a->ACalls prog 121 [.i] [.dg 9 (J.getD I.toNat jD)] a (λn b=>a <=
 b->xu Q N0 (jW.wrap (O+n)) Y J c7 U (jW.wrap (I+1)) b)) (uP N (Q O))):xu Q N0 O Y J c7 U I N:=
  hE By h
theorem qZ {Q:QT [.i]}{N0 J n4 I N}(h :
∃ a b,∃ c:Nat,(I.cell 8)=D.sl a 9 b c/\Br (decide (n4<(b.length:Int))) (∃ a b,∃ c:Nat,(I.cell 8)=D.sl a 9 b c/\jL n4 b/\kI 86 [.dg 9 (b.getD n4.toNat jD)] N (λn a=>kI 150 [.j J,.j n] a (λa b=>wj Q N0 a
 (jW.wrap (n4+1)) I b))) (uP N (Q (jW.wrap (J+1))))):wj Q N0 J n4 I N:=
  hE BE h
theorem pi {Q:QT [.i]}{N0 n1 I J N}(h :
∃ a b,∃ c:Nat,(J.cell 8)=D.sl a 9 b c/\Br (decide (I<(b.length:Int))) (Br (decide (n1≥0)) (∃ a b,∃ c:Nat,(J.cell 8)=D.sl
 a 9 b c/\jL I b/\kI 85 [.dg 9 (b.getD I.toNat jD),.j n1] N (λn a=>vX Q N0 n
 (jW.wrap (I+1)) J a)) (uP N (Q n1))) (uP N (Q n1))):vX Q N0 n1 I J N:=
  hE CJ h
theorem qa {Q:QT [.i]}{N0 a0 e0 c0 J I N}(h :
Br (decide (I<(e0.length:Int))) (jL I e0/\∃ s,e0.getD I.toNat jD=D.t s/\Br (jE s J) (uP N (Q I)) (wk Q N0 a0 e0 c0 J (jW.wrap (I+1)) N)) (uP N (Q (-1)))):wk Q N0 a0 e0 c0 J I N:=
 hE BF h
end Go.Proofs.YtlaniepnglheoaaGreatDoor
set_option maxRecDepth 100000
namespace Go.Proofs.YtlaniepnglheoaaGreatDoor
open Go Go.Proofs Go.Proofs.Tryz
def vJ:Hint:=⟨[hc 2 [0,1,7,8]],[],[]⟩
def wx:Hint:=⟨[hc 5 [0,1,5,6]],[],[(12,hs 4 [{ i:=2,hard:=true,tr:=true }])]⟩
def qw:Hint:=⟨[hc 6 [3,4,5,22,23,24]],[],[(3,hs 8 [ec 1 [16]]),(8,hs 3 [ec 1 [29]])]⟩
def B6:Hint:=⟨[],[],[(5,hs 10 [{ i:=8,hard:=true,tr:=true }])]⟩
def wN:Hint:=⟨[hc 3 [0,3,9,10,11],hc 11 [6,25,26,27] [(6,9,0)]],[],[]⟩
def rD:Hint:=⟨[hc 3 [5,12,13,14] [(5,9,0)]],[],[]⟩
def En:Hint:=⟨[hc 3 [0,1,5]],[],[]⟩
def sM:Hint:=⟨[hc 3 [0,1,5,6] [(5,9,0)]],[],[]⟩
def uC:Hint:=⟨[hc 3 [0,1,5,6] [(5,9,0)],hc 8 [1,5,7] [(5,9,0)]],[],[]⟩
def tQ:Hint:=⟨[hc 6 [1,3,4,5,6],hc 10 [1,3,4,5,6,7,8]],[],[(8,hs 7 [ec 5 [32]])]⟩
def qM:Hint:=⟨[hc 5 [0,3,4]],[],[]⟩
def qN:Hint:=⟨[hc 3 [0,3]],[],[]⟩
def xM (Q:QT [.row 9 0]) N0 n4 m5 c5 U Y aa ab ac I J O r1 q1 N:=jT 256 6 Q N0 (an 3 (.pb 0 0 0 0::.j n4::.sb 1 0 0 m5 c5::an 16 (.sv U 9 Y aa::.j ab::.j ac::an 17 []))) [.var [.sv I 0 J O],.arr 9 0 r1 q1] N
def yk (Q:QT [.sl 0]) N0 a0 e0 c0 O a9 U c9 I J N:=jT 277 3 Q N0 (.sv a0 0 e0 c0::an 2 (.j O::an 5 (.sv a9 0 U c9::.j I::.j J::an 24 []))) [] N
def yc (Q:QT [.row 9 0]) N0 m5 c5 I J O U Y r0 q0 N:=jT 275 3 Q N0 (an 5 (.sb 0 0 0 m5 c5::an 6 (.sv I 0 J O::.j U::.j Y::an 13 []))) [.arr 9 0 r0 q0] N
def uR (Q:QT [.str]) N0 I a1 e1 c1 J N:=jT 286 3 Q N0 (.str I::.sv a1 0 e1 c1::an 3 (.j J::an 12 [])) [] N
def yS (Q:QT [.sl 0]) N0 a0 e0 c0 I J c5 O r0 U N:=jT 244 3 Q N0 (.sv a0 0 e0 c0::.str I::an 3 (.sb 0 0 0 J c5::.j O::an 21 [])) [.arr 9 0 r0 U] N
def yd (Q:QT [.row 9 0]) N0 a0 e0 c0 a1 e1 c1 I c5 J r0 O N:=jT 245 3 Q N0 (.sv a0 0 e0 c0::.sv a1 0 e1 c1::an 3 (.sb 0 0 0 I c5::.j J::an 43 [])) [.arr 9 0 r0 O] N
def yB (Q:QT [.sl 0]) N0 a3 I c3 n4 J c5 O U r1 Y N:=jT 211 6 Q N0 (an 1 (.pb 0 0 0 0::an 1 (.sv a3 0 I c3::.j n4::.sb 1 0 0 J c5::.j O::an 48 []))) [.vd U 9,.arr 9 0 r1 Y] N
def zk (Q:QT [.str]) N0 n0 I J N:=jT 22 5 Q N0 (.j n0::an 2 (.bool I::.str J::an 26 [])) [] N
def xm (Q:QT [.str]) N0 a0 e0 c0 I N:=jT 246 3 Q N0 (.sv a0 0 e0 c0::an 2 (.j I::an 11 [])) [] N
def zi (Q:QT [.sl 0]) N0 m6 c6 I J O U Y r0 q0 N:=jT 277 11 Q N0 (an 6 (.sb 0 0 0 m6 c6::an 18 (.sv I 0 J O::.j U::.j Y::an 8 []))) [.arr 9 0 r0 q0] N
def yC (Q:QT [.row 9 0]) N0 a1 e1 c1 I c5 J r0 O N:=jT 245 8 Q N0 (an 1 (.sv a1 0 e1 c1::an 3 (.sb 0 0 0 I c5::an 1 (.j J::an 42 [])))) [.arr 9 0 r0 O] N
def yy (Q:QT [.sl 0]) N0 a3 I c3 n4 J c5 O U Y c7 n8 y0 r1 q1 N:=jT 211 10 Q N0 (an 1 (.pb 0 0 0 0::an 1 (.sv a3 0 I c3::.j n4::.sb 1 0 0 J c5::.j O::.sv U 0 Y c7::.j n8::an 46 []))) [.vd y0 9,.arr 9 0 r1 q1] N
def zT E(Q:QT [.bk 0,.sl 0,.sl 0]) N0 U c0 Y n6 r0 q0 I J O N:=AT prog 273 [.bk 0,.sl 0,.sl 0] Q N0 (.io E [.arr 9 0 [] 0,.var [.sv none 0 [] 0]]) (E1 prog 273 5) ⟨.sb 0 0 0 U c0::.fn 274 [.pb 1 0 0 0]::an 3 (.int .i64 Y::.int .i64 n6::an 35 []),[.arr 9 0 r0 q0,.var [.sv I 0 J O]],N,some (wa E 0 [.arr 9 0 [] 0,.var [.sv none 0 [] 0]],[])⟩
def yH (Q:QT [.i]) N0 a0 e0 c0 J I O U N:=jT 285 2 Q N0 (.sv a0 0 e0 c0::.fn 274 [.pd J 0 I]::an 5 (.j O::.j U::an 10 [])) [] N
theorem Nk N I(Q:QT [.sl 0,.i])(h :
Bel N I->∃ n:Int,(I.cell 0)=D.j n/\Br (n==6) (∃ a b,∃ c:Nat,(I.cell 8)=D.sl a 9 b c/\Br ((b.length:Int)==1) (∃ s,(I.cell 1) =
 D.t s/\w2 (1=([D.t s]).length/\1=1) (∀ a b,N<=b->Fresh N b a [D.ag [D.t s]]->uP b (Q a [D.t s] 1 0))) (∃ a:Int,(I.cell 0)=D.j a /\
 Br (a==8) (∃ a b,∃ c:Nat,(I.cell 8)=D.sl a 9 b c/\Br ((b.length:Int)==2) (∃ a,(I.cell 1)=D.t a/\w2 (1=([D.t
 a]).length/\1=1) (∀ b c,N<=c->Fresh N c b [D.ag [D.t a]]->uP c (Q b [D.t a] 1 1))) (∃ a:Int,(I.cell 0)=D.j a/\Br (a==9) (∃
 a b,∃ c:Nat,(I.cell 8)=D.sl a 9 b c/\Br ((b.length:Int)==1) (∃ a,(I.cell 1)=D.t a/\∃ b,(I.cell 2)=D.t b/\w2 (2 =
 ([D.t a,D.t b]).length/\2=2) (∀ c d,N<=d->Fresh N d c [D.ag [D.t a,D.t b]]->uP d (Q c [D.t a,D.t b] 2 0))) (uP N (Q none [] 0
 (-1)))) (uP N (Q none [] 0 (-1))))) (∃ a:Int,(I.cell 0)=D.j a/\Br (a==9) (∃ a b,∃ c:Nat,(I.cell 8)=D.sl a 9 b c/\Br
 ((b.length:Int)==1) (∃ a,(I.cell 1)=D.t a/\∃ b,(I.cell 2)=D.t b/\w2 (2=([D.t a,D.t b]).length/\2=2) (∀ c d,N<=d->Fresh
 N d c [D.ag [D.t a,D.t b]]->uP d (Q c [D.t a,D.t b] 2 0))) (uP N (Q none [] 0 (-1)))) (uP N (Q none [] 0 (-1)))))) (∃ a:Int,(I.cell 0) =
 D.j a/\Br (a==8) (∃ a b,∃ c:Nat,(I.cell 8)=D.sl a 9 b c/\Br ((b.length:Int)==2) (∃ a,(I.cell 1)=D.t a/\w2 (1 =
 ([D.t a]).length/\1=1) (∀ b c,N<=c->Fresh N c b [D.ag [D.t a]]->uP c (Q b [D.t a] 1 1))) (∃ a:Int,(I.cell 0)=D.j a/\Br
 (a==9) (∃ a b,∃ c:Nat,(I.cell 8)=D.sl a 9 b c/\Br ((b.length:Int)==1) (∃ a,(I.cell 1)=D.t a/\∃ b,(I.cell 2) =
 D.t b/\w2 (2=([D.t a,D.t b]).length/\2=2) (∀ c d,N<=d->Fresh N d c [D.ag [D.t a,D.t b]]->uP d (Q c [D.t a,D.t b] 2
 0))) (uP N (Q none [] 0 (-1)))) (uP N (Q none [] 0 (-1))))) (∃ a:Int,(I.cell 0)=D.j a/\Br (a==9) (∃ a b,∃ c:Nat,(I.cell 8)=D.sl
 a 9 b c/\Br ((b.length:Int)==1) (∃ a,(I.cell 1)=D.t a/\∃ b,(I.cell 2)=D.t b/\w2 (2=([D.t a,D.t b]).length/\2=2)
 (∀ c d,N<=d->Fresh N d c [D.ag [D.t a,D.t b]]->uP d (Q c [D.t a,D.t b] 2 0))) (uP N (Q none [] 0 (-1)))) (uP N (Q none [] 0
 (-1)))))):jC 254 [.dg 9 I] N Q:=
  eE H0 h
theorem H1 N I(Q:QT [.row 9 0])(h :
Bel N I->∃ n:Int,(I.cell 0)=D.j n/\Br (n==1) (∃ s,(I.cell 1)=D.t s/\(1=([D.t s]).length/\1=1)/\uP N (Q [D.t s] 1)) (∀ b,N<=b ->
 ACalls prog 254 [.sl 0,.i] [.dg 9 I] b (λa c d e f=>b<=f->Bel f (D.sl a 0 c d)->∃ b g,∃ h:Nat,(I.cell 8)=D.sl b 9 g h /\
 xM Q N e 0 0 b g h (g.length:Int) 0 a c d [] 0 f))):jC 256 [.dg 9 I] N Q:=
  eE qw h
theorem DN N n1(Q:QT [.row 9 0])(h :
Bel N (D.sl none 0 [] 0)->Br (decide (n1<0)) False (Br (decide (jW.wrap (n1 - 0)>0)) (((0:Int)<=(0:Int)/\(0:Int)<=(0:Int)/\(0 :
 Int)<=(0:Int))/\(0<=jW.wrap (n1 - 0)/\(jW.wrap (n1 - 0)*16)<=140737488355328/\jW.wrap (n1 - 0)<=140737488355328)/\∀(c :
 Nat),((0:Int)<=(0:Int)/\0<=(c:Int))/\0<=(List.replicate (jW.wrap (n1 - 0)).toNat (D.t b0)).length/\(0=(List.take 0 (List.replicate
 (jW.wrap (n1 - 0)).toNat (D.t b0))).length/\c=c)/\∀ a,N<=a->Q (List.take 0 (List.replicate (jW.wrap (n1 - 0)).toNat (D.t b0))) c a)
 (uP N (Q [] 0)))):jC 287 [.sv none 0 [] 0,.j n1] N Q:=
  eE B6 h
theorem A8 N a0 e0 c0(Q:QT [.sl 0])(h :
Bel N (D.sl a0 0 e0 c0)->yk Q N a0 e0 c0 0 a0 e0 c0 (e0.length:Int) 0 N):jC 277 [.sv a0 0 e0 c0] N Q:=
 eE wN h
theorem Ec N a0 e0 c0 a1 e1 c1(Q:QT [.row 9 0])(h :
Bel N (D.sl a0 0 e0 c0)->Bel N (D.sl a1 0 e1 c1)->(2=([D.sl a0 0 e0 c0,D.sl a1 0 e1 c1]).length/\2=2)/\∀ a,ApA a [D.sl a0 0 e0 c0,D.sl a1 0 e1
 c1]->∀ b,N<=b->xj b [a]->ACalls prog 277 [.sl 0] [.sv a 0 [D.sl a0 0 e0 c0,D.sl a1 0 e1 c1] 2] b (λc d e f=>b<=f->Off [a] (D.sl c 0
 d e)/\(Bel f (D.sl c 0 d e)->yc Q N 0 0 c d e (d.length:Int) 0 [] 0 f))):jC 275 [.sv a0 0 e0 c0,.sv a1 0 e1 c1] N Q:=
  eE rD h
theorem Nl N I a1 e1 c1(Q:QT [.str])(h :
Bel N (D.sl a1 0 e1 c1)->uR Q N I a1 e1 c1 1 N):jC 286 [.str I,.sv a1 0 e1 c1] N Q:=
 eE En h
theorem FZ N a0 e0 c0(Q:QT [.str])(h :
Bel N (D.sl a0 0 e0 c0)->kS 286 [.str (bytes [118]),.sv a0 0 e0 c0] N (λs a=>uP a (Q s)) ):jC 276 [.sv a0 0 e0 c0] N Q:=
 eE H0 h
theorem FY N n0(Q:QT [.str])(h :
kS 66 [.j n0] N (λs a=>uP a (Q s))):jC 30 [.j n0] N Q:=
 eE H0 h
theorem E9 N I(Q:QT [.ag 9])(h :
∀ a,N<=a->Q (D.ag [D.j 1,D.t I,D.t b0,D.j 0,D.j 0,jN,D.j 0,jN,D.sl none 9 [] 0]) a):jC 111 [.str I] N Q:=
  eE H0 h
theorem JJ N I(Q:QT [.sl 0,.i])(h :
Bel N I->∃ n:Int,(I.cell 0)=D.j n/\Br (n==6) (∃ a b,∃ c:Nat,(I.cell 8)=D.sl a 9 b c/\Br ((b.length:Int)==1) (∃ s,(I.cell 1) =
 D.t s/\w2 (1=([D.t s]).length/\1=1) (∀ a b,N<=b->Fresh N b a [D.ag [D.t s]]->uP b (Q a [D.t s] 1 0))) (∃ a:Int,(I.cell 0)=D.j a /\
 Br (a==8) (∃ a b,∃ c:Nat,(I.cell 8)=D.sl a 9 b c/\Br ((b.length:Int)==2) (∃ a,(I.cell 1)=D.t a/\w2 (1=([D.t
 a]).length/\1=1) (∀ b c,N<=c->Fresh N c b [D.ag [D.t a]]->uP c (Q b [D.t a] 1 1))) (∃ a:Int,(I.cell 0)=D.j a/\Br (a==9) (∃
 a b,∃ c:Nat,(I.cell 8)=D.sl a 9 b c/\Br ((b.length:Int)==1) (∃ a,(I.cell 1)=D.t a/\∃ b,(I.cell 2)=D.t b/\w2 (2 =
 ([D.t a,D.t b]).length/\2=2) (∀ c d,N<=d->Fresh N d c [D.ag [D.t a,D.t b]]->uP d (Q c [D.t a,D.t b] 2 0))) (w2 (0=0/\0=0)
 (∀ a b,N<=b->Fresh N b a [D.ag []]->uP b (Q a [] 0 (-1))))) (w2 (0=0/\0=0) (∀ a b,N<=b->Fresh N b a [D.ag []]->uP b (Q a [] 0
 (-1)))))) (∃ a:Int,(I.cell 0)=D.j a/\Br (a==9) (∃ a b,∃ c:Nat,(I.cell 8)=D.sl a 9 b c/\Br ((b.length:Int)==1) (∃
 a,(I.cell 1)=D.t a/\∃ b,(I.cell 2)=D.t b/\w2 (2=([D.t a,D.t b]).length/\2=2) (∀ c d,N<=d->Fresh N d c [D.ag [D.t a,
 D.t b]]->uP d (Q c [D.t a,D.t b] 2 0))) (w2 (0=0/\0=0) (∀ a b,N<=b->Fresh N b a [D.ag []]->uP b (Q a [] 0 (-1))))) (w2 (0
 = 0/\0=0) (∀ a b,N<=b->Fresh N b a [D.ag []]->uP b (Q a [] 0 (-1))))))) (∃ a:Int,(I.cell 0)=D.j a/\Br (a==8) (∃ a
 b,∃ c:Nat,(I.cell 8)=D.sl a 9 b c/\Br ((b.length:Int)==2) (∃ a,(I.cell 1)=D.t a/\w2 (1=([D.t a]).length/\1=1) (∀
 b c,N<=c->Fresh N c b [D.ag [D.t a]]->uP c (Q b [D.t a] 1 1))) (∃ a:Int,(I.cell 0)=D.j a/\Br (a==9) (∃ a b,∃ c
 : Nat,(I.cell 8)=D.sl a 9 b c/\Br ((b.length:Int)==1) (∃ a,(I.cell 1)=D.t a/\∃ b,(I.cell 2)=D.t b/\w2 (2=([D.t a,D.t
 b]).length/\2=2) (∀ c d,N<=d->Fresh N d c [D.ag [D.t a,D.t b]]->uP d (Q c [D.t a,D.t b] 2 0))) (w2 (0=0/\0=0) (∀ a
 b,N<=b->Fresh N b a [D.ag []]->uP b (Q a [] 0 (-1))))) (w2 (0=0/\0=0) (∀ a b,N<=b->Fresh N b a [D.ag []]->uP b (Q a
 [] 0 (-1)))))) (∃ a:Int,(I.cell 0)=D.j a/\Br (a==9) (∃ a b,∃ c:Nat,(I.cell 8)=D.sl a 9 b c/\Br ((b.length:Int)==1)
 (∃ a,(I.cell 1)=D.t a/\∃ b,(I.cell 2)=D.t b/\w2 (2=([D.t a,D.t b]).length/\2=2) (∀ c d,N<=d->Fresh N d c [D.ag
 [D.t a,D.t b]]->uP d (Q c [D.t a,D.t b] 2 0))) (w2 (0=0/\0=0) (∀ a b,N<=b->Fresh N b a [D.ag []]->uP b (Q a [] 0
 (-1))))) (w2 (0=0/\0=0) (∀ a b,N<=b->Fresh N b a [D.ag []]->uP b (Q a [] 0 (-1))))))):jC 209 [.dg 9 I] N Q:=
  eE H0 h
theorem DU N a0 e0 c0 I(Q:QT [.sl 0])(h :
Bel N (D.sl a0 0 e0 c0)->yS Q N a0 e0 c0 I 0 0 0 [] 0 N):jC 244 [.sv a0 0 e0 c0,.str I] N Q:=
 eE sM h
theorem Ek N a0 e0 c0 a1 e1 c1(Q:QT [.row 9 0])(h :
Bel N (D.sl a0 0 e0 c0)->Bel N (D.sl a1 0 e1 c1)->yd Q N a0 e0 c0 a1 e1 c1 0 0 0 [] 0 N):jC 245 [.sv a0 0 e0 c0,.sv a1 0 e1 c1] N Q:=
 eE uC h
theorem IB N I(Q:QT [.sl 0])(h :
Bel N I->∃ n:Int,(I.cell 0)=D.j n/\Br (n==1) (∃ s,(I.cell 1)=D.t s/\w2 (1=([D.t s]).length/\1=1) (∀ a b,N<=b->Fresh N b a [D.ag
 [D.t s]]->uP b (Q a [D.t s] 1))) (∀ a,N<=a->ACalls prog 209 [.sl 0,.i] [.dg 9 I] a (λb c d e f=>a<=f->Bel f (D.sl b 0 c d) ->
 yB Q N b c d e 0 0 0 I [] 0 f))):jC 211 [.dg 9 I] N Q:=
  eE tQ h
theorem qj N n0(Q:QT [.str])(h :
Br (n0==0) (uP N (Q (bytes [48]))) (zk Q N n0 (decide (n0<0)) b0 N)):jC 22 [.j n0] N Q:=
 eE qM h
theorem Fl N a0 e0 c0(Q:QT [.str])(h :
Bel N (D.sl a0 0 e0 c0)->xm Q N a0 e0 c0 1 N):jC 246 [.sv a0 0 e0 c0] N Q:=
 eE qN h
theorem AP N I(Q:QT [.ag 9])(h :
∀ a,N<=a->Q (D.ag [D.j 1,D.t I,D.t b0,D.j 0,D.j 0,jN,D.j 0,jN,D.sl none 9 [] 0]) a):jC 77 [.str I] N Q:=
  eE H0 h
theorem rO {Q:QT [.row 9 0]}{N0 n4 m5 c5 ab J ac aa I O U Y r1 q1 N}(h :
Br (decide (I<aa)) (jL I J/\∀ b,N<=b->ACalls prog 256 [.row 9 0] [.dg 9 (J.getD I.toNat jD)] b (fun
 c d e=>b<=e->Bel e (D.ag c)->Br (I==n4) (∀ b,e<=b->BCalls prog 273 [Sh.bk 0,.sl 0,.sl 0] [.sb 0 0 0 c.length d,.fn 274 [.pb 1 0 0 0]]
 [Bx.arr 9 0 c d,Bx.var [.sv O 0 U Y]] b (λ_ a c d e f g h=>b<=h->Bel h (D.sl a 0 c d)->Bel h (D.sl e 0 f g) ->
 (m5=r1.length/\c5=q1)/\∀ a,ApA a r1->(c.length=c.length/\d=d)/\∀ b,ApA b c->∀ i,h<=i->xj i [a,b]->ACalls
 prog 275 [.row 9 0] [.sv a 0 r1 c5,.sv b 0 c d] i (λc d h=>i<=h->Off [a,b] (D.ag c)/\(Bel h (D.ag c)->xM
 Q N0 n4 c.length d ab J ac aa (jW.wrap (I+1)) e f g c d h)))) ((m5=r1.length/\c5=q1)/\∀ a,ApA a r1->(c.length =
 c.length/\d=d)/\∀ b,ApA b c->∀ f,e<=f->xj f [a,b]->ACalls prog 275 [.row 9 0] [.sv a 0 r1 c5,.sv b 0 c d] f (λc d e
 => f<=e->Off [a,b] (D.ag c)/\(Bel e (D.ag c)->xM Q N0 n4 c.length d ab J ac aa (jW.wrap (I+1)) O U
 Y c d e))))) ((m5=r1.length/\c5=q1)/\uP N (Q r1 c5))):xM Q N0 n4 m5 c5 ab J ac aa I O U Y r1 q1 N:=
  hE qw h
theorem uB {Q:QT [.sl 0]}{N0 a0 e0 c0 O a9 U c9 J I N}(h :
Br (decide (I<J)) (jL I U/\∃ a b,∃ c:Nat,U.getD I.toNat jD=D.sl a 0 b c/\Br (decide
 (jW.wrap (O+(b.length:Int))<0)) False (yk Q N0 a0 e0 c0 (jW.wrap (O+(b.length:Int))) a9 U c9 J
 (jW.wrap (I+1)) N)) (∀ a,N<=a->ACalls prog 287 [.row 9 0] [.sv none 0 [] 0,.j O] a (λb c d=>a<=d->Bel d (D.ag b) ->
 zi Q N0 b.length c a0 e0 c0 (e0.length:Int) 0 b c d))):yk Q N0 a0 e0 c0 O a9 U c9 J I N:=
  hE wN h
theorem tg {Q:QT [.row 9 0]}{N0 m5 c5 U J Y O I r0 q0 N}(h :
Br (decide (I<O)) (jL I J/\∃ s,J.getD I.toNat jD=D.t s/\(m5=r0.length/\c5=q0)/\∀ a,ApA a r0 ->
 ∀ d,N<=d->xj d [a]->ACalls prog 174 [.bool] [.sv a 0 r0 c5,.str s] d (λb a=>d<=a->Br (!b) ((m5=r0.length/\c5=q0)/\zB r0 [D.t s]
 16/\∀(c:Nat),yc Q N0 (r0++[D.t s]).length c U J Y O (jW.wrap (I+1)) (r0++[D.t s]) c a) (yc Q N0
 m5 c5 U J Y O (jW.wrap (I+1)) r0 q0 a))) ((m5=r0.length/\c5=q0)/\uP N (Q r0 c5))):yc Q N0 m5 c5 U J Y O I r0 q0 N:=
  hE rD h
theorem Im {Q:QT [.str]}{N0 I a1 e1 c1 J N}(h :
kS 30 [.j J] N (λs a=>jX (I.size+s.size)/\kB 174 [.sv a1 0 e1 c1,.str (I++s)] a (λb a=>Br (!b) (uP a (Q (I
 ++ s))) (uR Q N0 I a1 e1 c1 (jW.wrap (J+1)) a)))):uR Q N0 I a1 e1 c1 J N:=
  hE En h
theorem u5 {Q:QT [.sl 0]}{N0 a0 e0 c0 O U c5 I r0 J N}(h :
Br (decide (I<(e0.length:Int))) (jL I e0/\∃ s,e0.getD I.toNat jD=D.t s/\Br (!(jE s O)) (jL I e0/\∃ a,e0.getD I.toNat jD=D.t a/\(U=r0.length/\c5=J)/\zB r0 [D.t a] 16
 /\ ∀(c:Nat),yS Q N0 a0 e0 c0 O (r0++[D.t a]).length c (jW.wrap (I+1)) (r0++[D.t a]) c N) (yS Q N0 a0
 e0 c0 O U c5 (jW.wrap (I+1)) r0 J N)) (w3 (U=r0.length/\c5=J) (∀ a b,N<=b->Fresh N0 b a [D.ag r0]->uP b (Q a r0 J)))):yS Q N0 a0 e0 c0 O U c5 I r0 J N:=
  hE sM h
theorem ti {Q:QT [.row 9 0]}{N0 a0 e0 c0 a1 e1 c1 J c5 I r0 O N}(h :
Br (decide (I<(e0.length:Int))) (jL I e0/\∃ s,e0.getD I.toNat jD=D.t s/\(J=r0.length/\c5=O)/\∀ a,
 ApA a r0->∀ b,N<=b->xj b [a]->ACalls prog 210 [.i] [.sv a 0 r0 c5,.str s] b (λn a=>b<=a->Br (decide (n<0)) (jL I e0/\∃ b,e0.getD I.toNat jD=D.t b/\(J=r0.length/\c5=O)/\zB r0 [D.t b] 16/\∀(c:Nat),yd Q N0 a0 e0 c0
 a1 e1 c1 (r0++[D.t b]).length c (jW.wrap (I+1)) (r0++[D.t b]) c a) (yd Q N0 a0 e0 c0 a1 e1 c1 J c5 (jW.wrap (I
 + 1)) r0 O a))) (yC Q N0 a1 e1 c1 J c5 0 r0 O N)):yd Q N0 a0 e0 c0 a1 e1 c1 J c5 I r0 O N:=
  hE uC h
theorem rR {Q:QT [.sl 0]}{N0 a3 Y c3 n4 U c5 I J r1 O N}(h :
∃ a b,∃ c:Nat,(J.cell 8)=D.sl a 9 b c/\Br (decide (I<(b.length:Int))) (∃ a b,∃ c:Nat,(J.cell 8)=D.sl a 9 b c/\jL I b/\kL 0 211 [.dg 9 (b.getD I.toNat jD)] N (λa b c d=>yy Q N0 a3 Y c3 n4 U c5 I a b
 c 0 J r1 O d)) (w3 (U=r1.length/\c5=O) (∀ a b,N<=b->Fresh N0 b a [D.ag r1]->uP b (Q a r1 O)))):yB Q N0 a3 Y c3 n4 U c5 I J r1 O N:=
  hE tQ h
theorem vk {Q:QT [.str]}{N0 n0 J I N}(h :
Br (bne n0 0) ((10:Int)≠(0:Int)/\Br (decide (Int.tmod n0 10<0)) (1<=([D.lit (.int IntKind.u8 (IntKind.u8.wrap (jW.wrap (48 +
 jW.wrap (0 - Int.tmod n0 10)))))]).length/\∃ a:List Int,List.take 1 [D.lit (.int IntKind.u8 (IntKind.u8.wrap (jW.wrap (48 +
 jW.wrap (0 - Int.tmod n0 10)))))]=List.map (λn=>D.lit (.int IntKind.u8 n)) a/\jX (ByteArray.size (bytesOf a)+I.size)/\(10:Int)≠(0:Int)/\zk Q N0 (jW.wrap (Int.tdiv n0 10)) J (bytesOf a++I) N) (1<=([D.lit (.int
 IntKind.u8 (IntKind.u8.wrap (jW.wrap (48+Int.tmod n0 10))))]).length/\∃ a:List Int,List.take 1 [D.lit (.int IntKind.u8 (IntKind.u8.wrap
 (jW.wrap (48+Int.tmod n0 10))))]=List.map (λa=>D.lit (.int IntKind.u8 a)) a/\jX (ByteArray.size (bytesOf a)+I.size)/\(10:Int)≠(0:Int)/\zk Q N0 (jW.wrap (Int.tdiv n0 10)) J (bytesOf a++I) N)) (Br J (jX (1+I.size)/\uP N (Q (bytes [45]++I))) (uP N (Q I)))):zk Q N0 n0 J I N:=
  hE qM h
theorem Cn {Q:QT [.str]}{N0 a0 e0 c0 I N}(h :
kS 22 [.j I] N (λs a=>jX (1+s.size)/\∀ b,a<=b->ACalls prog 210 [.i] [.sv a0 0 e0 c0,.str (bytes [118]++s)] b
 (λn a=>b<=a->Br (decide (n<0)) (uP a (Q (bytes [118]++s))) (xm Q N0 a0 e0 c0 (jW.wrap (I+1)) a)))):xm Q N0 a0 e0 c0 I N:=
  hE qN h
theorem sC N m0 c0 U Y I J O(Q:QT [.bk 0,.sl 0,.sl 0])(h:∀ E:Env,
Bel N (D.sl none 0 U Y)->Bel N (D.sl I 0 J O)->(m0=U.length/\c0=Y)/\∀ a,ApA a U->∀ b,ApA (Option.some b)
 [D.sl I 0 J O]->∀ c,N<=c->xj c [a,Option.some b]->ACalls prog 285 [.i] [.sv a 0 U c0,.fn 274 [.pd b 0 (D.sl I 0 J O)]]
 c (λn a=>c<=a->Br (n==(-1)) (yg E [.arr 9 0 [] 0,.var [.sv none 0 [] 0]]/\(m0=U.length/\c0=Y)/\uP a (Q (D.j 0) none U Y I
 J O)) (zT E Q N m0 c0 n (jW.wrap (n+1)) U Y I J O a))):jB 273 [.sb 0 0 0 m0 c0,.fn 274 [.pb 1 0 0 0]] [.arr 9 0 U Y,.var [.sv I 0 J O]] N Q:=
  bE wx h
theorem vi {Q:QT [.sl 0]}{N0 m6 c6 U J Y O I r0 q0 N}(h :
Br (decide (I<O)) (jL I J/\∃ a b,∃ c:Nat,J.getD I.toNat jD=D.sl a 0 b c/\(m6=r0.length/\c6 =
 q0)/\zB r0 b 16/\∀(a:Nat),zi Q N0 (r0++b).length a U J Y O (jW.wrap (I+1)) (r0++b) a N) (w3
 (m6=r0.length/\c6=q0) (∀ a b,N<=b->Fresh N0 b a [D.ag r0]->uP b (Q a r0 q0)))):zi Q N0 m6 c6 U J Y O I r0 q0 N:=
  hE wN h
theorem tj {Q:QT [.row 9 0]}{N0 a1 e1 c1 J c5 I r0 O N}(h :
Br (decide (I<(e1.length:Int))) (jL I e1/\∃ s,e1.getD I.toNat jD=D.t s/\(J=r0.length/\c5=O)/\∀ a,
 ApA a r0->∀ b,N<=b->xj b [a]->ACalls prog 210 [.i] [.sv a 0 r0 c5,.str s] b (λn a=>b<=a->Br (decide (n<0)) (jL I e1/\∃ b,e1.getD I.toNat jD=D.t b/\(J=r0.length/\c5=O)/\zB r0 [D.t b] 16/\∀(c:Nat),yC Q N0 a1 e1 c1
 (r0++[D.t b]).length c (jW.wrap (I+1)) (r0++[D.t b]) c a) (yC Q N0 a1 e1 c1 J c5 (jW.wrap (I+1)) r0 O a)))
 ((J=r0.length/\c5=O)/\uP N (Q r0 c5))):yC Q N0 a1 e1 c1 J c5 I r0 O N:=
  hE uC h
theorem sV {Q:QT [.sl 0]}{N0 a3 I c3 n4 m5 c5 Y J O U n8 y0 r1 q1 N}(h :
Br (decide (n8<(I.length:Int))) (Br (Y==n4) (jL n8 I/\∃ s,I.getD n8.toNat jD=D.t s/\kL 0 244 [.sv J 0 O
 U,.str s] N (λa b c d=>yy Q N0 a3 I c3 n4 m5 c5 Y a b c (jW.wrap (n8+1)) y0 r1 q1 d)) ((m5=r1.length/\c5=q1)/\∀
 a,ApA a r1->Off [a] (D.sl J 0 O U)->∀ b,N<=b->xj b [a]->ACalls prog 245 [.row 9 0] [.sv a 0 r1 c5,.sv J 0 O U] b (λc d e
 => b<=e->Off [a] (D.ag c)/\(Bel e (D.ag c)->yB Q N0 a3 I c3 n4 c.length d (jW.wrap (Y+1)) y0 c d e))))
 ((m5=r1.length/\c5=q1)/\∀ a,ApA a r1->Off [a] (D.sl J 0 O U)->∀ b,N<=b->xj b [a]->ACalls prog 245 [.row 9 0] [.sv a 0 r1 c5,.sv
 J 0 O U] b (λc d e=>b<=e->Off [a] (D.ag c)/\(Bel e (D.ag c)->yB Q N0 a3 I c3 n4 c.length d (jW.wrap
 (Y+1)) y0 c d e)))):yy Q N0 a3 I c3 n4 m5 c5 Y J O U n8 y0 r1 q1 N:=
  hE tQ h
theorem sI N a0 e0 c0 J I(Q:QT [.i])(h :
Bel N (D.sl a0 0 e0 c0)->yH Q N a0 e0 c0 J I (e0.length:Int) 0 N):jC 285 [.sv a0 0 e0 c0,.fn 274 [.pd J 0 I]] N Q:=
 eE vJ h
theorem wM E(Q:QT [.bk 0,.sl 0,.sl 0]) N0(Y c0:Nat) I n6 r0 q0 J O U N(h :
Br (decide (n6<(Y:Int))) ((0<=n6/\n6<(Y:Int)/\(0+n6.toNat:Nat)<r0.length)/\(0+n6.toNat:Nat)<r0.length/\∃ s,List.getD r0 (0 +
 n6.toNat:Nat) default=D.t s/\∀ a,ApA (Option.some a) [D.sl J 0 O U]->∀ c,N<=c->xj c [Option.some a]->ACalls prog 274 [.bool] [.str
 s,.pd a 0 (D.sl J 0 O U)] c (λb a=>c<=a->Br (!b) ((0<=I/\I<(Y:Int)/\(0+I.toNat:Nat)<r0.length)/\(0+I.toNat:Nat) <
 r0.length/\zT E Q N0 Y c0 (jW.wrap (I+1)) (jW.wrap (n6+1)) (List.set r0 (0+I.toNat:Nat) (D.t s)) q0 J
 O U a) (zT E Q N0 Y c0 I (jW.wrap (n6+1)) r0 q0 J O U a))) ((0<=I/\I<=(Y:Int)/\(Y:Int)<=(c0 :
 Int)/\I<(c0))/\((0+I.toNat:Nat)+(((Y:Int)).toNat - I.toNat:Nat):Nat)<=r0.length/\(0<=I/\I<=(c0:Int))/\I.toNat<=(List.take (0 +
 I.toNat:Nat) r0++(List.replicate (((Y:Int)).toNat - I.toNat:Nat) (D.t b0)++List.drop ((0+I.toNat:Nat)+(((Y:Int)).toNat - I.toNat:Nat)
 : Nat) r0)).length/\yg E [.arr 9 0 [] 0,.var [.sv none 0 [] 0]]/\(I.toNat=(List.take I.toNat (List.take (0+I.toNat:Nat) r0++(List.replicate
 (((Y:Int)).toNat - I.toNat:Nat) (D.t b0)++List.drop ((0+I.toNat:Nat)+(((Y:Int)).toNat - I.toNat:Nat):Nat) r0))).length/\c0=q0)/\∀ a,
 N<=a->Q (D.j 0) none (List.take I.toNat (List.take (0+I.toNat:Nat) r0++(List.replicate (((Y:Int)).toNat - I.toNat:Nat) (D.t b0)++List.drop
 ((0+I.toNat:Nat)+(((Y:Int)).toNat - I.toNat:Nat):Nat) r0))) q0 J O U a)):zT E Q N0 Y c0 I n6 r0 q0 J O U N:=
  hE wx h
theorem wX {Q:QT [.i]}{N0 a0 e0 c0 J I U O N}(h :
Br (decide (O<U)) (jL O e0/\∃ s,e0.getD O.toNat jD=D.t s/\kB 274 [.str s,.pd J 0 I] N (λb a=>Br
 b (uP a (Q O)) (yH Q N0 a0 e0 c0 J I U (jW.wrap (O+1)) a))) (uP N (Q (-1)))):yH Q N0 a0 e0 c0 J I U O N:=
  hE vJ h
theorem A0 N J a1 I(Q:QT [.bool])(h :
∃ a d,∃ c:Nat,I=D.sl a 0 d c/\kB 174 [.sv a 0 d c,.str J] N (λb a=>uP a (Q b)) ):jC 274 [.str J,.pd a1 0 I] N Q:=
  eE H0 h
end Go.Proofs.YtlaniepnglheoaaGreatDoor
set_option maxRecDepth 100000
namespace Go.Proofs.YtlaniepnglheoaaGreatDoor
open Go Go.Proofs Go.Proofs.Tryz
def CI:Hint:=⟨[hc 3 [1,2,3,4] [] [(3,8,35,9)]],[],[(1,[en 0,en 1,en 2,en 3,en 4,en 5,en 6,en 7,en 8,en 9,en 11,en 12,en 15,{ i:=10,hard:=true,cl:=[14],fs:=[3,14] },{ i:=13,hard:=true,cl:=[17],fs:=[3,17] },en 14,eh 16]),(5,[en 0,en 1,en 2,en 3,en 4,en 5,en 6,{ i:=7,hard:=true,cl:=[33],fs:=[3,33] },{ i:=8,hard:=true,cl:=[34],fs:=[3,34] },eh 9,en 10,eh 11])]⟩
def CK:Hint:=⟨[hc 3 [1,4,5,6] [] [(5,8,35,9)]],[],[(5,[en 0,en 1,en 2,en 3,en 4,en 5,{ i:=6,hard:=true,cl:=[20],fs:=[5,20] },{ i:=7,hard:=true,cl:=[21],fs:=[5,21] },eh 8,en 9,eh 10])]⟩
def FF:Hint:=⟨[],[],[(1,[en 0,en 1,en 2,en 3,en 4,en 5,en 6,en 7,en 8,en 9,en 11,en 12,en 14,ec 10 [14],ec 13 [17],en 15,eh 16])]⟩
def sK:Hint:=⟨[hc 3 [1,2,4,5,10,11,12] [(5,35,9)]],[],[(5,hs 7 [{ i:=3,hard:=true,cl:=[18],fs:=[5,18] },{ i:=4,hard:=true,cl:=[19],fs:=[5,19] }]),(7,hs 4 [{ i:=2,hard:=true,cl:=[23],fs:=[5,23] }])]⟩
def GQ:Hint:=⟨[],[],[(1,hs 3 [ec 1 [3]])]⟩
def xv (Q:QT [.pk,.i,.str,.str,.i,.dc,.dc,.dc,.dc,.row 35 9]) N0 n4 y0 I J O U Y aa ab ac ae ah ai aj ak al ao aq au aw ax ay az a6 a7 a8 ba r3 q3 N:=jT 45 3 Q N0 (an 1 (.pb 0 0 0 0::.pb 1 0 0 0::.pb 2 0 0 0::.j n4::an 34 [])) [.vd y0 9,jV I J O U Y aa ab ac ae ah ai aj ak al ao,.var [.j aq,.str au,.str aw,.j ax,.dc ay,.dc az,.dc a6,.dc a7,.sb 3 9 0 a8 ba],.arr 35 9 r3 q3] N
def vY (Q:QT [.ag 9]) N0 a1 e1 c1 n6 I J O U Y aa ab ac ae ah ai aj ak al ao aq au aw ax ay az a6 a7 a8 ba bb bc bg bh r2 q2 N:=jT 141 3 Q N0 (an 1 (.sv a1 9 e1 c1::an 2 (.pb 0 0 0 0::.pb 1 0 0 0::.j n6::an 19 []))) [jV I J O U Y aa ab ac ae ah ai aj ak al ao,.var [.j aq,.str au,.str aw,.j ax,.j ay,.sv az 2 a6 a7,.j a8,.sv ba 2 bb bc,.sb 2 9 0 bg bh],.arr 35 9 r2 q2] N
def xJ (Q:QT [.pk,.i,.str,.str,.i,.dc,.dc,.dc,.dc,.row 35 9]) N0 m5 c5 aq au aw ax ay y0 I J O U Y aa ab ac ae ah ai aj ak al ao r2 q2 N:=jT 186 3 Q N0 (an 1 (.fn 123 []::.pb 0 0 0 0::an 1 (.pb 1 0 0 0::.sb 2 9 0 m5 c5::an 4 (.sv aq 9 au aw::.j ax::.j ay::an 13 [])))) [.vd y0 9,jV I J O U Y aa ab ac ae ah ai aj ak al ao,.arr 35 9 r2 q2] N
theorem DX N I(Q:QT [.pk,.i,.str,.str,.i,.dc,.dc,.dc,.dc,.row 35 9])(h :
Bel N I->∃ n:Int,(I.cell 0)=D.j n/\∃ s,(I.cell 1)=D.t s/\∃ a,(I.cell 2)=D.t a/\∃ b:Int,(I.cell 3)=D.j b/\kA 2 90 [.dg 2
 (D.sub I 4 2)] N (λx c=>kA 2 90 [.dg 2 (D.sub I 6 2)] c (λc d=>xv Q N 0 I 0 b0 b0 0 0 none [] 0 0 none [] 0 none [] 0 n s a b
 (x.cell 0) (x.cell 1) (c.cell 0) (c.cell 1) 0 0 [] 0 d))):jC 45 [.dg 9 I] N Q:=
  eE CI h
theorem Lv N n0 a1 e1 c1(Q:QT [.ag 9])(h :
Bel N (D.sl a1 9 e1 c1)->vY Q N a1 e1 c1 0 0 b0 b0 0 0 none [] 0 0 none [] 0 none [] 0 n0 b0 b0 0 0 none [] 0 0 none [] 0 0 0 [] 0 N):jC 141 [.j n0,.sv a1 9 e1 c1] N Q:=
 eE CK h
theorem Ny N O I J(Q:QT [.ag 9])(h :
Bel N I->Bel N J->(2=([I,J]).length/\2=2)/\∀ a,ApA a [I,J]->∀ b,N<=b->xj b [a]->ACalls prog 141 [.ag 9] [.j 8,.sv a 9 [I,J]
 2] b (λx c=>b<=c->Off [a] x/\(Bel c x->uP c (Q (D.ag [(x.cell 0),D.t O,(x.cell 2),(x.cell 3),(x.cell 4),(x.cell 5),(x.cell 6),(x.cell 7),
 (x.cell 8)]))))):jC 201 [.str O,.dg 9 I,.dg 9 J] N Q:=
  eE H0 h
theorem Fe N I a1 e1 c1(Q:QT [.pk,.i,.str,.str,.i,.dc,.dc,.dc,.dc,.bk 1])(h :
Bel N I->Bel N (D.sl a1 9 e1 c1)->∃ n:Int,(I.cell 0)=D.j n/\∃ s,(I.cell 1)=D.t s/\∃ a,(I.cell 2)=D.t a/\∃ b:Int,(I.cell 3) =
 D.j b/\kA 2 178 [.dg 2 (D.sub I 4 2)] N (λx c=>kA 2 178 [.dg 2 (D.sub I 6 2)] c (λc d=>uP d (Q n s a b (x.cell 0) (x.cell 1) (c.cell
 0) (c.cell 1) (D.sl a1 9 e1 c1))))):jC 189 [.dg 9 I,.sv a1 9 e1 c1] N Q:=
  eE FF h
theorem H5 N I(Q:QT [.pk,.i,.str,.str,.i,.dc,.dc,.dc,.dc,.row 35 9])(h :
Bel N I->∀ a,N<=a->ACalls prog 186 [.pk,.i,.str,.str,.i,.dc,.dc,.dc,.dc,.row 35 9] [.dg 9 I,.fn 123 []] a (λn s b c x d e f
 g h i=>a<=i->Bel i (D.ag g)->(g.length=g.length/\h=h)/\uP i (Q n s b c x d e f g h))):jC 123 [.dg 9 I] N Q:=
  eE GQ h
theorem Lc N n0 a1 e1 c1(Q:QT [.ag 9])(h :
Bel N (D.sl a1 9 e1 c1)->∀ a,N<=a->Q (D.ag [D.j n0,D.t b0,D.t b0,D.j 0,D.j 0,jN,D.j 0,jN,D.sl a1 9 e1 c1]) a):jC 258 [.j n0,.sv a1 9 e1 c1] N Q:=
 eE H0 h
theorem vl {Q:QT [.pk,.i,.str,.str,.i,.dc,.dc,.dc,.dc,.row 35 9]}{N0 n4 y0 ai aj ak al ao aq au aw ax ay az a6 a7 a8 ba aa ab ac ae I J O U ah Y r3 q3 N}(h :
∃ a b,∃ c:Nat,(y0.cell 8)=D.sl a 9 b c/\Br (decide (n4<(b.length:Int))) (∃ a b,∃ c:Nat,(y0.cell 8)=D.sl a 9 b c/\jL n4 b/\∀ a,N<=a->ACalls prog 45 [.pk,.i,.str,.str,.i,.dc,.dc,.dc,.dc,.row 35 9] [.dg 9 (b.getD n4.toNat jD)]
 a (λn s b c x d e f g h i=>a<=i->Bel i (D.ag g)->(g.length=g.length/\h=h)/\∀ a j,i<=j->Fresh N0 j a
 [D.ag g,x,d,e,f,I,J,O,U,D.ag r3]->(ah=r3.length/\Y=q3)/\zB r3 [D.ag [D.j n,D.t s,D.t b,D.j c,x,d,e,
 f,D.sl a 9 g h]] 136/\∀(i:Nat),xv Q N0 (jW.wrap (n4+1)) y0 ai aj ak al ao aq au aw ax ay az a6
 a7 a8 ba aa ab ac ae I J O U (r3++[D.ag [D.j n,D.t s,D.t b,D.j c,x,d,e,f,D.sl a 9 g h]]).length i (r3 ++
 [D.ag [D.j n,D.t s,D.t b,D.j c,x,d,e,f,D.sl a 9 g h]]) i j)) ((ah=r3.length/\Y=q3)/\uP N (Q aa ab ac ae I J
 O U r3 Y))):xv Q N0 n4 y0 ai aj ak al ao aq au aw ax ay az a6 a7 a8 ba aa ab ac ae I J O U ah Y r3 q3 N:=
  hE CI h
theorem pj {Q:QT [.ag 9]}{N0 a1 e1 c1 n6 ao aq au aw ax ay az a6 a7 a8 ba bb bc bg bh ab ac ae ah ai I J O aj U Y aa ak al r2 q2 N}(h :
Br (decide (n6<(e1.length:Int))) (jL n6 e1/\∀ b,N<=b->ACalls prog 45 [.pk,.i,.str,.str,.i,.dc,.dc,.dc,.dc,.row
 35 9] [.dg 9 (e1.getD n6.toNat jD)] b (λn s c d x e f g h i j=>b<=j->Bel j (D.ag h)->(h.length=h.length/\i=i)/\∀ a
 b,j<=b->Fresh N0 b a [D.ag h,x,e,f,g,D.sl I 2 J O,D.sl U 2 Y aa,D.ag r2]->(ak=r2.length/\al=q2)/\zB r2
 [D.ag [D.j n,D.t s,D.t c,D.j d,x,e,f,g,D.sl a 9 h i]] 136/\∀(j:Nat),vY Q N0 a1 e1 c1 (jW.wrap (n6+1)) ao
 aq au aw ax ay az a6 a7 a8 ba bb bc bg bh ab ac ae ah ai I J O aj U Y aa (r2++[D.ag [D.j n,D.t s,
 D.t c,D.j d,x,e,f,g,D.sl a 9 h i]]).length j (r2++[D.ag [D.j n,D.t s,D.t c,D.j d,x,e,f,g,D.sl a 9 h i]]) j b)) (w3
 (ak=r2.length/\al=q2) (∀ a b,N<=b->Fresh N0 b a [D.ag r2,D.sl I 2 J O,D.sl U 2 Y aa]->uP b (Q (D.ag [D.j ab,D.t ac,
 D.t ae,D.j ah,D.j ai,D.sl I 2 J O,D.j aj,D.sl U 2 Y aa,D.sl a 9 r2 q2]))))):vY Q N0 a1 e1 c1 n6 ao aq au aw ax ay az a6 a7 a8 ba bb bc bg bh ab ac ae ah ai I J O aj U Y aa ak al r2 q2 N:=
  hE CK h
theorem AL N I(Q:QT [.pk,.i,.str,.str,.i,.dc,.dc,.dc,.dc,.row 35 9])(h :
Bel N I->∃ a b,∃ c:Nat,(I.cell 8)=D.sl a 9 b c/\xJ Q N 0 0 a b c (b.length:Int) 0 I 0 b0 b0 0 0 none [] 0 0 none [] 0
 none [] 0 [] 0 N):jC 186 [.dg 9 I,.fn 123 []] N Q:=
  eE sK h
theorem uz {Q:QT [.pk,.i,.str,.str,.i,.dc,.dc,.dc,.dc,.row 35 9]}{N0 m5 c5 ay O az ax J y0 U Y aa ab ac ae ah ai aj ak al ao aq au aw I q2 N}(h :
Br (decide (J<ax)) (jL J O/\∀ b,N<=b->ACalls prog 123 [.pk,.i,.str,.str,.i,.dc,.dc,.dc,.dc,.row 35 9]
 [.dg 9 (O.getD J.toNat jD)] b (λn s c d x e f g h i j=>b<=j->Bel j (D.ag h)->(h.length=h.length/\i=i)/\∀ a b,j
 <= b->Fresh N0 b a [D.ag h,x,e,f,g,D.ag I]->(m5=I.length/\c5=q2)/\zB I [D.ag [D.j n,D.t s,D.t c,D.j d,x,e,f,g,
 D.sl a 9 h i]] 136/\∀(j:Nat),xJ Q N0 (I++[D.ag [D.j n,D.t s,D.t c,D.j d,x,e,f,g,D.sl a 9 h i]]).length j ay
 O az ax (jW.wrap (J+1)) y0 U Y aa ab ac ae ah ai aj ak al ao aq au aw (I++[D.ag [D.j n,D.t s,D.t c,D.j
 d,x,e,f,g,D.sl a 9 h i]]) j b)) ((m5=I.length/\c5=q2)/\∀ a,ApA a I->Off [a] y0->∀ b,N<=b->xj b [a]->ACalls prog 189
 [.pk,.i,.str,.str,.i,.dc,.dc,.dc,.dc,Sh.bk 1] [.dg 9 y0,.sv a 9 I c5] b (λc d e f g h i j k l=>b<=l->k=D.sl a 9
 I c5/\Off [a] g/\Off [a] h/\Off [a] i/\Off [a] j/\(m5=I.length/\c5=q2)/\uP l (Q c d e f g h i j I c5)))):xJ Q N0 m5 c5 ay O az ax J y0 U Y aa ab ac ae ah ai aj ak al ao aq au aw I q2 N:=
  hE sK h
end Go.Proofs.YtlaniepnglheoaaGreatDoor
set_option maxRecDepth 100000
namespace Go.Proofs.YtlaniepnglheoaaGreatDoor
open Go Go.Proofs Go.Proofs.Tryz
def FG:Hint:=⟨[],[],[(7,[en 0,en 1,en 2,en 3,en 7,en 8,en 9,en 10,ec 4 [14],en 5,en 6,ec 11 [21],en 12,en 13,en 14]),(8,hs 8 [ec 4 [28]])]⟩
def Dg:Hint:=⟨[],[],[(1,hs 3 [ec 1 [3]]),(3,hs 3 [ec 1 [6]])]⟩
def qK:Hint:=⟨[hc 3 [1,3,8,9,10] [(3,9,0)]],[],[(5,hs 6 [ec 2 [15]]),(17,[en 0,en 1,en 2,en 3,en 4,en 5,en 6,en 7,en 8,en 9,en 10,en 11,en 12]),(21,[en 0,en 1,en 2,en 3,en 4,en 5,en 9,en 10,en 11,ec 6 [75],en 7,en 8,en 12,en 13,en 14]),(25,[en 0,en 1,en 2,en 3,en 4,eh 5,en 6,en 7,en 8]),(27,[en 0,en 1,en 2,en 3,en 4,en 5,en 6,en 7,en 8,en 9,en 13,en 14,en 18,en 19,en 20,ec 10 [111],en 11,en 12,ec 15 [116],en 16,en 17,en 21,en 22,en 23])]⟩
def GP:Hint:=⟨[],[],[(1,hs 3 [ec 1 [3]]),(3,hs 3 [ec 1 [6]])]⟩
def Df:Hint:=⟨[],[],[(1,hs 3 [ec 1 [3]]),(3,hs 3 [ec 1 [6]])]⟩
def xl (Q:QT [.str]) N0 J c3 O U Y n9 I y0 r1 q1 N:=jT 65 3 Q N0 (an 1 (.pb 0 0 0 0::an 1 (.sb 1 0 0 J c3::an 4 (.sv O 9 U Y::.j n9::.j I::an 139 [])))) [.vd y0 9,.arr 9 0 r1 q1] N
theorem PS N a0 e0 c0 I(Q:QT [.str])(h :
Bel N (D.sl a0 0 e0 c0)->kS 197 [.sv a0 0 e0 c0,.str I] N (λs a=>uP a (Q s))):jC 132 [.sv a0 0 e0 c0,.str I] N Q:=
 eE H0 h
theorem wq N I(Q:QT [.str])(h :
Bel N I->∃ n:Int,(I.cell 0)=D.j n/\Br (n==1) (uP N (Q (bytes [73]))) (Br (n==2) (uP N (Q (bytes [66]))) (Br (n==3) (∃ a b,∃ c:Nat,
 (I.cell 1)=D.sl a 2 b c/\jL 0 b/\∃ a c,∃ d:Nat,(I.cell 1)=D.sl a 2 c d/\jL 1 c/\kS 63 [.dg 2 (b.getD 0 jD)] N (λs a=>jX (1+s.size)/\jX (ByteArray.size (bytes [40]
 ++ s)+1)/\kS 63 [.dg 2 (c.getD 1 jD)] a (λa b=>jX (ByteArray.size (bytes [40]++s++bytes [62])+a.size)/\jX (ByteArray.size (bytes [40]++s++bytes [62]++a)+1)/\uP b (Q (bytes [40]++s++bytes [62]
 ++ a++bytes [41]))))) (∃ a b,∃ c:Nat,(I.cell 1)=D.sl a 2 b c/\jL 0 b/\kS 63 [.dg 2
 (b.getD 0 jD)] N (λa b=>jX (1+a.size)/\jX (ByteArray.size (bytes [60]++a)+1) /\
 uP b (Q (bytes [60]++a++bytes [62]))))))):jC 63 [.dg 2 I] N Q:=
  eE FG h
theorem EX N I(Q:QT [.str])(h :
Bel N I->kB 62 [.dg 2 I] N (λb a=>Br (!b) (uP a (Q b0)) (kS 63 [.dg 2 I] a (λs a=>uP a (Q s))))):jC 27 [.dg 2 I] N Q:=
 eE Dg h
theorem Ff N I(Q:QT [.str])(h :
Bel N I->∃ a b,∃ c:Nat,(I.cell 8)=D.sl a 9 b c/\xl Q N 0 0 a b c (b.length:Int) 0 I [] 0 N):jC 65 [.dg 9 I] N Q:=
 eE qK h
theorem H4 N I(Q:QT [.str])(h :
Bel N I->kB 64 [.dg 9 I] N (λb a=>Br (!b) (uP a (Q b0)) (kS 65 [.dg 9 I] a (λs a=>uP a (Q s))))):jC 29 [.dg 9 I] N Q:=
 eE GP h
theorem EW N I(Q:QT [.str])(h :
Bel N I->kB 59 [.dg 9 I] N (λb a=>Br (!b) (uP a (Q b0)) (kS 65 [.dg 9 I] a (λs a=>uP a (Q s))))):jC 54 [.dg 9 I] N Q:=
 eE Df h
theorem sS {Q:QT [.str]}{N0 I c3 a8 Y c8 n9 O J r1 U N}(h :
Br (decide (O<n9)) (jL O Y/\kS 65 [.dg 9 (Y.getD O.toNat jD)] N (λs a=>(I=r1.length/\c3=U) /\
 zB r1 [D.t s] 16/\∀(c:Nat),xl Q N0 (r1++[D.t s]).length c a8 Y c8 n9 (jW.wrap (O+1)) J (r1++[D.t s]) c a)) (∃ n :
 Int,(J.cell 0)=D.j n/\Br (n==1) (∃ a,(J.cell 1)=D.t a/\uP N (Q a)) (Br (n==2) (∃ a:Int,(J.cell 3)=D.j a/\kS 30 [.j a] N (fun
 a b=>uP b (Q a))) (Br (n==3) (∃ a:Int,(J.cell 3)=D.j a/\∃ b:Int,(J.cell 3)=D.j b/\(0<=a/\a<=jW.wrap (b+1) /\
 jW.wrap (b+1)<=2)/\jX (1+ByteArray.size (ByteArray.extract (bytes [102,116]) a.toNat (jW.wrap (b+1)).toNat))/\∀ c,N<=c->Q (bytes [35]++ByteArray.extract (bytes [102,116]) a.toNat (jW.wrap (b+1)).toNat) c) (Br (n==4) (Br
 ((I:Int)==1) (((0:Int)<=(0:Int)/\0<(I:Int)/\0<r1.length)/\0<r1.length/\∃ a,r1.getD 0 jD=D.t a/\jX (2+a.size)/\jX (ByteArray.size (bytes [40,33]++a)+1)/\uP N (Q (bytes [40,33]++a++bytes [41]))) (((0:Int) <=
 (0:Int)/\0<(I:Int)/\0<r1.length)/\0<r1.length/\∃ a,r1.getD 0 jD=D.t a/\jX (1+a.size)/\∃ b,
 (J.cell 1)=D.t b/\jX (ByteArray.size (bytes [40]++a)+b.size)/\((0:Int)<=(1:Int)/\1<(I:Int)/\1<r1.length) /\
 1<r1.length/\∃ c,r1.getD 1 jD=D.t c/\jX (ByteArray.size (bytes [40]++a++b)+c.size)/\jX (ByteArray.size
 (bytes [40]++a++b++c)+1)/\uP N (Q (bytes [40]++a++b++c++bytes [41])))) (Br (n==5) ((I=r1.length /\
 c3=U)/\∀ a,ApA a r1->∀ b,N<=b->xj b [a]->ACalls prog 132 [.str] [.sv a 0 r1 c3,.str (bytes [32])] b (λa c=>b<=c->jX (4 +
 a.size)/\jX (ByteArray.size (bytes [40,105,102,32]++a)+1)/\uP c (Q (bytes [40,105,102,32]
 ++ a++bytes [41])))) (Br (n==6) (∃ a,(J.cell 1)=D.t a/\jX (2+a.size)/\jX (ByteArray.size (bytes [40,92]++a)+1)/\((0:Int)<=(0:Int)/\0<(I:Int)/\0<r1.length)/\0<r1.length/\∃ b,r1.getD 0 jD=D.t b/\kS 27 [.dg 2
 (D.sub J 4 2)] N (λc d=>jX (ByteArray.size (bytes [40,92]++a++bytes [58])+c.size)/\jX (ByteArray.size (bytes [40,
 92]++a++bytes [58]++c)+1)/\jX (ByteArray.size (bytes [40,92]++a++bytes [58]++c++bytes [46])+b.size)/\jX (ByteArray.size (bytes [40,92]++a++bytes [58]++c++bytes [46]++b)+1)/\uP d (Q
 (bytes [40,92]++a++bytes [58]++c++bytes [46]++b++bytes [41])))) (Br (n==7) ((I=r1.length/\c3=U)/\∀ a,ApA a r1->∀ b,N <=
 b->xj b [a]->ACalls prog 132 [.str] [.sv a 0 r1 c3,.str (bytes [32])] b (λa c=>b<=c->jX (1+a.size)
 /\ jX (ByteArray.size (bytes [40]++a)+1)/\uP c (Q (bytes [40]++a++bytes [41])))) (Br (n==8) (∃ a,(J.cell 1) =
 D.t a/\jX (5+a.size)/\jX (ByteArray.size (bytes [40,108,101,116,32]++a)+1)/\(I =
 r1.length/\c3=U)/\∀ b,ApA b r1->∀ c,N<=c->xj c [b]->ACalls prog 132 [.str] [.sv b 0 r1 c3,.str (bytes [32])] c (λb d=>
 c<=d->jX (ByteArray.size (bytes [40,108,101,116,32]++a++bytes [61])+b.size)/\jX (ByteArray.size (bytes [40,108,
 101,116,32]++a++bytes [61]++b)+1)/\uP d (Q (bytes [40,108,101,116,32]++a++bytes [61]++b++bytes
 [41])))) (Br (n==9) (∃ a,(J.cell 1)=D.t a/\jX (5+a.size)/\jX (ByteArray.size (bytes [40,114,101,99,32]++a)+1)/\∃ b,(J.cell 2)=D.t b/\jX (ByteArray.size (bytes [40,114,101,99,32]++a++bytes [32])+b.size)/\jX (ByteArray.size (bytes [40,114,101,99,32]++a++bytes [32]++b)+1)/\((0:Int)<=(0:Int)/\0
 < (I:Int)/\0<r1.length)/\0<r1.length/\∃ c,r1.getD 0 jD=D.t c/\kS 27 [.dg 2 (D.sub J 4 2)] N (λd e=>jX (ByteArray.size
 (bytes [40,114,101,99,32]++a++bytes [32]++b++bytes [58])+d.size)/\jX (ByteArray.size (bytes [40,114,101,99,
 32]++a++bytes [32]++b++bytes [58]++d)+1)/\kS 27 [.dg 2 (D.sub J 6 2)] e (λe f=>jX (ByteArray.size
 (bytes [40,114,101,99,32]++a++bytes [32]++b++bytes [58]++d++bytes [62])+e.size)/\jX (ByteArray.size
 (bytes [40,114,101,99,32]++a++bytes [32]++b++bytes [58]++d++bytes [62]++e)+1)/\jX (ByteArray.size
 (bytes [40,114,101,99,32]++a++bytes [32]++b++bytes [58]++d++bytes [62]++e++bytes [46])+c.size)
 /\ jX (ByteArray.size (bytes [40,114,101,99,32]++a++bytes [32]++b++bytes [58]++d++bytes [62]++e++bytes [46]++c)+1)/\uP f (Q (bytes [40,114,101,99,32]++a++bytes [32]++b++bytes [58]++d++bytes [62]++e++bytes [46]++c ++
 bytes [41]))))) (Br (n==10) (((0:Int)<=(0:Int)/\0<(I:Int)/\0<r1.length)/\0<r1.length/\∃ a,r1.getD 0 jD=D.t a/\jX (1 +
 a.size)/\jX (ByteArray.size (bytes [60]++a)+1)/\uP N (Q (bytes [60]++a++bytes [62])))
 (Br (n==11) (((0:Int)<=(0:Int)/\0<(I:Int)/\0<r1.length)/\0<r1.length/\∃ a,r1.getD 0 jD=D.t a/\jX (1+a.size)/\uP N (Q (bytes [126]++a))) (Br (n==12) (((0:Int)<=(0:Int)/\0<(I:Int)/\0<r1.length)/\0<r1.length/\∃ a,
 r1.getD 0 jD=D.t a/\jX (5+a.size)/\jX (ByteArray.size (bytes [40,114,117,110,32]++a)+1)/\uP N (Q (bytes [40,114,117,110,32]++a++bytes [41]))) (((0:Int)<=(0:Int)/\0<(I:Int)/\0<r1.length)/\0<r1.length
 /\ ∃ a,r1.getD 0 jD=D.t a/\jX (6+a.size)/\jX (ByteArray.size (bytes [40,108,105,102,116,32]++a)+1)/\uP N (Q (bytes [40,108,105,102,116,32]++a++bytes [41])))))))))))))))):xl Q N0 I c3 a8 Y c8 n9 O J r1 U N:=
  hE qK h
end Go.Proofs.YtlaniepnglheoaaGreatDoor
set_option maxRecDepth 100000
namespace Go.Proofs.YtlaniepnglheoaaGreatDoor
open Go Go.Proofs Go.Proofs.Tryz
def GU:Hint:=⟨[hc 3 [0,1,5,6] [(5,5,0)]],[],[]⟩
def KL:Hint:=⟨[],[],[(7,[en 0,en 1,en 2,en 3,en 7,en 8,en 9,en 10,ec 4 [14],en 5,en 6,ec 11 [21],en 12,en 13,en 14]),(8,hs 8 [ec 4 [28]])]⟩
def KN:Hint:=⟨[],[],[(5,[en 0,en 1,en 2,en 3,en 4,en 5,en 9,en 10,en 11,ec 6 [20],en 7,en 8,en 12,en 13,en 14]),(9,[en 0,en 1,en 2,en 3,en 4,eh 5,en 6,en 7,en 8]),(11,[en 0,en 1,en 2,en 3,en 4,en 5,en 6,en 7,en 8,en 9,en 13,en 14,en 18,en 19,en 20,ec 10 [56],en 11,en 12,ec 15 [61],en 16,en 17,en 21,en 22,en 23])]⟩
def CL:Hint:=⟨[hc 3 [1,3,4] [(3,9,0)]],[],[(5,hs 10 [ec 6 [18]]),(16,[en 0,en 1,en 2,en 3,en 4,en 5,en 6,en 7,en 8,en 9,en 10,en 11,en 12]),(21,hs 4 [ec 2 [77]])]⟩
def Dl:Hint:=⟨[],[],[(1,hs 3 [ec 1 [3]]),(3,hs 3 [ec 1 [6]])]⟩
def GW:Hint:=⟨[],[],[(1,hs 3 [ec 1 [3]]),(3,hs 3 [ec 1 [6]])]⟩
def CE:Hint:=⟨[hc 9 [0,6,7,8,9]],[],[]⟩
def KK:Hint:=⟨[],[],[(1,[en 0,en 1,en 2,en 3,en 4,en 5,en 6,en 7,en 8,en 9,en 10,en 11,en 12,en 13,en 14,en 15,en 16,en 17,en 18,en 19,en 20,en 21,en 22,en 23,en 24,en 25,en 26,en 27,en 28,en 29,en 30,en 31,en 32,en 33,en 34,en 35,en 36,en 37,en 38])]⟩
def CH:Hint:=⟨[hc 2 [0,3]],[],[(2,[en 0,en 1,en 2,en 3,en 4,en 5,en 6,en 7,en 8,en 9,en 10,en 11,en 12,en 13,en 14,en 15,en 16,en 17,en 18,en 19,en 20,en 21,en 22,en 23,en 24,en 25,en 26,en 27,en 28,en 29,en 30,en 31,en 32,en 33,en 34,en 35,en 36,en 37,en 38,en 39,en 40,en 41,en 42,en 43,en 44,en 45,en 46,en 47,en 48,en 49,en 50,en 51,en 52,en 53,en 54,en 55,en 56,en 57]),(4,[en 0,en 1,en 2,en 3,en 4,en 5,en 6,en 7,en 8,en 9,en 10])]⟩
def rn:Hint:=⟨[hc 2 [0,2,3,5,8,9]],[],[(6,[en 0,en 1,en 2,en 3,eh 4,en 5,eh 6,en 7,eh 8])]⟩
def MJ:Hint:=⟨[],[],[(9,hs 5 [ec 3 [27]])]⟩
def KP:Hint:=⟨[],[],[(3,hs 5 [ec 3 [14]]),(4,[en 0,en 1,en 2,en 3,en 4,en 5,en 6,en 7,en 8,en 9,en 10,en 11,en 12,en 13,en 14,en 15,en 16,en 17,en 18,eh 19]),(5,[en 0,en 1,en 2,en 3,en 4,en 5,en 6,en 7,en 8,en 9,en 10,en 11,en 12,en 13,en 14,en 15,en 16,en 17,en 18,eh 19,en 20,en 21]),(9,[en 0,en 1,en 2,en 3,en 4,en 5,en 6,en 7,en 8,en 9,en 10,en 11,en 12,en 13,en 14,eh 15]),(11,hs 5 [ec 3 [87]])]⟩
def KO:Hint:=⟨[],[],[(7,hs 5 [ec 3 [21]]),(11,hs 5 [ec 3 [33]]),(15,hs 5 [ec 3 [46]]),(17,hs 5 [ec 3 [53]]),(19,hs 5 [ec 3 [60]]),(21,hs 5 [ec 3 [67]]),(22,hs 7 [ec 5 [73]])]⟩
def KQ:Hint:=⟨[],[],[(1,[en 0,en 1,en 2,en 3,en 4,en 5,en 6,en 7,en 8,en 9,en 10,en 11,en 12,en 13,en 14,en 15,en 16,en 17,en 18,en 19,en 20,en 21,en 22,eh 23]),(16,[en 0,en 1,en 2,en 3,en 4,en 5,en 6,en 7,en 8,en 9,en 10,en 11,en 12,en 13,en 14,en 15,en 16,en 17,en 18,en 19,en 20,en 21,en 22])]⟩
def FJ:Hint:=⟨[],[],[(3,hs 19 [ec 15 [25]])]⟩
def vM (Q:QT [.str]) N0 a0 e0 c0 I J c5 O r0 U N:=jT 162 3 Q N0 (.sv a0 0 e0 c0::.str I::an 3 (.sb 0 0 0 J c5::.j O::an 20 [])) [.arr 5 0 r0 U] N
def vZ (Q:QT [.str]) N0 I c3 n4 J r1 O N:=jT 52 3 Q N0 (an 1 (.pb 0 0 0 0::an 1 (.sb 1 0 0 I c3::.j n4::an 75 []))) [.vd J 9,.arr 9 0 r1 O] N
def ye (Q:QT [.i,.bool]) N0 I b6 J O U N:=jT 205 9 Q N0 (.str I::an 5 (.bool b6::.str J::.j O::.j U::an 53 [])) [] N
def yf E(Q:QT [.str,.str,.i,.bool]) N0 U I J O N:=AT prog 84 [.str,.str,.i,.bool] Q N0 (.io E [.var [.str b0,.int .i64 0,.bool false]]) (E1 prog 84 2) ⟨.pb 0 0 0 0::an 2 (.int .i64 U::an 80 []),[.var [.str I,.int .i64 J,.bool O]],N,some (wa E 0 [.var [.str b0,.int .i64 0,.bool false]],[])⟩
def q9 E(Q:QT [.ag 9,.str,.i,.bool]) N0 n2 n3 n9 I J O y1 U Y aa ab ac ae ah ai aj ak al ao aq au aw N:=AT prog 145 [.ag 9,.str,.i,.bool] Q N0 (.io E [.var [.str b0,.int .i64 0,.bool false]]) (E1 prog 145 2) ⟨.pb 0 0 0 0::an 1 (.int .i64 n2::.int .i64 n3::an 1 (.pb 1 0 0 0::an 2 (.pb 2 0 0 0::.int .i64 n9::an 27 []))),[.var [.str I,.int .i64 J,.bool O],.vd y1 9,.var [.int .i64 U,.str Y,.str aa,.int .i64 ab,.int .i64 ac,.sv ae 2 ah ai,.int .i64 aj,.sv ak 2 al ao,.sv aq 9 au aw]],N,some (wa E 0 [.var [.str b0,.int .i64 0,.bool false]],[])⟩
def zl E(Q:QT [.ag 9,.str,.i,.bool]) N0 n2 n3 n9 I J O U Y aa ab ac ae ah ai aj ak al ao aq au aw ax ay az a6 a7 a8 ba bb bc bg r3 q3 N:=AT prog 145 [.ag 9,.str,.i,.bool] Q N0 (.io E [.var [.str b0,.int .i64 0,.bool false]]) (E1 prog 145 2) ⟨.pb 0 0 0 0::an 1 (.int .i64 n2::.int .i64 n3::an 1 (.pb 1 0 0 0::an 2 (.pb 2 0 0 0::.int .i64 n9::an 27 []))),[.var [.str I,.int .i64 J,.bool O],.var [.dc U,.dc Y,.dc aa,.dc ab,.dc ac,.dc ae,.dc ah,.dc ai,.sb 3 9 0 aj ak],.var [.int .i64 al,.str ao,.str aq,.int .i64 au,.int .i64 aw,.sv ax 2 ay az,.int .i64 a6,.sv a7 2 a8 ba,.sv bb 9 bc bg],.arr 35 9 r3 q3],N,some (wa E 0 [.var [.str b0,.int .i64 0,.bool false]],[])⟩
theorem PW N a0 e0 c0 I(Q:QT [.str])(h :
Bel N (D.sl a0 0 e0 c0)->vM Q N a0 e0 c0 I 0 0 0 [] 0 N):jC 162 [.sv a0 0 e0 c0,.str I] N Q:=
 eE GU h
theorem tH N I(Q:QT [.str])(h :
Bel N I->∃ n:Int,(I.cell 0)=D.j n/\Br (n==1) (uP N (Q (bytes [73]))) (Br (n==2) (uP N (Q (bytes [66]))) (Br (n==3) (∃ a b,∃ c:Nat,
 (I.cell 1)=D.sl a 2 b c/\jL 0 b/\∃ a c,∃ d:Nat,(I.cell 1)=D.sl a 2 c d/\jL 1 c/\kS 50 [.dg 2 (b.getD 0 jD)] N (λs a=>jX (1+s.size)/\jX (ByteArray.size (bytes [40]
 ++ s)+1)/\kS 50 [.dg 2 (c.getD 1 jD)] a (λa b=>jX (ByteArray.size (bytes [40]++s++bytes [62])+a.size)/\jX (ByteArray.size (bytes [40]++s++bytes [62]++a)+1)/\uP b (Q (bytes [40]++s++bytes [62]
 ++ a++bytes [41]))))) (∃ a b,∃ c:Nat,(I.cell 1)=D.sl a 2 b c/\jL 0 b/\kS 50 [.dg 2
 (b.getD 0 jD)] N (λa b=>jX (1+a.size)/\jX (ByteArray.size (bytes [60]++a)+1) /\
 uP b (Q (bytes [60]++a++bytes [62]))))))):jC 50 [.dg 2 I] N Q:=
  eE KL h
theorem Lx N I a1 e1 c1(Q:QT [.str])(h :
Bel N I->Bel N (D.sl a1 0 e1 c1)->∃ n:Int,(I.cell 0)=D.j n/\Br (n==5) (kS 162 [.sv a1 0 e1 c1,.str (bytes [32])] N (λs a=>jX (4+s.size)/\jX (ByteArray.size (bytes [40,105,102,32]++s)+1)/\uP a (Q (bytes [40,105,102,32]++s++bytes
 [41])))) (Br (n==6) (∃ a,(I.cell 1)=D.t a/\jX (2+a.size)/\jX (ByteArray.size (bytes [40,92]++a)+1)/\jL 0 e1/\∃ b,e1.getD 0 jD=D.t b/\kS 50 [.dg 2 (D.sub I 4 2)] N (λc d=>
 jX (ByteArray.size (bytes [40,92]++a++bytes [58])+c.size)/\jX (ByteArray.size (bytes [40,92]++a++bytes [58]++c)+1)/\jX (ByteArray.size (bytes [40,92]++a++bytes [58]++c++bytes [46])+b.size) /\
 jX (ByteArray.size (bytes [40,92]++a++bytes [58]++c++bytes [46]++b)+1)/\uP d (Q (bytes [40,92]++a++bytes
 [58]++c++bytes [46]++b++bytes [41])))) (Br (n==7) (kS 162 [.sv a1 0 e1 c1,.str (bytes [32])] N (λa b=>jX (1+a.size)/\jX (ByteArray.size (bytes [40]++a)+1)/\uP b (Q (bytes [40]++a++bytes [41])))) (Br (n==8) (∃ a,
 (I.cell 1)=D.t a/\jX (5+a.size)/\jX (ByteArray.size (bytes [40,108,101,116,32]++a)+1) /\
 kS 162 [.sv a1 0 e1 c1,.str (bytes [32])] N (λb c=>jX (ByteArray.size (bytes [40,108,101,116,32]++a++bytes [61])+b.size)/\jX (ByteArray.size (bytes [40,108,101,116,32]++a++bytes [61]++b)+1)/\uP c (Q (bytes [40,108,
 101,116,32]++a++bytes [61]++b++bytes [41])))) (Br (n==9) (∃ a,(I.cell 1)=D.t a/\jX (5+a.size) /\
 jX (ByteArray.size (bytes [40,114,101,99,32]++a)+1)/\∃ b,(I.cell 2)=D.t b/\jX (ByteArray.size (bytes [40,114,101,
 99,32]++a++bytes [32])+b.size)/\jX (ByteArray.size (bytes [40,114,101,99,32]++a++bytes [32]++b)+1)/\jL 0 e1/\∃ c,e1.getD 0 jD=D.t c/\kS 50 [.dg 2 (D.sub I 4 2)] N (λd e
 => jX (ByteArray.size (bytes [40,114,101,99,32]++a++bytes [32]++b++bytes [58])+d.size)/\jX (ByteArray.size (bytes
 [40,114,101,99,32]++a++bytes [32]++b++bytes [58]++d)+1)/\kS 50 [.dg 2 (D.sub I 6 2)] e (λe f=>
 jX (ByteArray.size (bytes [40,114,101,99,32]++a++bytes [32]++b++bytes [58]++d++bytes [62])+e.size) /\
 jX (ByteArray.size (bytes [40,114,101,99,32]++a++bytes [32]++b++bytes [58]++d++bytes [62]++e)+1) /\
 jX (ByteArray.size (bytes [40,114,101,99,32]++a++bytes [32]++b++bytes [58]++d++bytes [62]++e++bytes [46])+c.size)/\jX (ByteArray.size (bytes [40,114,101,99,32]++a++bytes [32]++b++bytes [58]++d++bytes [62]++e++bytes [46] ++
 c)+1)/\uP f (Q (bytes [40,114,101,99,32]++a++bytes [32]++b++bytes [58]++d++bytes [62]++e++bytes
 [46]++c++bytes [41]))))) (Br (n==12) (jL 0 e1/\∃ a,e1.getD 0 jD=D.t a/\jX (5+a.size)/\jX (ByteArray.size (bytes [40,114,117,110,32]++a)+1)/\uP N (Q (bytes [40,114,117,110,32]
 ++ a++bytes [41]))) (jL 0 e1/\∃ a,e1.getD 0 jD=D.t a/\jX (6+a.size)/\jX (ByteArray.size (bytes [40,108,105,102,116,32]++a)+1)/\uP N (Q (bytes [40,108,105,102,116,
 32]++a++bytes [41]))))))))):jC 102 [.dg 9 I,.sv a1 0 e1 c1] N Q:=
  eE KN h
theorem Ly N I(Q:QT [.str])(h :
Bel N I->vZ Q N 0 0 0 I [] 0 N):jC 52 [.dg 9 I] N Q:=
 eE CL h
theorem Eg N I(Q:QT [.str])(h :
Bel N I->kB 40 [.dg 9 I] N (λb a=>Br (!b) (uP a (Q b0)) (kS 52 [.dg 9 I] a (λs a=>uP a (Q s))))):jC 34 [.dg 9 I] N Q:=
 eE Dl h
theorem ID N I(Q:QT [.str])(h :
Bel N I->kB 51 [.dg 9 I] N (λb a=>Br (!b) (uP a (Q b0)) (kS 52 [.dg 9 I] a (λs a=>uP a (Q s))))):jC 21 [.dg 9 I] N Q:=
 eE GW h
theorem Lp N I n1(Q:QT [.i,.bool])(h :
Br (decide ((I.size:Int)>0)) (((0:Int)<=(0:Int)/\0<(I.size:Int))/\Br ((UInt8.toNat (Array.getD (ByteArray.data I) 0 (OfNat.ofNat 0)) :
 Int)==45) (((0:Int)<=(1:Int)/\1<=(I.size:Int)/\(I.size:Int)<=(I.size:Int))/\Br (decide ((ByteArray.size (ByteArray.extract I 1 ((I.size :
 Int)).toNat):Int)<1)) (uP N (Q 0 false)) (Br (decide ((ByteArray.size (ByteArray.extract I 1 ((I.size:Int)).toNat):Int)>n1)) (uP N (Q 0 false))
 (ye Q N I ((UInt8.toNat (Array.getD (ByteArray.data I) 0 (OfNat.ofNat 0)):Int)==45) (ByteArray.extract I 1 ((I.size:Int)).toNat) 0 0 N)))
 (Br (decide ((I.size:Int)<1)) (uP N (Q 0 false)) (Br (decide ((I.size:Int)>n1)) (uP N (Q 0 false)) (ye Q N I ((UInt8.toNat (Array.getD
 (ByteArray.data I) 0 (OfNat.ofNat 0)):Int)==45) I 0 0 N)))) (Br (decide ((I.size:Int)<1)) (uP N (Q 0 false)) (Br (decide ((I.size:Int)>n1)) (uP
 N (Q 0 false)) (ye Q N I false I 0 0 N)))):jC 205 [.str I,.j n1] N Q:=
  eE CE h
theorem DT N I(Q:QT [.i,.bool])(h :
kIB 205 [.str I,.j 6] N (λn b a=>Br (!b) (uP a (Q 0 false)) (Br (decide (n<0)) (uP a (Q 0 false)) (uP a (Q n true))))):jC 148 [.str I] N Q:=
 eE H0 h
theorem Fo N I(Q:QT [.ag 9,.bool])(h :
rA 9 38 [.j 1] I 0 false N (λx _ n b a=>Br b (∀ b,a<=b->Q (D.ag [D.j 0,D.t b0,D.t b0,D.j 0,D.j 0,jN,D.j 0,D.sl none 2 []
 0,D.sl none 9 [] 0]) false b) (Br (bne n (I.size:Int)) (∀ b,a<=b->Q (D.ag [D.j 0,D.t b0,D.t b0,D.j 0,D.j 0,jN,D.j 0,D.sl none 2
 [] 0,D.sl none 9 [] 0]) false b) (kS 34 [.dg 9 x] a (λa b=>Br (!(jE a I)) (∀ a,b<=a->Q (D.ag [D.j 0,D.t
 b0,D.t b0,D.j 0,D.j 0,jN,D.j 0,jN,D.sl none 9 [] 0]) false a) (uP b (Q x true))))))):jC 13 [.str I] N Q:=
  eE FJ h
theorem Co {Q:QT [.str]}{N0 a0 e0 c0 I O c5 J r0 U N}(h :
Br (decide (J<(e0.length:Int))) (Br (decide (J>0)) ((O=r0.length/\c5=U)/\zB r0 (xH I) 1/\∀(c:Nat),jL J e0/\∃ s,e0.getD J.toNat jD=D.t s/\((r0++xH I).length=(r0++xH I).length/\c=c)/\zB (r0++xH I) (xH s) 1 /\
 ∀(a:Nat),vM Q N0 a0 e0 c0 I (r0++xH I++xH s).length a (jW.wrap (J+1)) (r0++xH I++xH s) a N) (jL J e0/\∃ a,e0.getD J.toNat jD=D.t a/\(O=r0.length/\c5=U)/\zB r0 (xH a) 1/\∀(b:Nat),
 vM Q N0 a0 e0 c0 I (r0++xH a).length b (jW.wrap (J+1)) (r0++xH a) b N)) (O<=r0.length/\∃ a:List Int,List.take
 O r0=List.map (λn=>D.lit (.int IntKind.u8 n)) a/\uP N (Q (bytesOf a)))):vM Q N0 a0 e0 c0 I O c5 J r0 U N:=
  hE GU h
theorem pq {Q:QT [.str]}{N0 J c3 n4 I r1 O N}(h :
∃ a b,∃ c:Nat,(I.cell 8)=D.sl a 9 b c/\Br (decide (n4<(b.length:Int))) (∃ a b,∃ c:Nat,(I.cell 8)=D.sl a 9 b c/\jL n4 b/\kS 52 [.dg 9 (b.getD n4.toNat jD)] N (λs a=>(J=r1.length/\c3=O)/\zB r1 [D.t s] 16/\∀(b:Nat),
 vZ Q N0 (r1++[D.t s]).length b (jW.wrap (n4+1)) I (r1++[D.t s]) b a)) (∃ n:Int,(I.cell 0)=D.j n/\Br (n==1) (∃ a,
 (I.cell 1)=D.t a/\uP N (Q a)) (Br (n==2) (∃ a:Int,(I.cell 3)=D.j a/\kS 22 [.j a] N (λa b=>uP b (Q a))) (Br (n==3) (∃ a :
 Int,(I.cell 3)=D.j a/\∃ b:Int,(I.cell 3)=D.j b/\(0<=a/\a<=jW.wrap (b+1)/\jW.wrap (b+1)<=2)/\jX (1 +
 ByteArray.size (ByteArray.extract (bytes [102,116]) a.toNat (jW.wrap (b+1)).toNat))/\∀ c,N<=c->Q (bytes [35]
 ++ ByteArray.extract (bytes [102,116]) a.toNat (jW.wrap (b+1)).toNat) c) (Br (n==4) (Br ((J:Int)==1) (((0:Int)<=(0:Int)/\0<(J :
 Int)/\0<r1.length)/\0<r1.length/\∃ a,r1.getD 0 jD=D.t a/\jX (2+a.size)/\jX (ByteArray.size (bytes [40,33]
 ++ a)+1)/\uP N (Q (bytes [40,33]++a++bytes [41]))) (((0:Int)<=(0:Int)/\0<(J:Int)/\0<r1.length)/\0 <
 r1.length/\∃ a,r1.getD 0 jD=D.t a/\jX (1+a.size)/\∃ b,(I.cell 1)=D.t b/\jX (ByteArray.size (bytes [40] ++
 a)+b.size)/\((0:Int)<=(1:Int)/\1<(J:Int)/\1<r1.length)/\1<r1.length/\∃ c,r1.getD 1 jD=D.t
 c/\jX (ByteArray.size (bytes [40]++a++b)+c.size)/\jX (ByteArray.size (bytes [40]++a++b++c)+1)/\uP N (Q (bytes [40]++a++b++c++bytes [41])))) (Br (n==10) (((0:Int)<=(0:Int)/\0<(J:Int)/\0<r1.length)/\0 <
 r1.length/\∃ a,r1.getD 0 jD=D.t a/\jX (1+a.size)/\jX (ByteArray.size (bytes [60]++a)+1)/\uP N (Q (bytes [60]++a++bytes [62]))) (Br (n==11) (((0:Int)<=(0:Int)/\0<(J:Int)/\0<r1.length)/\0<r1.length/\∃
 a,r1.getD 0 jD=D.t a/\jX (1+a.size)/\uP N (Q (bytes [126]++a))) ((J=r1.length/\c3=O)/\∀ a,ApA a
 r1->Off [a] I->∀ b,N<=b->xj b [a]->ACalls prog 102 [.str] [.dg 9 I,.sv a 0 r1 c3] b (λa c=>b<=c->uP c (Q a)))))))))):vZ Q N0 J c3 n4 I r1 O N:=
  hE CL h
theorem pX {Q:QT [.i,.bool]}{N0 U b6 J O I N}(h :
Br (decide (I<(J.size:Int))) ((0<=I/\I<(J.size:Int))/\Br (decide ((UInt8.toNat (Array.getD (ByteArray.data J) I.toNat (OfNat.ofNat 0)) :
 Int)<48)) (uP N (Q 0 false)) ((0<=I/\I<(J.size:Int))/\Br (decide ((UInt8.toNat (Array.getD (ByteArray.data J) I.toNat (OfNat.ofNat 0)):Int) >
 57)) (uP N (Q 0 false)) ((0<=I/\I<(J.size:Int))/\ye Q N0 U b6 J (jW.wrap (jW.wrap (10*O)+jW.wrap
 (IntKind.u8.wrap ((UInt8.toNat (Array.getD (ByteArray.data J) I.toNat (OfNat.ofNat 0)):Int) - 48)))) (jW.wrap (I+1)) N))) (Br b6 (kS 22 [.j
 (jW.wrap (0 - O))] N (λs a=>Br (!(jE s U)) (uP a (Q 0 false)) (uP a (Q (jW.wrap (0 - O)) true))))
 (kS 22 [.j O] N (λa b=>Br (!(jE a U)) (uP b (Q 0 false)) (uP b (Q O true)))))):ye Q N0 U b6 J O I N:=
  hE CE h
theorem qn N n1 I J O(Q:QT [.ag 9,.str,.i,.bool])(h:∀ E:Env,
Br O (u9 E/\∀ a,N<=a->Q (D.ag [D.j 0,D.t b0,D.t b0,D.j 0,D.j 0,jN,D.j 0,
 jN,D.sl none 9 [] 0]) I J true a) (Br (decide (n1>20)) (u9 E/\∀ a,N<=a->Q (D.ag [D.j 0,
 D.t b0,D.t b0,D.j 0,D.j 0,jN,D.j 0,jN,D.sl none 9 [] 0]) I J true a) (Br (decide (J≥(I.size:Int))) (u9 E/\∀ a,N<=a->Q (D.ag [D.j 0,D.t b0,D.t b0,D.j 0,D.j 0,jN,D.j 0,jN,D.sl none 9 []
 0]) I J (decide (J≥(I.size:Int))) a) (rB 79 [.str (bytes [35,116])] I J (decide (J≥(I.size:Int))) N (λb s n c d
 => Br b (kA 9 80 [.j 1] d (λx a=>u9 E/\uP a (Q x s n c))) (rB 79 [.str (bytes [35,102])] s n c d (λb
 c d e f=>Br b (kA 9 80 [.j 0] f (λa b=>u9 E/\uP b (Q a c d e))) (rB 79 [.str (bytes
 [126])] c d e f (λb c d e f=>Br b (rA 9 38 [.j (jW.wrap (n1+1))] c d e f (λb c d e f=>w3 (1 =
 ([b]).length/\1=1) (∀ a g,f<=g->Fresh N g a [D.ag [b],jN,jN]->u9 E/\∀
 f,g<=f->Q (D.ag [D.j 11,D.t b0,D.t b0,D.j 0,D.j 0,jN,D.j 0,jN,D.sl a 9 [b] 1]) c d e f))) (rB 79 [.str
 (bytes [60])] c d e f (λa b c d e=>Br a (rA 9 38 [.j (jW.wrap (n1+1))] b c d e (λa b c d e=>rU 81
 [.str (bytes [62])] b c d e (λb c d e=>w5 (1=([a]).length/\1=1) (∀ f g,e<=g->Fresh N g f [D.ag [a],D.sl none 2 []
 0,jN]->u9 E/\∀ e,g<=e->Q (D.ag [D.j 10,D.t b0,D.t b0,D.j 0,D.j 0,jN,D.j 0,
 jN,D.sl f 9 [a] 1]) b c d e)))) (rB 79 [.str (bytes [40])] b c d e (λa b c d e=>Br a (rA 9 82 [.j
 (jW.wrap (n1+1))] b c d e (λa b c d e=>u9 E/\uP e (Q a b c d))) ((0<=c
 /\ c<(b.size:Int))/\Br (decide ((UInt8.toNat (Array.getD (ByteArray.data b) c.toNat (OfNat.ofNat 0)):Int)≥48)) ((0<=c/\c<(b.size :
 Int))/\Br (decide ((UInt8.toNat (Array.getD (ByteArray.data b) c.toNat (OfNat.ofNat 0)):Int)<=57)) (rA 9 83 [] b c d e (λa b c d
 e=>u9 E/\uP e (Q a b c d))) (rS 84 [] b c d e (λa b c d e=>kA 9 77 [.str a]
 e (λa e=>u9 E/\uP e (Q a b c d))))) (rS 84 [] b c d e (λa b c d e=>kA
 9 77 [.str a] e (λa e=>u9 E/\uP e (Q a b c d)))))))))))))))))):jB 38 [.pb 0 0 0 0,.int .i64 n1] [.var [.str I,.int .i64 J,.bool O]] N Q:=
  bE KQ h
theorem Fw N U J I O(Q:QT [.bool,.str,.i,.bool])(h:∀ E:Env,
Br O (u9 E/\uP N (Q false J I O)) (Br (decide (jW.wrap (I+(U.size:Int))
 > (J.size:Int))) (u9 E/\uP N (Q false J I O)) ((0<=I/\I<=jW.wrap (I+(U.size
 : Int))/\jW.wrap (I+(U.size:Int))<=(J.size:Int))/\Br (!(ByteArray.toList (ByteArray.extract J I.toNat (jW.wrap
 (I+(U.size:Int))).toNat)==ByteArray.toList U)) (u9 E/\uP N (Q false J I O)) (u9 E/\∀ a,N<=a->Q true J (jW.wrap (I+(U.size:Int))) O a)))):jB 79 [.pb 0 0 0 0,.str U] [.var [.str J,.int .i64 I,.bool O]] N Q:=
  bE KK h
theorem Fv N U I J O(Q:QT [.str,.i,.bool])(h:∀ E:Env,
Br O (u9 E/\uP N (Q I J true)) (rB 79 [.str U] I J O N (λb s n _ a=>u9 E/\uP a (Q s n (!b))))):jB 81 [.pb 0 0 0 0,.str U] [.var [.str I,.int .i64 J,.bool O]] N Q:=
 bE H0 h
theorem F1 N n1 I J O(Q:QT [.ag 9,.str,.i,.bool])(h:∀ E:Env,
rB 79 [.str (bytes [92])] I J O N (λb s n a c=>Br b (rS 84 [] s n a c (λa b c d e=>rU 81 [.str (bytes
 [58])] b c d e (λb c d e=>rA 2 144 [.j 1] b c d e (λx b c d e=>rU 81 [.str (bytes [46])] b c d e (λb c d
 e=>rA 9 145 [.dg 9 (D.ag [D.j 6,D.t a,D.t b0,D.j 0,(x.cell 0),(x.cell 1),D.j 0,jN,D.sl none 9 [] 0]),.j 1,.j n1] b c d e
 (λa b c d e=>u9 E/\uP e (Q a b c d))))))) (rB 79 [.str (bytes [108,101,116,32])] s n a c
 (λa b c d e=>Br a (rS 84 [] b c d e (λa b c d e=>rU 81 [.str (bytes [61])] b c d e (λb c d e=>rA
 9 145 [.dg 9 (D.ag [D.j 8,D.t a,D.t b0,D.j 0,D.j 0,jN,D.j 0,jN,D.sl none 9 [] 0]),.j 2,.j n1] b c d e (λa
 b c d e=>u9 E/\uP e (Q a b c d))))) (rB 79 [.str (bytes [114,101,99,32])] b c d e (fun
 a b c d e=>Br a (rA 9 146 [.j n1] b c d e (λa b c d e=>u9 E/\uP e (Q
 a b c d))) (rB 79 [.str (bytes [105,102,32])] b c d e (λa b c d e=>Br a (rA 9 145 [.dg 9 (D.ag [D.j 5,D.t b0,D.t
 b0,D.j 0,D.j 0,jN,D.j 0,jN,D.sl none 9 [] 0]),.j 3,.j n1] b c d e (λa b c d e=>u9 E/\uP e (Q a b c d))) (rB 79 [.str (bytes [114,117,110,32])] b c d e (λa b c d e=>Br
 a (rA 9 145 [.dg 9 (D.ag [D.j 12,D.t b0,D.t b0,D.j 0,D.j 0,jN,D.j 0,jN,D.sl none 9 [] 0]),.j 1,.j n1] b c d
 e (λa b c d e=>u9 E/\uP e (Q a b c d))) (rB 79 [.str (bytes [108,105,102,116,32])]
 b c d e (λa b c d e=>Br a (rA 9 145 [.dg 9 (D.ag [D.j 13,D.t b0,D.t b0,D.j 0,D.j 0,jN,D.j 0,D.sl none 2 []
 0,D.sl none 9 [] 0]),.j 1,.j n1] b c d e (λa b c d e=>u9 E/\uP e (Q a b c
 d))) (rB 79 [.str (bytes [33])] b c d e (λa b c d e=>Br a (rA 9 145 [.dg 9 (D.ag [D.j 4,D.t (bytes [33]),D.t b0,D.j 0,
 D.j 0,jN,D.j 0,jN,D.sl none 9 [] 0]),.j 1,.j n1] b c d e (λa b c d e=>u9 E/\uP e (Q a b c d))) (rA 9 38 [.j n1] b c d e (λa b c d e=>rA 9 147 [.dg 9 a,.j n1] b c d
 e (λa b c d e=>u9 E/\uP e (Q a b c d)))))))))))))))))):jB 82 [.pb 0 0 0 0,.int .i64 n1] [.var [.str I,.int .i64 J,.bool O]] N Q:=
  bE KO h
theorem DY N I J O(Q:QT [.ag 9,.str,.i,.bool])(h:∀ E:Env,
rS 84 [] I J O N (λs a n b c=>kIB 148 [.str s] c (λc d e=>Br b (kA 9 149 [.j c] e (λx b=>u9 E/\uP b (Q x a n true))) (kA 9 149 [.j c] e (λb c=>u9 E/\uP c (Q b a n
 (!d))))))):jB 83 [.pb 0 0 0 0] [.var [.str I,.int .i64 J,.bool O]] N Q:=
  bE H0 h
theorem Fx N J I O(Q:QT [.str,.str,.i,.bool])(h:∀ E:Env,
yf E Q N I J I O N):jB 84 [.pb 0 0 0 0] [.var [.str J,.int .i64 I,.bool O]] N Q:=
 bE CH h
theorem ql N n1 I J O(Q:QT [.ag 2,.str,.i,.bool])(h:∀ E:Env,
Br O (u9 E/\uP N (Q (D.ag [D.j 0,jN]) I J true)) (Br (decide (n1>8)) (u9 E/\uP N (Q (D.ag [D.j 0,jN]) I J (decide (n1>8)))) (rB 79 [.str (bytes [73])] I J (decide
 (n1>8)) N (λb s n c d=>Br b (kA 2 69 [] d (λx a=>u9 E/\uP a (Q x s n c))) (rB 79 [.str (bytes [66])]
 s n c d (λb c d e f=>Br b (kA 2 70 [] f (λa b=>u9 E/\uP b (Q a c d e))) (rB 79
 [.str (bytes [60])] c d e f (λb c d e f=>Br b (rA 2 144 [.j (jW.wrap (n1+1))] c d e f (λb c d e f=>rU
 81 [.str (bytes [62])] c d e f (λc d e f=>w5 (1=([b]).length/\1=1) (∀ a g,f<=g->Fresh N g a [D.ag [b]]->u9 E/\uP g (Q (D.ag [D.j 4,D.sl a 2 [b] 1]) c d e))))) (rU 81 [.str (bytes [40])] c d e f (λa b c d=>
 Br c (u9 E/\uP d (Q (D.ag [D.j 0,jN]) a b c)) (rA 2 144 [.j (jW.wrap (n1+1))] a b
 c d (λa b c d e=>rU 81 [.str (bytes [62])] b c d e (λb c d e=>Br d (u9 E/\uP
 e (Q (D.ag [D.j 0,jN]) b c d)) (rA 2 144 [.j (jW.wrap (n1+1))] b c d e (λb c d e f=>rU 81 [.str
 (bytes [41])] c d e f (λc d e f=>w3 (2=([a,b]).length/\2=2) (∀ g h,f<=h->Fresh N h g [D.ag [a,b]]->u9 E/\uP h (Q (D.ag [D.j 3,D.sl g 2 [a,b] 2]) c d e)))))))))))))))))):jB 144 [.pb 0 0 0 0,.int .i64 n1] [.var [.str I,.int .i64 J,.bool O]] N Q:=
  bE H0 h
theorem qm N U n2 Y I J O(Q:QT [.ag 9,.str,.i,.bool])(h:∀ E:Env,
Bel N U->q9 E Q N n2 Y 0 I J O U 0 b0 b0 0 0 none [] 0 0 none [] 0 none [] 0 N):jB 145 [.pb 0 0 0 0,.dg 9 U,.int .i64 n2,.int .i64 Y] [.var [.str I,.int .i64 J,.bool O]] N Q:=
 bE rn h
theorem IG N n1 I J O(Q:QT [.ag 9,.str,.i,.bool])(h:∀ E:Env,
rS 84 [] I J O N (λs a n b c=>rU 81 [.str (bytes [32])] a n b c (λa b c d=>rS 84 [] a b c d (λa
 b c d e=>rU 81 [.str (bytes [58])] b c d e (λb c d e=>rA 2 144 [.j 1] b c d e (λx b c d e=>rU 81 [.str (bytes
 [62])] b c d e (λb c d e=>rA 2 144 [.j 1] b c d e (λb c d e f=>rU 81 [.str (bytes [46])] c d e f (λc
 d e f=>rA 9 145 [.dg 9 (D.ag [D.j 9,D.t s,D.t a,D.j 0,(x.cell 0),(x.cell 1),(b.cell 0),(b.cell 1),D.sl none 9 [] 0]),.j 1,.j n1] c d
 e f (λa b c d e=>u9 E/\uP e (Q a b c d))))))))))):jB 146 [.pb 0 0 0 0,.int .i64 n1] [.var [.str I,.int .i64 J,.bool O]] N Q:=
  bE MJ h
theorem F2 N I n2 J O U(Q:QT [.ag 9,.str,.i,.bool])(h:∀ E:Env,
Bel N I->rB 79 [.str (bytes [32])] J O U N (λb s n c d=>Br b (w4 (1=([I]).length/\1=1) (∀ a b,d<=b->Fresh N b
 a [D.ag [I]]->rA 9 145 [.dg 9 (D.ag [D.j 7,D.t b0,D.t b0,D.j 0,D.j 0,jN,D.j 0,jN,D.sl a 9 [I] 1]),.j 1,.j n2] s n c
 b (λx a b c d=>u9 E/\uP d (Q x a b c)))) (Br c (w5 (1=([I]).length/\1=1) (∀ a b,d<=b ->
 Fresh N b a [D.ag [I],jN,jN]->u9 E/\∀ c,b<=c->Q (D.ag [D.j 7,D.t b0,D.t b0,
 D.j 0,D.j 0,jN,D.j 0,jN,D.sl a 9 [I] 1]) s n true c)) (Br (decide (n≥(s.size:Int))) (w5 (1=([I]).length/\1=1) (∀
 a b,d<=b->Fresh N b a [D.ag [I],jN,jN]->u9 E/\∀ c,b<=c->Q (D.ag [D.j
 7,D.t b0,D.t b0,D.j 0,D.j 0,jN,D.j 0,jN,D.sl a 9 [I] 1]) s n true c)) ((0<=n/\n<=jW.wrap (n+1) /\
 jW.wrap (n+1)<=(s.size:Int))/\kI 161 [.str (ByteArray.extract s n.toNat (jW.wrap (n+1)).toNat)] d (λa b=>Br (bne a 2) (w5
 (1=([I]).length/\1=1) (∀ a c,b<=c->Fresh N c a [D.ag [I],jN,jN]->u9 E
 /\ ∀ b,c<=b->Q (D.ag [D.j 7,D.t b0,D.t b0,D.j 0,D.j 0,jN,D.j 0,jN,D.sl a 9 [I] 1]) s n true b)) ((0<=n/\n <=
 jW.wrap (n+1)/\jW.wrap (n+1)<=(s.size:Int))/\w4 (1=([I]).length/\1=1) (∀ a c,b<=c->Fresh N c a [D.ag [I]]->rA
 9 145 [.dg 9 (D.ag [D.j 4,D.t (ByteArray.extract s n.toNat (jW.wrap (n+1)).toNat),D.t b0,D.j 0,D.j 0,jN,D.j 0,jN,
 D.sl a 9 [I] 1]),.j 1,.j n2] s (jW.wrap (n+1)) (decide (n≥(s.size:Int))) c (λa b c d e=>u9 E/\uP e (Q a b c d)))))))))):jB 147 [.pb 0 0 0 0,.dg 9 I,.int .i64 n2] [.var [.str J,.int .i64 O,.bool U]] N Q:=
  bE KP h
theorem pc E(Q:QT [.str,.str,.i,.bool]) N0 U J I O N(h :
Br (decide (I<(J.size:Int))) ((0<=I/\I<(J.size:Int))/\Br (decide ((UInt8.toNat (Array.getD (ByteArray.data J) I.toNat
 (OfNat.ofNat 0)):Int)≥48)) ((0<=I/\I<(J.size:Int))/\Br (decide ((UInt8.toNat (Array.getD (ByteArray.data J) I.toNat (OfNat.ofNat 0)) :
 Int)<=57)) (yf E Q N0 U J (jW.wrap (I+1)) O N) ((0<=I/\I<(J.size:Int))/\Br (decide ((UInt8.toNat (Array.getD
 (ByteArray.data J) I.toNat (OfNat.ofNat 0)):Int)≥97)) ((0<=I/\I<(J.size:Int))/\Br (decide ((UInt8.toNat (Array.getD (ByteArray.data
 J) I.toNat (OfNat.ofNat 0)):Int)<=122)) (yf E Q N0 U J (jW.wrap (I+1)) O N) ((0<=U/\U<=I/\I<=(J.size
 : Int))/\u9 E/\uP N (Q (ByteArray.extract J U.toNat I.toNat) J I O))) ((0<=U/\U<=I/\I <=
 (J.size:Int))/\u9 E/\uP N (Q (ByteArray.extract J U.toNat I.toNat) J I O)))) ((0<=I/\I <
 (J.size:Int))/\Br (decide ((UInt8.toNat (Array.getD (ByteArray.data J) I.toNat (OfNat.ofNat 0)):Int)≥97)) ((0<=I/\I<(J.size:Int))
 /\ Br (decide ((UInt8.toNat (Array.getD (ByteArray.data J) I.toNat (OfNat.ofNat 0)):Int)<=122)) (yf E Q N0 U J (jW.wrap (I
 + 1)) O N) ((0<=U/\U<=I/\I<=(J.size:Int))/\u9 E/\uP N (Q (ByteArray.extract J U.toNat
 I.toNat) J I O))) ((0<=U/\U<=I/\I<=(J.size:Int))/\u9 E/\uP N (Q (ByteArray.extract J
 U.toNat I.toNat) J I O)))) ((0<=U/\U<=I/\I<=(J.size:Int))/\u9 E/\uP N (Q
 (ByteArray.extract J U.toNat I.toNat) J I O))):yf E Q N0 U J I O N:=
  hE CH h
theorem pp E(Q:QT [.ag 9,.str,.i,.bool]) N0 n2 n3 n9 O U J I Y aa ab ac ae ah ai aj ak al ao aq au aw ax N(h :
Br (decide (n9<n2)) (Br (!J) (Br (decide (n9>0)) (rU 81 [.str (bytes [32])] O U J N (λs n b d=>∃ a e,∃ c:Nat,(I.cell 8)=D.sl
 a 9 e c/\rA 9 38 [.j n3] s n b d (λx b d f g=>Wb a e c [x]/\zB e [x] 136/\∀(a:Nat),zl E Q N0 n2 n3
 (jW.wrap (n9+1)) b d f (I.cell 0) (I.cell 1) (I.cell 2) (I.cell 3) (I.cell 4) (I.cell 5) (I.cell 6) (I.cell 7) (e++[x]).length a
 Y aa ab ac ae ah ai aj ak al ao aq au aw ax (e++[x]) a g))) (∃ a b,∃ c:Nat,(I.cell 8)=D.sl a 9 b c /\
 rA 9 38 [.j n3] O U J N (λd e f g h=>Wb a b c [d]/\zB b [d] 136/\∀(a:Nat),zl E Q N0 n2 n3
 (jW.wrap (n9+1)) e f g (I.cell 0) (I.cell 1) (I.cell 2) (I.cell 3) (I.cell 4) (I.cell 5) (I.cell 6) (I.cell 7) (b++[d]).length
 a Y aa ab ac ae ah ai aj ak al ao aq au aw ax (b++[d]) a h))) (rU 81 [.str (bytes [41])] O U J N (λa
 b c d=>u9 E/\uP d (Q I a b c)))) (rU 81 [.str (bytes [41])] O U J N (λa b c d=>u9 E/\uP d (Q I a b c)))):q9 E Q N0 n2 n3 n9 O U J I Y aa ab ac ae ah ai aj ak al ao aq au aw ax N:=
  hE rn h
theorem vm E(Q:QT [.ag 9,.str,.i,.bool]) N0 n2 n3 n9 ah ai ae I J O U Y aa ab ac aj ak al ao aq au aw ax ay az a6 a7 a8 ba bb bc bg r3 q3 N(h :
Br (decide (n9<n2)) (Br (!ae) (Br (decide (n9>0)) (rU 81 [.str (bytes [32])] ah ai ae N (λs n b a=>rA 9 38 [.j n3] s n b a (λx a
 b d e=>(aj=r3.length/\ak=q3)/\zB r3 [x] 136/\∀(c:Nat),zl E Q N0 n2 n3 (jW.wrap (n9+1)) a b d I
 J O U Y aa ab ac (r3++[x]).length c al ao aq au aw ax ay az a6 a7 a8 ba bb bc bg (r3++[x]) c e))) (rA 9 38
 [.j n3] ah ai ae N (λa b c d e=>(aj=r3.length/\ak=q3)/\zB r3 [a] 136/\∀(f:Nat),zl E Q N0 n2 n3
 (jW.wrap (n9+1)) b c d I J O U Y aa ab ac (r3++[a]).length f al ao aq au aw ax ay az a6 a7 a8
 ba bb bc bg (r3++[a]) f e))) (rU 81 [.str (bytes [41])] ah ai ae N (λb c d e=>w3 (aj=r3.length/\ak=q3) (∀ a f,e <=
 f->Fresh N0 f a [D.ag r3,I,J,O,U,Y,aa,ab,ac]->u9 E/\uP f (Q (D.ag [I,J,O,
 U,Y,aa,ab,ac,D.sl a 9 r3 q3]) b c d))))) (rU 81 [.str (bytes [41])] ah ai ae N (λa b c d=>w3 (aj=r3.length/\ak
 = q3) (∀ e f,d<=f->Fresh N0 f e [D.ag r3,I,J,O,U,Y,aa,ab,ac]->u9 E/\uP f
 (Q (D.ag [I,J,O,U,Y,aa,ab,ac,D.sl e 9 r3 q3]) a b c))))):zl E Q N0 n2 n3 n9 ah ai ae I J O U Y aa ab ac aj ak al ao aq au aw ax ay az a6 a7 a8 ba bb bc bg r3 q3 N:=
  hE rn h
end Go.Proofs.YtlaniepnglheoaaGreatDoor
