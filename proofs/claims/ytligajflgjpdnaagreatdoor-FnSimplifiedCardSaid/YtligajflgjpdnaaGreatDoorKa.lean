/- Printed by gen.py: what the functions come to. -/
import Derived.Test.YtligajflgjpdnaaGreatDoorJh
set_option linter.unusedVariables false
set_option maxRecDepth 100000
namespace Go.Proofs.YtligajflgjpdnaaGreatDoor
open Go Go.Proofs Go.Proofs.Tryz
def Bp:Hint:=⟨[hc 2 [0,3]],[],[]⟩
def CG:Hint:=⟨[hc 3 [1,2,5]],[],[(5,hs 8 [ec 6 [23]])]⟩
def sW:Hint:=⟨[hc 3 [1,3,4]],[],[(5,hs 9 [ec 6 [17]])]⟩
def BK:Hint:=⟨[hc 2 [1,3]],[],[(4,hs 7 [ec 5 [15]])]⟩
def BZ:Hint:=⟨[],[],[(1,hs 13 [ec 1 [3],ec 5 [7],ec 10 [12]])]⟩
def D2:Hint:=⟨[hc 2 [0,3]],[],[(4,hs 25 [ec 13 [22]])]⟩
def GC:Hint:=⟨[],[],[(2,hs 15 [ec 3 [15],ec 11 [23]]),(4,[en 0,en 1,en 2,en 3,en 4,ec 5 [32],en 6,en 7,en 8,en 9,en 10,en 11,en 12,en 13,ec 14 [41],en 15,en 16,en 17]),(12,hs 9 [ec 6 [57]])]⟩
def BH:Hint:=⟨[hc 2 [1,3]],[],[(4,hs 7 [ec 5 [15]]),(6,[en 0,ec 1 [18],en 2,en 3,en 4,en 5,en 6,ec 7 [24],en 8,en 9,en 10])]⟩
def FB:Hint:=⟨[hc 4 [1,2,5]],[],[(6,[en 0,en 1,en 2,en 3,en 4,en 5,en 6,ec 7 [21],ec 8 [20],en 9])]⟩
def GB:Hint:=⟨[],[],[(1,hs 8 [ec 1 [5],ec 5 [8]])]⟩
def Bf:Hint:=⟨[hc 2 [0,1,5]],[],[]⟩
def qA:Hint:=⟨[hc 3 [1,2,3,4]],[],[(5,[en 0,en 1,en 2,en 3,en 4,en 5,en 6,ec 7 [21],en 8,eh 9,en 10,eh 11])]⟩
def La:Hint:=⟨[],[],[(1,[en 0,en 2,ec 1 [5],ec 3 [7],en 4,en 5,eh 6])]⟩
def qF:Hint:=⟨[hc 4 [2,3,5]],[],[(6,[en 0,en 1,en 2,en 3,en 4,en 5,en 6,en 7,en 8,en 9,ec 10 [31,36],en 11])]⟩
def Js:Hint:=⟨[],[],[(3,[en 0,en 1,en 2,en 3,en 4,en 5,en 7,en 8,en 9,en 10,en 11,en 16,ec 6 [26],ec 12 [32],en 13,en 14,en 15,eh 17,en 18]),(4,hs 7 [ec 3 [38,39]]),(6,hs 13 [ec 6 [49]]),(9,[en 0,en 1,en 2,en 3,en 4,en 6,en 7,en 8,en 9,en 10,en 15,ec 5 [61],ec 11 [67],en 12,en 13,en 14,eh 16,en 17]),(11,hs 7 [ec 4 [75,77]]),(12,[en 0,en 1,en 2,en 3,en 4,en 6,en 7,en 8,en 9,en 10,en 12,en 13,en 14,en 15,en 16,en 21,ec 5 [83],ec 11 [89],ec 17 [95],en 18,en 19,en 20,eh 22,en 23]),(13,[en 0,en 1,en 2,en 3,en 4,en 5,ec 6 [103,105],en 7,eh 8,en 9])]⟩
def Ad:Hint:=⟨[hc 3 [0,1,5,6] [(5,73,4)]],[],[(5,hs 26 [ec 5 [18]]),(6,[en 0,en 1,en 2,en 3,en 4,en 5,en 6,en 7,en 8,en 9,en 10,en 12,en 13,en 14,en 15,en 16,ec 11 [50],en 17,en 18,eh 19,eh 20])]⟩
def Ji:Hint:=⟨[],[],[(1,hs 5 [ec 1 [3]])]⟩
def HC:Hint:=⟨[],[],[(3,[en 0,en 1,en 2,en 3,en 4,en 5,en 6,en 12,ec 7 [22],ec 8 [21],en 9,en 10,en 11,eh 13,en 14]),(7,hs 4 [ec 1 [36]]),(9,[en 0,en 2,ec 1 [42],ec 3 [44],eh 4,en 5]),(11,hs 7 [ec 4 [53]])]⟩
def FU:Hint:=⟨[hc 5 [0,1,4,6,7]],[],[]⟩
def I8:Hint:=⟨[],[],[(6,[en 0,en 1,en 2,en 3,en 4,en 5,en 6,en 7,en 8,en 9,en 10,en 11,en 12,en 13,en 14,ec 15 [34,37],en 16,eh 17,en 18]),(7,[en 0,en 1,en 2,en 3,en 4,en 5,en 6,en 7,en 8,en 9,en 10,en 11,en 12,en 13,en 14,ec 15 [51,54],en 16]),(8,hs 9 [ec 6 [62]])]⟩
def Cl:Hint:=⟨[hc 24 [0,2,4,6,13,14] [(13,26,2)]],[],[(6,hs 8 [ec 5 [43]]),(14,hs 10 [ec 3 [57]]),(20,hs 10 [ec 3 [71]]),(26,hs 14 [ec 7 [92]]),(30,hs 9 [ec 2 [105]])]⟩
def KQ:Hint:=⟨[],[],[(1,hs 10 [ec 3 [12]]),(2,hs 7 [ec 4 [20]])]⟩
def J7:Hint:=⟨[],[],[(1,hs 9 [ec 6 [14]]),(3,hs 10 [ec 3 [22]])]⟩
def xE (Q:QT [.bool])(N0:Nat)(I:ByteArray)(J:Int)(N:Nat):Prop:=AT prog 58 [.bool] Q N0 .ord (zG prog 58 2) ⟨.str I::an 2 (.int .i64 J::an 58 []),[],N,none⟩
def vF (Q:QT [.int .i64])(N0:Nat)(I J:Int)(O:D)(N:Nat):Prop:=AT prog 101 [.int .i64] Q N0 .ord (zG prog 101 3) ⟨an 1 (.int .i64 I::.pb 0 0 0 0::an 2 (.int .i64 J::an 21 [])),[.vd O 2],N,none⟩
def y9 (Q:QT [.int .i64])(N0:Nat)(I J:Int)(O:D)(N:Nat):Prop:=AT prog 102 [.int .i64] Q N0 .ord (zG prog 102 3) ⟨an 1 (.pb 0 0 0 0::an 1 (.int .i64 I::.int .i64 J::an 17 [])),[.vd O 2],N,none⟩
def vg (Q:QT [.bool])(N0:Nat)(I:Int)(J:D)(N:Nat):Prop:=AT prog 103 [.bool] Q N0 .ord (zG prog 103 2) ⟨an 1 (.pb 0 0 0 0::an 1 (.int .i64 I::an 35 [])),[.vd J 2],N,none⟩
def uN (Q:QT [.bool])(N0:Nat)(a0:Option Addr)(e0:List D)(I:Nat)(J:Int)(N:Nat):Prop:=AT prog 32 [.bool] Q N0 .ord (zG prog 32 2) ⟨.sv a0 4 e0 I::an 2 (.int .i64 J::an 34 []),[],N,none⟩
def vi (Q:QT [.bool])(N0:Nat)(I:Int)(J:D)(N:Nat):Prop:=AT prog 53 [.bool] Q N0 .ord (zG prog 53 2) ⟨an 1 (.pb 0 0 0 0::an 1 (.int .i64 I::an 24 [])),[.vd J 9],N,none⟩
def tA (Q:QT [.bool])(N0:Nat)(I J:Int)(O:D)(N:Nat):Prop:=AT prog 60 [.bool] Q N0 .ord (zG prog 60 4) ⟨an 1 (.int .i64 I::.pb 0 0 0 0::an 2 (.int .i64 J::an 20 [])),[.vd O 9],N,none⟩
def vQ (Q:QT [.int .i64])(N0:Nat)(a0:Option Addr)(e0:List D)(I:Nat)(J:ByteArray)(O:Int)(N:Nat):Prop:=AT prog 105 [.int .i64] Q N0 .ord (zG prog 105 2) ⟨.sv a0 4 e0 I::.str J::an 3 (.int .i64 O::an 15 []),[],N,none⟩
def tZ (Q:QT [.ag 2])(N0:Nat)(n4:Int)(y0:D)(I:Int)(J:Option Addr)(O:List D)(U:Nat)(Y:Int)(aa:Option Addr)(ab:List D)(ac:Nat)(N:Nat):Prop:=AT prog 55 [.ag 2] Q N0 .ord (zG prog 55 3) ⟨an 1 (.pb 0 0 0 0::.pb 1 0 0 0::.pb 2 0 0 0::.int .i64 n4::an 22 []),[.vd y0 2,.var [.int .i64 I,.sv J 2 O U],.var [.int .i64 Y,.sv aa 2 ab ac]],N,none⟩
def yv (Q:QT [.bool])(N0:Nat)(I:Int)(J O:D)(N:Nat):Prop:=AT prog 16 [.bool] Q N0 .ord (zG prog 16 4) ⟨an 2 (.pb 0 0 0 0::.pb 1 0 0 0::an 1 (.int .i64 I::an 33 [])),[.vd J 2,.vd O 2],N,none⟩
def yO (Q:QT [.sl 4])(N0:Nat)(a0:Option Addr)(e0:List D)(I:Nat)(J:Int)(O U:Nat)(Y:Int)(r0:List D)(q0:Nat)(N:Nat):Prop:=AT prog 118 [.sl 4] Q N0 .ord (zG prog 118 3) ⟨.sv a0 4 e0 I::.int .i64 J::an 3 (.sb 0 4 0 O U::.int .i64 Y::an 54 []),[.arr 73 4 r0 q0],N,none⟩
def yi (Q:QT [.ag 2,.bool])(N0:Nat)(Y:ByteArray)(a1:Option Addr)(e1:List D)(c1:Nat)(n6 n7 I:Int)(J:Option Addr)(O:List D)(U:Nat)(N:Nat):Prop:=AT prog 147 [.ag 2,.bool] Q N0 .ord (zG prog 147 5) ⟨.str Y::.sv a1 2 e1 c1::an 2 (.pb 0 0 0 0::an 1 (.int .i64 n6::.int .i64 n7::an 36 [])),[.var [.int .i64 I,.sv J 2 O U]],N,none⟩
def xR (Q:QT [.ag 2,.bool])(N0:Nat)(a0:Option Addr)(e0:List D)(c0:Nat)(n2:Int)(Y aa:Nat)(ab:Int)(y0:D)(I:Int)(J:Option Addr)(O:List D)(U:Nat)(r2:List D)(q2:Nat)(N:Nat):Prop:=AT prog 61 [.ag 2,.bool] Q N0 .ord (zG prog 61 24) ⟨.sv a0 4 e0 c0::an 1 (.int .i64 n2::an 1 (.pb 0 0 0 0::an 1 (.pb 1 0 0 0::an 6 (.sb 2 2 0 Y aa::.int .i64 ab::an 97 [])))),[.vd y0 9,.var [.int .i64 I,.sv J 2 O U],.arr 26 2 r2 q2],N,none⟩
def xh (Q:QT [.ag 2])(N0:Nat)(n4:Int)(y0:D)(I:Int)(J:Option Addr)(O:List D)(U:Nat)(Y:Int)(aa ab:Nat)(r3:List D)(q3:Nat)(N:Nat):Prop:=AT prog 55 [.ag 2] Q N0 .ord (zG prog 55 3) ⟨an 1 (.pb 0 0 0 0::.pb 1 0 0 0::.pb 2 0 0 0::.int .i64 n4::an 22 []),[.vd y0 2,.var [.int .i64 I,.sv J 2 O U],.var [.int .i64 Y,.sb 3 2 0 aa ab],.arr 26 2 r3 q3],N,none⟩
theorem NL (N:Nat) (n0 I J:Int) (Q:QT [.bool]) (h :
Br (decide (n0≥I)) (uP N (Q (decide (n0<=J)))) (uP N (Q false))):ACalls prog 31 [.bool] [PV.int .i64 n0,PV.int .i64 I,PV.int .i64 J] N Q:=
 eE H0 h
theorem Ix (N:Nat) (I:ByteArray) (Q:QT [.bool]) (h :
xE Q N I 0 N):ACalls prog 58 [.bool] [PV.str I] N Q:=
 eE Bp h
theorem J0 (N:Nat) (I:D) (J:Int) (Q:QT [.int .i64]) (h :
Bel N I->vF Q N (IntKind.i64.wrap (J - 1)) 0 I N):ACalls prog 101 [.int .i64] [PV.dg 2 I,PV.int .i64 J] N Q:=
 eE CG h
theorem Kr (N:Nat) (n0 I:Int) (Q:QT [.int .i64]) (h :
Br (decide (n0>I)) (uP N (Q n0)) (uP N (Q I))):ACalls prog 146 [.int .i64] [PV.int .i64 n0,PV.int .i64 I] N Q:=
 eE H0 h
theorem Cm (N:Nat) (I:D) (Q:QT [.int .i64]) (h :
Bel N I->y9 Q N 0 0 I N):ACalls prog 102 [.int .i64] [PV.dg 2 I] N Q:=
 eE sW h
theorem JJ (N:Nat) (I:D) (Q:QT [.bool]) (h :
Bel N I->vg Q N 0 I N):ACalls prog 103 [.bool] [PV.dg 2 I] N Q:=
 eE BK h
theorem BP (N:Nat) (x0:D) (Q:QT [.bool]) (h :
Bel N x0->kI 101 [.dg 2 x0,.j 30] N (fun n a=>Br (decide (n≥0)) (kI 102 [.dg 2 x0] a (fun a c=>Br (decide (a<=8)) (kB 103 [.dg 2 x0] c
 (fun b a=>uP a (Q b))) (uP c (Q false)))) (uP a (Q false)))):ACalls prog 59 [.bool] [PV.dg 2 x0] N Q:=
  eE BZ h
theorem Lr (N:Nat) (a0:Option Addr) (e0:List D) (I:Nat) (Q:QT [.bool]) (h :
Bel N (D.sl a0 4 e0 I)->uN Q N a0 e0 I 0 N):ACalls prog 32 [.bool] [PV.sv a0 4 e0 I] N Q:=
 eE D2 h
theorem Iv (N:Nat) (I:D) (Q:QT [.bool]) (h :
Bel N I->∃ n:Int,(I.cell 0)=D.j n/\Br (n==0) (∃ a b,∃ c:Nat,(I.cell 1)=D.sl a 2 b c/\uP N (Q ((b.length:Int)==0))) (uP N (Q
 false))):ACalls prog 139 [.bool] [PV.dg 2 I] N Q:=
  eE H0 h
theorem HS (N:Nat) (I:ByteArray) (Q:QT [.int .i64]) (h :
Br (ByteArray.toList I==ByteArray.toList (bytes [43])) (uP N (Q 2)) (Br (ByteArray.toList I==ByteArray.toList (bytes [45])) (uP N (Q 2)) (Br
 (ByteArray.toList I==ByteArray.toList (bytes [42])) (uP N (Q 2)) (Br (ByteArray.toList I==ByteArray.toList (bytes [61])) (uP N (Q 2)) (Br
 (ByteArray.toList I==ByteArray.toList (bytes [60])) (uP N (Q 2)) (Br (ByteArray.toList I==ByteArray.toList (bytes [38])) (uP N (Q 2)) (Br
 (ByteArray.toList I==ByteArray.toList (bytes [124])) (uP N (Q 2)) (Br (ByteArray.toList I==ByteArray.toList (bytes [33])) (uP N (Q 1)) (uP N (Q
 0)))))))))):ACalls prog 114 [.int .i64] [PV.str I] N Q:=
  eE H0 h
theorem HK (N:Nat) (x0:D) (Q:QT [.bool]) (h :
Bel N x0->∃ n:Int,(x0.cell 0)=D.j n/\Br (n==4) (∃ s,(x0.cell 1)=D.t s/\kI 114 [.str s] N (fun a b=>Br (decide (a>0)) (∃ a,(x0.cell
 2)=D.t a/\uP b (Q (ByteArray.toList a==ByteArray.toList b0))) (uP b (Q false)))) (Br (n==1) (∃ a,(x0.cell 1)=D.t a/\kB 58 [.str a] N (fun
 b a=>Br b (∃ b,(x0.cell 2)=D.t b/\uP a (Q (ByteArray.toList b==ByteArray.toList b0))) (uP a (Q false)))) (Br (n==6) (∃ a,(x0.cell 1)=D.t
 a/\kB 58 [.str a] N (fun a b=>Br a (∃ a,(x0.cell 2)=D.t a/\uP b (Q (ByteArray.toList a==ByteArray.toList b0))) (uP b (Q false))))
 (Br (n==8) (∃ a,(x0.cell 1)=D.t a/\kB 58 [.str a] N (fun a b=>Br a (∃ a,(x0.cell 2)=D.t a/\uP b (Q (ByteArray.toList a ==
 ByteArray.toList b0))) (uP b (Q false)))) (Br (n==9) (∃ a,(x0.cell 1)=D.t a/\kB 58 [.str a] N (fun a b=>Br a (∃ a,(x0.cell 2)=D.t a
 /\ kB 58 [.str a] b (fun a b=>Br a (∃ a,(x0.cell 1)=D.t a/\∃ c,(x0.cell 2)=D.t c/\uP b (Q (!(ByteArray.toList a ==
 ByteArray.toList c)))) (uP b (Q false)))) (uP b (Q false)))) (∃ a,(x0.cell 1)=D.t a/\Br (ByteArray.toList a==ByteArray.toList b0) (∃ a,
 (x0.cell 2)=D.t a/\uP N (Q (ByteArray.toList a==ByteArray.toList b0))) (uP N (Q false)))))))):ACalls prog 140 [.bool] [PV.dg 9 x0] N Q:=
  eE H0 h
theorem Fw (N:Nat) (I:D) (Q:QT [.bool]) (h :
Bel N I->∃ n:Int,(I.cell 0)=D.j n/\Br (n==6) (kB 59 [.dg 2 (D.sub I 4 2)] N (λb a=>Br (!(true==b)) (uP a (Q false)) (∃ b:Int,
 (I.cell 0)=D.j b/\kB 59 [.dg 2 (D.sub I 6 2)] a (λa c=>Br (!((b==9)==a)) (uP c (Q false)) (∃ a:Int,(I.cell 0)=D.j a/\Br (bne
 a 9) (kB 139 [.dg 2 (D.sub I 6 2)] c (λa b=>Br (!a) (uP b (Q false)) (∃ a:Int,(I.cell 0)=D.j a/\Br (a==2) (∃ a:Int,(I.cell
 3)=D.j a/\kB 31 [.j a,.j 0,.j 10006] b (λa b=>Br a (kB 140 [.dg 9 I] b (λa b=>uP b (Q a))) (uP b (Q false)))) (Br (a ==
 3) (∃ a:Int,(I.cell 3)=D.j a/\kB 31 [.j a,.j 0,.j 1] b (λa b=>Br a (kB 140 [.dg 9 I] b (λa b=>uP b (Q a))) (uP b (Q
 false)))) (∃ a:Int,(I.cell 3)=D.j a/\kB 31 [.j a,.j 0,.j 0] b (λa b=>Br a (kB 140 [.dg 9 I] b (λa b=>uP b (Q a))) (uP
 b (Q false)))))))) (∃ a:Int,(I.cell 0)=D.j a/\Br (a==2) (∃ a:Int,(I.cell 3)=D.j a/\kB 31 [.j a,.j 0,.j 10006] c (λa b=>
 Br a (kB 140 [.dg 9 I] b (λa b=>uP b (Q a))) (uP b (Q false)))) (Br (a==3) (∃ a:Int,(I.cell 3)=D.j a/\kB 31 [.j a,.j 0,
 .j 1] c (λa b=>Br a (kB 140 [.dg 9 I] b (λa b=>uP b (Q a))) (uP b (Q false)))) (∃ a:Int,(I.cell 3)=D.j a/\kB 31
 [.j a,.j 0,.j 0] c (λa b=>Br a (kB 140 [.dg 9 I] b (λa b=>uP b (Q a))) (uP b (Q false))))))))))) (∃ a:Int,(I.cell
 0)=D.j a/\kB 59 [.dg 2 (D.sub I 4 2)] N (λb c=>Br (!((a==9)==b)) (uP c (Q false)) (Br (!(a==9)) (kB 139 [.dg 2 (D.sub I 4 2)]
 c (λa b=>Br (!a) (uP b (Q false)) (∃ a:Int,(I.cell 0)=D.j a/\kB 59 [.dg 2 (D.sub I 6 2)] b (λb c=>Br (!((a==9)
 == b)) (uP c (Q false)) (∃ a:Int,(I.cell 0)=D.j a/\Br (bne a 9) (kB 139 [.dg 2 (D.sub I 6 2)] c (λa b=>Br (!a) (uP b (Q
 false)) (∃ a:Int,(I.cell 0)=D.j a/\Br (a==2) (∃ a:Int,(I.cell 3)=D.j a/\kB 31 [.j a,.j 0,.j 10006] b (λa b=>Br
 a (kB 140 [.dg 9 I] b (λa b=>uP b (Q a))) (uP b (Q false)))) (Br (a==3) (∃ a:Int,(I.cell 3)=D.j a/\kB 31 [.j a,.j
 0,.j 1] b (λa b=>Br a (kB 140 [.dg 9 I] b (λa b=>uP b (Q a))) (uP b (Q false)))) (∃ a:Int,(I.cell 3)=D.j a/\kB
 31 [.j a,.j 0,.j 0] b (λa b=>Br a (kB 140 [.dg 9 I] b (λa b=>uP b (Q a))) (uP b (Q false)))))))) (∃ a:Int,(I.cell
 0)=D.j a/\Br (a==2) (∃ a:Int,(I.cell 3)=D.j a/\kB 31 [.j a,.j 0,.j 10006] c (λa b=>Br a (kB 140 [.dg 9 I] b (fun
 a b=>uP b (Q a))) (uP b (Q false)))) (Br (a==3) (∃ a:Int,(I.cell 3)=D.j a/\kB 31 [.j a,.j 0,.j 1] c (λa b=>Br
 a (kB 140 [.dg 9 I] b (λa b=>uP b (Q a))) (uP b (Q false)))) (∃ a:Int,(I.cell 3)=D.j a/\kB 31 [.j a,.j 0,.j 0] c (fun
 a b=>Br a (kB 140 [.dg 9 I] b (λa b=>uP b (Q a))) (uP b (Q false))))))))))) (∃ a:Int,(I.cell 0)=D.j a/\kB 59 [.dg 2
 (D.sub I 6 2)] c (λb c=>Br (!((a==9)==b)) (uP c (Q false)) (∃ a:Int,(I.cell 0)=D.j a/\Br (bne a 9) (kB 139 [.dg 2
 (D.sub I 6 2)] c (λa b=>Br (!a) (uP b (Q false)) (∃ a:Int,(I.cell 0)=D.j a/\Br (a==2) (∃ a:Int,(I.cell 3)=D.j a
 /\ kB 31 [.j a,.j 0,.j 10006] b (λa b=>Br a (kB 140 [.dg 9 I] b (λa b=>uP b (Q a))) (uP b (Q false)))) (Br (a ==
 3) (∃ a:Int,(I.cell 3)=D.j a/\kB 31 [.j a,.j 0,.j 1] b (λa b=>Br a (kB 140 [.dg 9 I] b (λa b=>uP b (Q
 a))) (uP b (Q false)))) (∃ a:Int,(I.cell 3)=D.j a/\kB 31 [.j a,.j 0,.j 0] b (λa b=>Br a (kB 140 [.dg 9 I] b (fun
 a b=>uP b (Q a))) (uP b (Q false)))))))) (∃ a:Int,(I.cell 0)=D.j a/\Br (a==2) (∃ a:Int,(I.cell 3)=D.j a/\kB 31
 [.j a,.j 0,.j 10006] c (λa b=>Br a (kB 140 [.dg 9 I] b (λa b=>uP b (Q a))) (uP b (Q false)))) (Br (a==3) (∃
 a:Int,(I.cell 3)=D.j a/\kB 31 [.j a,.j 0,.j 1] c (λa b=>Br a (kB 140 [.dg 9 I] b (λa b=>uP b (Q a))) (uP
 b (Q false)))) (∃ a:Int,(I.cell 3)=D.j a/\kB 31 [.j a,.j 0,.j 0] c (λa b=>Br a (kB 140 [.dg 9 I] b (λa b=>uP
 b (Q a))) (uP b (Q false)))))))))))) ):ACalls prog 95 [.bool] [PV.dg 9 I] N Q:=
  eE GC h
theorem Ha (N:Nat) (x0:D) (Q:QT [.int .i64]) (h :
Bel N x0->∃ n:Int,(x0.cell 0)=D.j n/\Br (n==1) (uP N (Q 0)) (Br (n==2) (uP N (Q 0)) (Br (n==3) (uP N (Q 0)) (Br (n==4) (∃ s,(x0.cell 1) =
 D.t s/\kI 114 [.str s] N (fun a b=>uP b (Q a))) (Br (n==6) (uP N (Q 1)) (Br (n==9) (uP N (Q 1)) (Br (n==10) (uP N (Q 1)) (Br (n==11) (uP N (Q
 1)) (Br (n==12) (uP N (Q 1)) (Br (n==13) (uP N (Q 1)) (Br (n==7) (uP N (Q 2)) (Br (n==8) (uP N (Q 2)) (Br (n==5) (uP N (Q 3)) (uP N (Q
 (-1)))))))))))))))):ACalls prog 71 [.int .i64] [PV.dg 9 x0] N Q:=
  eE H0 h
theorem I2 (N:Nat) (I:D) (Q:QT [.bool]) (h :
Bel N I->vi Q N 0 I N):ACalls prog 53 [.bool] [PV.dg 9 I] N Q:=
 eE BH h
theorem BX (N:Nat) (x0:D) (n1:Int) (Q:QT [.int .i64]) (h :
Bel N x0->∃ n:Int,(x0.cell 0)=D.j n/\Br (n==10) (uP N (Q (IntKind.i64.wrap (n1+1)))) (Br (n==11) (uP N (Q (IntKind.i64.wrap (n1 - 1)))) (uP N
 (Q n1)))):ACalls prog 104 [.int .i64] [PV.dg 9 x0,PV.int .i64 n1] N Q:=
  eE H0 h
theorem MJ (N:Nat) (I:D) (J:Int) (Q:QT [.bool]) (h :
Bel N I->kB 31 [.j J,.j 0,.j 2] N (λb a=>Br (!b) (uP a (Q false)) (tA Q N J 0 I a))):ACalls prog 60 [.bool] [PV.dg 9 I,PV.int .i64 J] N Q:=
 eE FB h
theorem Gj (N:Nat) (I:D) (J:Int) (Q:QT [.bool]) (h :
Bel N I->kB 53 [.dg 9 I] N (λb a=>Br b (kB 60 [.dg 9 I,.j J] a (λa b=>uP b (Q a))) (uP a (Q false)))):ACalls prog 33 [.bool] [PV.dg 9 I,PV.int .i64 J] N Q:=
 eE GB h
theorem JN (N:Nat) (a0:Option Addr) (e0:List D) (I:Nat) (J:ByteArray) (Q:QT [.int .i64]) (h :
Bel N (D.sl a0 4 e0 I)->vQ Q N a0 e0 I J (IntKind.i64.wrap ((e0.length:Int) - 1)) N):ACalls prog 105 [.int .i64] [PV.sv a0 4 e0 I,PV.str J] N Q:=
 eE Bf h
theorem JO (N:Nat) (I:D) (Q:QT [.ag 2]) (h :
Bel N I->∃ n:Int,(I.cell 0)=D.j n/\tZ Q N 0 I 0 none [] 0 n none [] 0 N):ACalls prog 55 [.ag 2] [PV.dg 2 I] N Q:=
 eE qA h
theorem Ln (N:Nat)  (Q:QT [.ag 2]) (h :
uP N (Q (D.ag [D.j 1,D.sl none 2 [] 0]))):ACalls prog 45 [.ag 2] [] N Q:=
 eE H0 h
theorem I0 (N:Nat)  (Q:QT [.ag 2]) (h :
uP N (Q (D.ag [D.j 2,D.sl none 2 [] 0]))):ACalls prog 106 [.ag 2] [] N Q:=
 eE H0 h
theorem KN (N:Nat) (a0:Option Addr) (e0:List D) (U:Nat) (J:ByteArray) (I:D) (O:Int) (Q:QT [.sl 4]) (h :
Bel N (D.sl a0 4 e0 U)->Bel N I->(0=0/\0=0)/\zC [] e0 56/\∀(c:Nat),(([]++e0).length=([]++e0).length/\c=c)/\zC ([]++e0)
 [D.ag [D.t J,(I.cell 0),(I.cell 1),D.j O]] 56/\∀(b:Nat),w2 (([]++e0++[D.ag [D.t J,(I.cell 0),(I.cell 1),D.j O]]).length=([]++e0 ++
 [D.ag [D.t J,(I.cell 0),(I.cell 1),D.j O]]).length/\b=b) (∀ a c,N<=c->Fresh N c a [D.ag ([]++e0++[D.ag [D.t J,(I.cell 0),(I.cell
 1),D.j O]])]->uP c (Q a ([]++e0++[D.ag [D.t J,(I.cell 0),(I.cell 1),D.j O]]) b))):ACalls prog 80 [.sl 4] [PV.sv a0 4 e0 U,PV.str J,PV.dg 2 I,PV.int .i64 O] N Q:=
  eE H0 h
theorem Dt (N:Nat) (I J:D) (Q:QT [.ag 2]) (h :
Bel N I->Bel N J->kA 2 55 [.dg 2 I] N (λx b=>kA 2 55 [.dg 2 J] b (λb c=>w3 (2=([x,b]).length/\2=2) (∀ a d,c<=d->Fresh N
 d a [D.ag [x,b]]->uP d (Q (D.ag [D.j 3,D.sl a 2 [x,b] 2])))))):ACalls prog 73 [.ag 2] [PV.dg 2 I,PV.dg 2 J] N Q:=
  eE La h
theorem Ec (N:Nat) (x0 x1:D) (Q:QT [.bool]) (h :
Bel N x0->Bel N x1->∃ n:Int,(x0.cell 0)=D.j n/\∃ b:Int,(x1.cell 0)=D.j b/\Br (bne n b) (uP N (Q false)) (∃ a b,∃ c:Nat,(x0.cell 1)
 = D.sl a 2 b c/\∃ a c,∃ d:Nat,(x1.cell 1)=D.sl a 2 c d/\Br (bne (b.length:Int) (c.length:Int)) (uP N (Q false))
 (yv Q N 0 x0 x1 N))):ACalls prog 16 [.bool] [PV.dg 2 x0,PV.dg 2 x1] N Q:=
  eE qF h
theorem rj (N:Nat) (a0:Option Addr) (e0:List D) (c0:Nat) (x1:D) (n2:Int) (Q:QT [.ag 2,.bool]) (h :
Bel N (D.sl a0 4 e0 c0)->Bel N x1->∃ n:Int,(x1.cell 0)=D.j n/\Br (n==6) (∃ s,(x1.cell 1)=D.t s/\∃ a d,∃ c:Nat,(x1.cell 8)=D.sl a 9 d
 c/\((0:Int)<=(0:Int)/\0<(d.length:Int))/\kL 4 80 [.sv a0 4 e0 c0,.str s,.dg 2 (D.sub x1 4 2),.j n2] N (fun a c e f=>kAB 2 34 [.sv a
 4 c e,.dg 9 (List.getD d 0 default),.j n2] f (fun x b a=>kA 2 73 [.dg 2 (D.sub x1 4 2),.dg 2 x] a (fun a c=>uP c (Q a b))))) (Br (n==8)
 (∃ a b,∃ c:Nat,(x1.cell 8)=D.sl a 9 b c/\((0:Int)<=(0:Int)/\0<(b.length:Int))/\kAB 2 34 [.sv a0 4 e0 c0,.dg 9 (List.getD
 b 0 default),.j n2] N (fun a b c=>Br (!b) (uP c (Q (D.ag [D.j 0,D.sl none 2 [] 0]) false)) (∃ b,(x1.cell 1)=D.t b/\∃ d e,∃ f :
 Nat,(x1.cell 8)=D.sl d 9 e f/\((0:Int)<=(1:Int)/\1<(e.length:Int))/\kL 4 80 [.sv a0 4 e0 c0,.str b,.dg 2 a,.j n2] c (fun a
 b c d=>kAB 2 34 [.sv a 4 b c,.dg 9 (List.getD e 1 default),.j n2] d (fun a b c=>uP c (Q a b)))))) (kA 2 73 [.dg 2 (D.sub x1
 4 2),.dg 2 (D.sub x1 6 2)] N (fun a b=>∃ c,(x1.cell 1)=D.t c/\∃ d,(x1.cell 2)=D.t d/\∃ e f,∃ g:Nat,(x1.cell 8)=D.sl e 9
 f g/\((0:Int)<=(0:Int)/\0<(f.length:Int))/\kL 4 80 [.sv a0 4 e0 c0,.str c,.dg 2 a,.j n2] b (fun b c e g=>kL 4 80 [.sv
 b 4 c e,.str d,.dg 2 (D.sub x1 4 2),.j n2] g (fun b c d e=>kAB 2 34 [.sv b 4 c d,.dg 9 (List.getD f 0 default),.j n2] e
 (fun b c d=>Br c (kB 16 [.dg 2 b,.dg 2 (D.sub x1 6 2)] d (fun b c=>uP c (Q a b))) (uP d (Q a false))))))))):ACalls prog 107 [.ag 2,.bool] [PV.sv a0 4 e0 c0,PV.dg 9 x1,PV.int .i64 n2] N Q:=
  eE Js h
theorem Jd (N:Nat) (x0:D) (Q:QT [.bool]) (h :
Bel N x0->∃ n:Int,(x0.cell 0)=D.j n/\Br (n==1) (∃ a b,∃ c:Nat,(x0.cell 1)=D.sl a 2 b c/\uP N (Q ((b.length:Int)==0))) (∃ a:Int,
 (x0.cell 0)=D.j a/\Br (a==2) (∃ a b,∃ c:Nat,(x0.cell 1)=D.sl a 2 b c/\uP N (Q ((b.length:Int)==0))) (uP N (Q false)))):ACalls prog 81 [.bool] [PV.dg 2 x0] N Q:=
  eE H0 h
theorem HU (N:Nat) (a0:Option Addr) (e0:List D) (I:Nat) (J:Int) (Q:QT [.sl 4]) (h :
Bel N (D.sl a0 4 e0 I)->yO Q N a0 e0 I J 0 0 0 [] 0 N):ACalls prog 118 [.sl 4] [PV.sv a0 4 e0 I,PV.int .i64 J] N Q:=
 eE Ad h
theorem BS (N:Nat) (I:D) (Q:QT [.ag 2]) (h :
Bel N I->kA 2 55 [.dg 2 I] N (λx b=>w3 (1=([x]).length/\1=1) (∀ a c,b<=c->Fresh N c a [D.ag [x]]->uP c (Q (D.ag [D.j 4,D.sl a 2 [x]
 1]))))):ACalls prog 72 [.ag 2] [PV.dg 2 I] N Q:=
  eE Ji h
theorem Hj (N:Nat) (a0:Option Addr) (e0:List D) (J:Nat) (I:D) (O:Int) (Q:QT [.ag 2,.bool]) (h :
Bel N (D.sl a0 4 e0 J)->Bel N I->∃ n:Int,(I.cell 0)=D.j n/\Br (n==12) (kL 4 118 [.sv a0 4 e0 J,.j O] N (λa c d e=>∃ f g,∃ h
 : Nat,(I.cell 8)=D.sl f 9 g h/\((0:Int)<=(0:Int)/\0<(g.length:Int))/\kI 104 [.dg 9 I,.j O] e (λe f=>kAB 2 34 [.sv a 4 c
 d,.dg 9 (List.getD g 0 default),.j e] f (λx b a=>Br (!b) (uP a (Q (D.ag [D.j 0,D.sl none 2 [] 0]) false)) (∃ b:Int,(I.cell 0)=D.j b /\
 Br (b==10) (kA 2 72 [.dg 2 x] a (λa b=>uP b (Q a true))) (∃ b:Int,(I.cell 0)=D.j b/\Br (b==13) (kA 2 72 [.dg 2 x] a (λa b
 => kB 81 [.dg 2 x] b (λb c=>uP c (Q a b)))) (∃ b:Int,(x.cell 0)=D.j b/\Br (b==4) (∃ b c,∃ d:Nat,(x.cell 1)=D.sl b
 2 c d/\((0:Int)<=(0:Int)/\0<(c.length:Int))/\kA 2 55 [.dg 2 (List.getD c 0 default)] a (λa b=>uP b (Q a true))) (uP a (Q
 (D.ag [D.j 0,D.sl none 2 [] 0]) false))))))))) (∃ a b,∃ c:Nat,(I.cell 8)=D.sl a 9 b c/\((0:Int)<=(0:Int)/\0<(b.length:Int))
 /\ kI 104 [.dg 9 I,.j O] N (λa c=>kAB 2 34 [.sv a0 4 e0 J,.dg 9 (List.getD b 0 default),.j a] c (λa b c=>Br (!b) (uP c (Q
 (D.ag [D.j 0,D.sl none 2 [] 0]) false)) (∃ b:Int,(I.cell 0)=D.j b/\Br (b==10) (kA 2 72 [.dg 2 a] c (λa b=>uP b (Q a true))) (∃
 b:Int,(I.cell 0)=D.j b/\Br (b==13) (kA 2 72 [.dg 2 a] c (λb c=>kB 81 [.dg 2 a] c (λa c=>uP c (Q b a)))) (∃ b :
 Int,(a.cell 0)=D.j b/\Br (b==4) (∃ b d,∃ e:Nat,(a.cell 1)=D.sl b 2 d e/\((0:Int)<=(0:Int)/\0<(d.length:Int)) /\
 kA 2 55 [.dg 2 (List.getD d 0 default)] c (λa b=>uP b (Q a true))) (uP c (Q (D.ag [D.j 0,D.sl none 2 [] 0]) false))))))))):ACalls prog 108 [.ag 2,.bool] [PV.sv a0 4 e0 J,PV.dg 9 I,PV.int .i64 O] N Q:=
  eE HC h
theorem Ms (N:Nat) (s0:ByteArray) (a1:Option Addr) (e1:List D) (c1:Nat) (Q:QT [.ag 2,.bool]) (h :
Bel N (D.sl a1 2 e1 c1)->Br (ByteArray.toList s0==ByteArray.toList (bytes [38])) (yi Q N s0 a1 e1 c1 2 0 0 none [] 0 N) (Br (ByteArray.toList
 s0==ByteArray.toList (bytes [124])) (yi Q N s0 a1 e1 c1 2 0 0 none [] 0 N) (Br (ByteArray.toList s0==ByteArray.toList (bytes [33]))
 (yi Q N s0 a1 e1 c1 2 0 0 none [] 0 N) (yi Q N s0 a1 e1 c1 1 0 0 none [] 0 N)))):ACalls prog 147 [.ag 2,.bool] [PV.str s0,PV.sv a1 2 e1 c1] N Q:=
  eE FU h
theorem Ja (N:Nat) (I:D) (a1:Option Addr) (e1:List D) (c1:Nat) (Q:QT [.ag 2,.bool]) (h :
Bel N I->Bel N (D.sl a1 2 e1 c1)->∃ n:Int,(I.cell 0)=D.j n/\Br (n==4) (∃ s,(I.cell 1)=D.t s/\kAB 2 147 [.str s,.sv a1 2 e1 c1] N (λx b
 a=>uP a (Q x b))) (Br (n==5) (((0:Int)<=(1:Int)/\1<(e1.length:Int))/\((0:Int)<=(0:Int)/\0<(e1.length:Int))/\∃ a:Int,(if 0=0
 then D.cell (List.getD e1 0 default) 0 else D.sub (List.getD e1 0 default) 0 0)=D.j a/\Br (a==2) (((0:Int)<=(1:Int)/\1<(e1.length:Int))/\((0
 : Int)<=(2:Int)/\2<(e1.length:Int))/\kB 16 [.dg 2 (List.getD e1 1 default),.dg 2 (List.getD e1 2 default)] N (λa b=>uP b (Q (List.getD e1 1
 default) a))) (uP N (Q (List.getD e1 1 default) false))) (((0:Int)<=(0:Int)/\0<(e1.length:Int))/\∃ b:Int,(if 0=0 then D.cell (List.getD e1 0
 default) 0 else D.sub (List.getD e1 0 default) 0 0)=D.j b/\Br (b==3) (((0:Int)<=(0:Int)/\0<(e1.length:Int))/\∃ a b,∃ c:Nat,(if 0=0
 then D.cell (List.getD e1 0 default) 1 else D.sub (List.getD e1 0 default) 1 0)=D.sl a 2 b c/\((0:Int)<=(0:Int)/\0<(b.length:Int))/\((0:Int) <=
 (1:Int)/\1<(e1.length:Int))/\kB 16 [.dg 2 (List.getD b 0 default),.dg 2 (List.getD e1 1 default)] N (λa b=>Br a (((0:Int)<=(0:Int)/\0
 < (e1.length:Int))/\∃ a c,∃ d:Nat,(if 0=0 then D.cell (List.getD e1 0 default) 1 else D.sub (List.getD e1 0 default) 1 0)=D.sl a 2 c d
 /\ ((0:Int)<=(1:Int)/\1<(c.length:Int))/\kA 2 55 [.dg 2 (List.getD c 1 default)] b (λa b=>uP b (Q a true))) (uP b (Q (D.ag [D.j
 0,D.sl none 2 [] 0]) false)))) (uP N (Q (D.ag [D.j 0,D.sl none 2 [] 0]) false))))):ACalls prog 109 [.ag 2,.bool] [PV.dg 9 I,PV.sv a1 2 e1 c1] N Q:=
  eE I8 h
theorem Je (N:Nat) (a0:Option Addr) (e0:List D) (J:Nat) (I:D) (O:Int) (Q:QT [.ag 2,.bool]) (h :
Bel N (D.sl a0 4 e0 J)->Bel N I->∃ n:Int,(I.cell 0)=D.j n/\Br (n==1) (∃ s,(I.cell 1)=D.t s/\kI 105 [.sv a0 4 e0 J,.str s] N (λa b
 => Br (decide (a<0)) (uP b (Q (D.ag [D.j 0,D.sl none 2 [] 0]) false)) ((0<=a/\a<(e0.length:Int))/\∃ c:Int,(if 0=0 then D.cell (List.getD
 e0 a.toNat default) 3 else D.sub (List.getD e0 a.toNat default) 3 0)=D.j c/\Br (bne c O) (uP b (Q (D.ag [D.j 0,D.sl none 2 [] 0]) false)) ((0 <=
 a/\a<(e0.length:Int))/\kA 2 55 [.dg 2 (if 2=0 then D.cell (List.getD e0 a.toNat default) 1 else D.sub (List.getD e0 a.toNat default) 1 2)] b
 (λx a=>uP a (Q x true)))))) (Br (n==2) (kA 2 45 [] N (λa b=>uP b (Q a true))) (Br (n==3) (kA 2 106 [] N (λa b=>uP b (Q a
 true))) (Br (n==6) (kAB 2 107 [.sv a0 4 e0 J,.dg 9 I,.j O] N (λa b c=>uP c (Q a b))) (Br (n==8) (kAB 2 107 [.sv a0 4 e0 J,.dg 9 I,.j
 O] N (λa b c=>uP c (Q a b))) (Br (n==9) (kAB 2 107 [.sv a0 4 e0 J,.dg 9 I,.j O] N (λa b c=>uP c (Q a b))) (Br (n ==
 10) (kAB 2 108 [.sv a0 4 e0 J,.dg 9 I,.j O] N (λa b c=>uP c (Q a b))) (Br (n==11) (kAB 2 108 [.sv a0 4 e0 J,.dg 9 I,.j O] N (fun
 a b c=>uP c (Q a b))) (Br (n==12) (kAB 2 108 [.sv a0 4 e0 J,.dg 9 I,.j O] N (λa b c=>uP c (Q a b))) (Br (n==13) (kAB 2
 108 [.sv a0 4 e0 J,.dg 9 I,.j O] N (λa b c=>uP c (Q a b))) (xR Q N a0 e0 J O 0 0 0 I 0 none [] 0 [] 0 N))))))))))):ACalls prog 61 [.ag 2,.bool] [PV.sv a0 4 e0 J,PV.dg 9 I,PV.int .i64 O] N Q:=
  eE Cl h
theorem Jy (N:Nat) (a0:Option Addr) (e0:List D) (c0:Nat) (x1:D) (n2:Int) (Q:QT [.ag 2,.bool]) (h :
Bel N (D.sl a0 4 e0 c0)->Bel N x1->kAB 2 61 [.sv a0 4 e0 c0,.dg 9 x1,.j n2] N (fun x b a=>Br (!b) (uP a (Q (D.ag [D.j 0,D.sl none 2 [] 0]) false))
 (kB 59 [.dg 2 x] a (fun a b=>Br (!a) (uP b (Q (D.ag [D.j 0,D.sl none 2 [] 0]) false)) (uP b (Q x true)))))):ACalls prog 34 [.ag 2,.bool] [PV.sv a0 4 e0 c0,PV.dg 9 x1,PV.int .i64 n2] N Q:=
  eE KQ h
theorem JX (N:Nat) (a0:Option Addr) (e0:List D) (I:Nat) (J:D) (O:Int) (Q:QT [.ag 2,.bool]) (h :
Bel N (D.sl a0 4 e0 I)->Bel N J->kB 32 [.sv a0 4 e0 I] N (λb a=>Br (!b) (uP a (Q (D.ag [D.j 0,D.sl none 2 [] 0]) false)) (kB 33 [.dg 9 J,.j
 O] a (λa b=>Br (!a) (uP b (Q (D.ag [D.j 0,D.sl none 2 [] 0]) false)) (kAB 2 34 [.sv a0 4 e0 I,.dg 9 J,.j O] b (λx a b=>uP b (Q x
 a))))))):ACalls prog 15 [.ag 2,.bool] [PV.sv a0 4 e0 I,PV.dg 9 J,PV.int .i64 O] N Q:=
  eE J7 h
theorem pA {Q:QT [.bool]} {N0:Nat} {J:ByteArray} {I:Int} {N:Nat} (h :
Br (decide (I<(J.size:Int))) ((0<=I/\I<(J.size:Int))/\Br (decide ((UInt8.toNat (Array.getD (ByteArray.data J) I.toNat (OfNat.ofNat 0)) :
 Int)≥97)) ((0<=I/\I<(J.size:Int))/\Br (!(decide ((UInt8.toNat (Array.getD (ByteArray.data J) I.toNat (OfNat.ofNat 0)):Int)<=122))) (Br (I ==
 0) (uP N (Q false)) ((0<=I/\I<(J.size:Int))/\Br (decide ((UInt8.toNat (Array.getD (ByteArray.data J) I.toNat (OfNat.ofNat 0)):Int)<48)) (uP N (Q
 false)) ((0<=I/\I<(J.size:Int))/\Br (decide ((UInt8.toNat (Array.getD (ByteArray.data J) I.toNat (OfNat.ofNat 0)):Int)>57)) (uP N (Q false))
 (xE Q N0 J (IntKind.i64.wrap (I+1)) N)))) (xE Q N0 J (IntKind.i64.wrap (I+1)) N)) (Br (I==0) (uP N (Q false)) ((0<=I/\I
 < (J.size:Int))/\Br (decide ((UInt8.toNat (Array.getD (ByteArray.data J) I.toNat (OfNat.ofNat 0)):Int)<48)) (uP N (Q false)) ((0<=I/\I<(J.size
 : Int))/\Br (decide ((UInt8.toNat (Array.getD (ByteArray.data J) I.toNat (OfNat.ofNat 0)):Int)>57)) (uP N (Q false)) (xE Q N0 J
 (IntKind.i64.wrap (I+1)) N))))) (kB 31 [.j (J.size:Int),.j 1,.j 4] N (λb a=>Br b (Br (!(ByteArray.toList J==ByteArray.toList (bytes [105,
 102]))) (Br (!(ByteArray.toList J==ByteArray.toList (bytes [108,101,116]))) (Br (!(ByteArray.toList J==ByteArray.toList (bytes [114,101,99]))) (Br
 (!(ByteArray.toList J==ByteArray.toList (bytes [114,117,110]))) (∀ b,a<=b->Q (!(ByteArray.toList J==ByteArray.toList (bytes [108,105,102,
 116]))) b) (uP a (Q false))) (uP a (Q false))) (uP a (Q false))) (uP a (Q false))) (uP a (Q false))))):xE Q N0 J I N:=
  hE Bp h
theorem qt {Q:QT [.int .i64]} {N0:Nat} {n1 n5:Int} {y0:D} {N:Nat} (h :
∃ a b,∃ c:Nat,(y0.cell 1)=D.sl a 2 b c/\Br (decide (n5<(b.length:Int))) (Br (decide (n1≥0)) (∃ a b,∃ c:Nat,(y0.cell 1)=D.sl
 a 2 b c/\(0<=n5/\n5<(b.length:Int))/\kI 101 [.dg 2 (List.getD b n5.toNat default),.j n1] N (fun n a=>vF Q N0 n
 (IntKind.i64.wrap (n5+1)) y0 a)) (uP N (Q n1))) (uP N (Q n1))):vF Q N0 n1 n5 y0 N:=
  hE CG h
theorem uy {Q:QT [.int .i64]} {N0:Nat} {O I:Int} {J:D} {N:Nat} (h :
∃ a b,∃ c:Nat,(J.cell 1)=D.sl a 2 b c/\Br (decide (I<(b.length:Int))) (∃ a b,∃ c:Nat,(J.cell 1)=D.sl a 2 b c/\(0<=I
 /\ I<(b.length:Int))/\kI 102 [.dg 2 (List.getD b I.toNat default)] N (λn a=>kI 146 [.j O,.j n] a (λa b=>y9 Q N0
 a (IntKind.i64.wrap (I+1)) J b))) (uP N (Q (IntKind.i64.wrap (O+1))))):y9 Q N0 O I J N:=
  hE sW h
theorem q9 {Q:QT [.bool]} {N0:Nat} {n3:Int} {y0:D} {N:Nat} (h :
∃ a d,∃ c:Nat,(y0.cell 1)=D.sl a 2 d c/\Br (decide (n3<(d.length:Int))) (∃ a c,∃ d:Nat,(y0.cell 1)=D.sl a 2 c d/\(0<=n3
 /\ n3<(c.length:Int))/\kB 103 [.dg 2 (List.getD c n3.toNat default)] N (fun b a=>Br (!b) (uP a (Q false)) (vg Q N0 (IntKind.i64.wrap
 (n3+1)) y0 a))) (∃ n:Int,(y0.cell 0)=D.j n/\Br (n==1) (∃ a b,∃ c:Nat,(y0.cell 1)=D.sl a 2 b c/\uP N (Q ((b.length:Int) ==
 0))) (Br (n==2) (∃ a b,∃ c:Nat,(y0.cell 1)=D.sl a 2 b c/\uP N (Q ((b.length:Int)==0))) (Br (n==3) (∃ a b,∃ c:Nat,
 (y0.cell 1)=D.sl a 2 b c/\uP N (Q ((b.length:Int)==2))) (Br (n==4) (∃ a b,∃ c:Nat,(y0.cell 1)=D.sl a 2 b c/\uP N (Q
 ((b.length:Int)==1))) (uP N (Q false))))))):vg Q N0 n3 y0 N:=
  hE BK h
theorem Ae {Q:QT [.bool]} {N0:Nat} {a0:Option Addr} {e0:List D} {c0:Nat} {n3:Int} {N:Nat} (h :
Br (decide (n3<(e0.length:Int))) ((0<=n3/\n3<(e0.length:Int))/\∃ s,(if 0=0 then D.cell (List.getD e0 n3.toNat default) 0 else D.sub
 (List.getD e0 n3.toNat default) 0 0)=D.t s/\kB 58 [.str s] N (fun b a=>Br (!b) (uP a (Q false)) ((0<=n3/\n3<(e0.length:Int))/\kB 59 [.dg 2 (if 2 =
 0 then D.cell (List.getD e0 n3.toNat default) 1 else D.sub (List.getD e0 n3.toNat default) 1 2)] a (fun a b=>Br (!a) (uP b (Q false)) ((0<=n3/\n3 <
 (e0.length:Int))/\∃ n:Int,(if 0=0 then D.cell (List.getD e0 n3.toNat default) 3 else D.sub (List.getD e0 n3.toNat default) 3 0)=D.j n/\kB 31 [.j n,
 .j 0,.j 2] b (fun a b=>Br (!a) (uP b (Q false)) (uN Q N0 a0 e0 c0 (IntKind.i64.wrap (n3+1)) b))))))) (∀ a,N<=a->Q (decide
 ((e0.length:Int)<=12)) a)):uN Q N0 a0 e0 c0 n3 N:=
  hE D2 h
theorem pW {Q:QT [.bool]} {N0:Nat} {J:Int} {I:D} {N:Nat} (h :
∃ a d,∃ c:Nat,(I.cell 8)=D.sl a 9 d c/\Br (decide (J<(d.length:Int))) (∃ a c,∃ d:Nat,(I.cell 8)=D.sl a 9 c d/\(0<=J
 /\ J<(c.length:Int))/\kB 53 [.dg 9 (List.getD c J.toNat default)] N (λb a=>Br (!b) (uP a (Q false)) (vi Q N0 (IntKind.i64.wrap
 (J+1)) I a))) (kB 95 [.dg 9 I] N (λa b=>Br a (∃ a c,∃ d:Nat,(I.cell 8)=D.sl a 9 c d/\kI 71 [.dg 9 I] b (λn a=>uP
 a (Q ((c.length:Int)==n)))) (uP b (Q false))))):vi Q N0 J I N:=
  hE BH h
theorem Bm {Q:QT [.bool]} {N0:Nat} {O I:Int} {J:D} {N:Nat} (h :
∃ a d,∃ c:Nat,(J.cell 8)=D.sl a 9 d c/\Br (decide (I<(d.length:Int))) (∃ a c,∃ d:Nat,(J.cell 8)=D.sl a 9 c d/\(0<=I
 /\ I<(c.length:Int))/\kI 104 [.dg 9 J,.j O] N (λn a=>kB 60 [.dg 9 (List.getD c I.toNat default),.j n] a (λb a=>Br (!b) (uP a (Q
 false)) (tA Q N0 O (IntKind.i64.wrap (I+1)) J a)))) (uP N (Q true))):tA Q N0 O I J N:=
  hE FB h
theorem pN {Q:QT [.int .i64]} {N0:Nat} {a0:Option Addr} {e0:List D} {c0:Nat} {s1:ByteArray} {n5:Int} {N:Nat} (h :
Br (decide (n5≥0)) ((0<=n5/\n5<(e0.length:Int))/\∃ s,(if 0=0 then D.cell (List.getD e0 n5.toNat default) 0 else D.sub (List.getD e0 n5.toNat
 default) 0 0)=D.t s/\Br (ByteArray.toList s==ByteArray.toList s1) (uP N (Q n5)) (vQ Q N0 a0 e0 c0 s1 (IntKind.i64.wrap (n5 - 1)) N)) (uP N (Q
 (-1)))):vQ Q N0 a0 e0 c0 s1 n5 N:=
  hE Bf h
theorem qo {Q:QT [.ag 2]} {N0:Nat} {n4:Int} {y0:D} {Y:Int} {aa:Option Addr} {ab:List D} {ac:Nat} {J:Int} {O:Option Addr} {I:List D} {U:Nat} {N:Nat} (h :
∃ a b,∃ c:Nat,(y0.cell 1)=D.sl a 2 b c/\Br (decide (n4<(b.length:Int))) (∃ a b,∃ c:Nat,(y0.cell 1)=D.sl a 2 b c/\(0<=n4
 /\ n4<(b.length:Int))/\kA 2 55 [.dg 2 (List.getD b n4.toNat default)] N (λx a=>Vw O I U [x]/\zC I [x] 32/\∀(b:Nat),
 xh Q N0 (IntKind.i64.wrap (n4+1)) y0 Y aa ab ac J (I++[x]).length b (I++[x]) b a)) (uP N (Q (D.ag [D.j J,D.sl
 O 2 I U])))):tZ Q N0 n4 y0 Y aa ab ac J O I U N:=
  hE qA h
theorem sK {Q:QT [.bool]} {N0:Nat} {I:Int} {J O:D} {N:Nat} (h :
∃ a d,∃ c:Nat,(J.cell 1)=D.sl a 2 d c/\Br (decide (I<(d.length:Int))) (∃ a c,∃ d:Nat,(J.cell 1)=D.sl a 2 c d/\(0<=I
 /\ I<(c.length:Int))/\∃ a d,∃ e:Nat,(O.cell 1)=D.sl a 2 d e/\(0<=I/\I<(d.length:Int))/\kB 16 [.dg 2 (List.getD c
 I.toNat default),.dg 2 (List.getD d I.toNat default)] N (λb a=>Br (!b) (uP a (Q false)) (yv Q N0 (IntKind.i64.wrap (I+1)) J O
 a))) (uP N (Q true))):yv Q N0 I J O N:=
  hE qF h
theorem qR {Q:QT [.sl 4]} {N0:Nat} {a0:Option Addr} {e0:List D} {O:Nat} {U:Int} {Y c5:Nat} {I:Int} {r0:List D} {J:Nat} {N:Nat} (h :
Br (decide (I<(e0.length:Int))) ((0<=I/\I<(e0.length:Int))/\kB 81 [.dg 2 (if 2=0 then D.cell (List.getD e0 I.toNat default) 1 else D.sub
 (List.getD e0 I.toNat default) 1 2)] N (λb a=>Br b ((0<=I/\I<(e0.length:Int))/\∃ n:Int,(if 0=0 then D.cell (List.getD e0 I.toNat default)
 3 else D.sub (List.getD e0 I.toNat default) 3 0)=D.j n/\Br (decide (n<=U)) ((0<=I/\I<(e0.length:Int))/\∃ s,(if 0=0 then D.cell (List.getD e0
 I.toNat default) 0 else D.sub (List.getD e0 I.toNat default) 0 0)=D.t s/\kI 105 [.sv a0 4 e0 O,.str s] a (λa b=>Br (a==I) ((0<=I/\I <
 (e0.length:Int))/\∃ a,(if 0=0 then D.cell (List.getD e0 I.toNat default) 0 else D.sub (List.getD e0 I.toNat default) 0 0)=D.t a/\(0<=I/\I <
 (e0.length:Int))/\(0<=I/\I<(e0.length:Int))/\∃ d:Int,(if 0=0 then D.cell (List.getD e0 I.toNat default) 3 else D.sub (List.getD e0 I.toNat
 default) 3 0)=D.j d/\kA 2 55 [.dg 2 (if 2=0 then D.cell (List.getD e0 I.toNat default) 1 else D.sub (List.getD e0 I.toNat default) 1 2)] b (λx b
 => (Y=r0.length/\c5=J)/\zC r0 [D.ag [D.t a,(x.cell 0),(x.cell 1),D.j d]] 56/\∀(c:Nat),yO Q N0 a0 e0 O U (r0++[D.ag
 [D.t a,(x.cell 0),(x.cell 1),D.j d]]).length c (IntKind.i64.wrap (I+1)) (r0++[D.ag [D.t a,(x.cell 0),(x.cell 1),D.j d]]) c b))
 (yO Q N0 a0 e0 O U Y c5 (IntKind.i64.wrap (I+1)) r0 J b))) (yO Q N0 a0 e0 O U Y c5 (IntKind.i64.wrap (I+1)) r0 J a))
 (yO Q N0 a0 e0 O U Y c5 (IntKind.i64.wrap (I+1)) r0 J a))) (w3 (Y=r0.length/\c5=J) (∀ a b,N<=b->Fresh N0 b a [D.ag r0]->uP
 b (Q a r0 J)))):yO Q N0 a0 e0 O U Y c5 I r0 J N:=
  hE Ad h
theorem B7 {Q:QT [.ag 2,.bool]} {N0:Nat} {s0:ByteArray} {a1:Option Addr} {e1:List D} {c1:Nat} {n6 Y I:Int} {J:Option Addr} {O:List D} {U:Nat} {N:Nat} (h :
Br (decide (Y<(e1.length:Int))) ((0<=Y/\Y<(e1.length:Int))/\∃ n:Int,(if 0=0 then D.cell (List.getD e1 Y.toNat default) 0 else D.sub
 (List.getD e1 Y.toNat default) 0 0)=D.j n/\Br (bne n n6) (uP N (Q (D.ag [D.j 0,D.sl none 2 [] 0]) false)) (yi Q N0 s0 a1 e1 c1 n6
 (IntKind.i64.wrap (Y+1)) I J O U N)) (Br (ByteArray.toList s0==ByteArray.toList (bytes [43])) (kA 2 45 [] N (λx a=>uP a (Q x true))) (Br
 (ByteArray.toList s0==ByteArray.toList (bytes [45])) (kA 2 45 [] N (λa b=>uP b (Q a true))) (Br (ByteArray.toList s0==ByteArray.toList (bytes
 [42])) (kA 2 45 [] N (λa b=>uP b (Q a true))) (kA 2 106 [] N (λa b=>uP b (Q a true))))))):yi Q N0 s0 a1 e1 c1 n6 Y I J O U N:=
  hE FU h
theorem qG {Q:QT [.ag 2,.bool]} {N0:Nat} {a0:Option Addr} {e0:List D} {c0:Nat} {n2:Int} {ab J:Nat} {I:Int} {y0:D} {O:Int} {U:Option Addr} {Y:List D} {aa:Nat} {r2:List D} {q2:Nat} {N:Nat} (h :
∃ a d,∃ c:Nat,(y0.cell 8)=D.sl a 9 d c/\Br (decide (I<(d.length:Int))) (∃ a c,∃ d:Nat,(y0.cell 8)=D.sl a 9 c d/\(0 <=
 I/\I<(c.length:Int))/\kAB 2 34 [.sv a0 4 e0 c0,.dg 9 (List.getD c I.toNat default),.j n2] N (λx b a=>Br (!b) (uP a (Q (D.ag [D.j 0,
 D.sl none 2 [] 0]) false)) ((ab=r2.length/\J=q2)/\zC r2 [x] 32/\∀(b:Nat),xR Q N0 a0 e0 c0 n2 (r2++[x]).length b
 (IntKind.i64.wrap (I+1)) y0 O U Y aa (r2++[x]) b a))) ((ab=r2.length/\J=q2)/\∀ a,ApA a r2->Off [a] y0->∀ b,N<=b->w8
 b [a]->ACalls prog 109 [.ag 2,.bool] [.dg 9 y0,.sv a 2 r2 J] b (λc d e=>b<=e->Off [a] c/\(Bel e c->uP e (Q c d))))):xR Q N0 a0 e0 c0 n2 ab J I y0 O U Y aa r2 q2 N:=
  hE Cl h
theorem sL {Q:QT [.ag 2]} {N0:Nat} {n4:Int} {y0:D} {U:Int} {Y:Option Addr} {aa:List D} {ab:Nat} {I:Int} {J O:Nat} {r3:List D} {q3:Nat} {N:Nat} (h :
∃ a b,∃ c:Nat,(y0.cell 1)=D.sl a 2 b c/\Br (decide (n4<(b.length:Int))) (∃ a b,∃ c:Nat,(y0.cell 1)=D.sl a 2 b c/\(0<=n4
 /\ n4<(b.length:Int))/\kA 2 55 [.dg 2 (List.getD b n4.toNat default)] N (λx a=>(J=r3.length/\O=q3)/\zC r3 [x] 32/\∀(b :
 Nat),xh Q N0 (IntKind.i64.wrap (n4+1)) y0 U Y aa ab I (r3++[x]).length b (r3++[x]) b a)) (w3 (J=r3.length/\O =
 q3) (∀ a b,N<=b->Fresh N0 b a [D.ag r3]->uP b (Q (D.ag [D.j I,D.sl a 2 r3 q3]))))):xh Q N0 n4 y0 U Y aa ab I J O r3 q3 N:=
  hE qA h
end Go.Proofs.YtligajflgjpdnaaGreatDoor
set_option maxRecDepth 100000
namespace Go.Proofs.YtligajflgjpdnaaGreatDoor
open Go Go.Proofs Go.Proofs.Tryz
def tQ:Hint:=⟨[hc 2 [0,1,7,8]],[],[]⟩
def CT:Hint:=⟨[hc 2 [0,6,7]],[],[]⟩
def rF:Hint:=⟨[hc 3 [3,7,8,9]],[],[(5,hs 5 [ec 2 [14]])]⟩
def sg:Hint:=⟨[hc 3 [3,7,8,9]],[],[(5,hs 5 [ec 2 [14]])]⟩
def AL:Hint:=⟨[],[],[(1,[en 0,en 1,eh 2,en 3,en 4,en 5,en 6,en 7,en 8,en 9,en 10,en 11,en 12,en 13,en 14,en 15])]⟩
def C7:Hint:=⟨[],[],[(1,hs 5 [ec 2 [4]])]⟩
def vW:Hint:=⟨[hc 2 [0,1,7,8]],[],[(4,hs 6 [ec 5 [15]])]⟩
def Ew:Hint:=⟨[],[],[(1,hs 11 [ec 2 [6]])]⟩
def Bt:Hint:=⟨[],[],[(1,hs 13 [ec 1 [3],ec 5 [7],ec 10 [12]])]⟩
def HO:Hint:=⟨[],[],[(12,hs 9 [ec 6 [34]]),(14,hs 26 [ec 18 [56],ec 23 [61]])]⟩
def vb:Hint:=⟨[hc 4 [1,2,15,16,17]],[],[(7,hs 5 [ec 3 [27,28]])]⟩
def KG:Hint:=⟨[],[],[(1,[en 0,en 1,en 2,en 3,ec 4 [7],en 5]),(14,[en 0,en 1,en 2,en 3,en 4,eh 5,en 6,eh 7]),(16,[en 0,en 1,en 2,en 3,en 4,en 5,en 6,en 7,en 8,eh 9,en 10,eh 11,en 12,eh 13,en 14,eh 15]),(17,hs 38 [ec 1 [54],ec 28 [79,81],ec 35 [86,88]])]⟩
def DK:Hint:=⟨[],[],[(1,hs 5 [ec 2 [4]])]⟩
def vC:Hint:=⟨[hc 2 [0,1,7,8]],[],[(4,hs 6 [ec 5 [15]])]⟩
def E9:Hint:=⟨[],[],[(1,hs 11 [ec 2 [6]])]⟩
def I6:Hint:=⟨[],[],[(1,hs 3 [ec 1 [3]])]⟩
def tP:Hint:=⟨[hc 3 [2,3,10,11,12]],[],[(5,[en 0,en 1,en 2,ec 3 [18],en 4,eh 5,en 6,eh 7])]⟩
def yu (Q:QT [.int .i64])(N0:Nat)(a0:Option Addr)(e0:List D)(I:Nat)(J:ByteArray)(O U:Int)(N:Nat):Prop:=AT prog 135 [.int .i64] Q N0 .ord (zG prog 135 2) ⟨.sv a0 0 e0 I::.str J::an 5 (.int .i64 O::.int .i64 U::an 10 []),[],N,none⟩
def xI (Q:QT [.bool])(N0:Nat)(I:ByteArray)(J O:Int)(N:Nat):Prop:=AT prog 151 [.bool] Q N0 .ord (zG prog 151 2) ⟨.str I::an 5 (.int .i64 J::.int .i64 O::an 40 []),[],N,none⟩
def xK (Q:QT [.int .i64])(N0:Nat)(I:Int)(J:Option Addr)(O:List D)(U:Nat)(Y n9:Int)(N:Nat):Prop:=AT prog 124 [.int .i64] Q N0 .ord (zG prog 124 3) ⟨an 3 (.int .i64 I::an 3 (.sv J 2 O U::.int .i64 Y::.int .i64 n9::an 9 [])),[],N,none⟩
def xA (Q:QT [.int .i64])(N0:Nat)(I:Int)(J:Option Addr)(O:List D)(U:Nat)(Y n9:Int)(N:Nat):Prop:=AT prog 125 [.int .i64] Q N0 .ord (zG prog 125 3) ⟨an 3 (.int .i64 I::an 3 (.sv J 2 O U::.int .i64 Y::.int .i64 n9::an 10 [])),[],N,none⟩
def v6 (Q:QT [.ag 2])(N0:Nat)(ae:Option Addr)(ah:List D)(ai:Nat)(aj ak I:Int)(J:Option Addr)(O:List D)(U:Nat)(Y:Int)(aa:Option Addr)(ab:List D)(ac:Nat)(N:Nat):Prop:=AT prog 129 [.ag 2] Q N0 .ord (zG prog 129 3) ⟨an 2 (.pb 0 0 0 0::.pb 1 0 0 0::an 6 (.sv ae 2 ah ai::.int .i64 aj::.int .i64 ak::an 12 [])),[.var [.int .i64 I,.sv J 2 O U],.var [.int .i64 Y,.sv aa 2 ab ac]],N,none⟩
def ze (Q:QT [.bool])(N0:Nat)(a1:Option Addr)(e1:List D)(c1:Nat)(I:Option Addr)(J:List D)(O:Nat)(U Y:Int)(N:Nat):Prop:=AT prog 153 [.bool] Q N0 .ord (zG prog 153 4) ⟨an 1 (.sv a1 2 e1 c1::.fn 122 []::an 12 (.sv I 2 J O::.int .i64 U::.int .i64 Y::an 14 [])),[],N,none⟩
def yy (Q:QT [.ag 2])(N0:Nat)(ac:Option Addr)(ae:List D)(ah:Nat)(ai aj I:Int)(J:Option Addr)(O:List D)(U:Nat)(Y:Int)(aa ab:Nat)(r2:List D)(q2:Nat)(N:Nat):Prop:=AT prog 129 [.ag 2] Q N0 .ord (zG prog 129 3) ⟨an 2 (.pb 0 0 0 0::.pb 1 0 0 0::an 6 (.sv ac 2 ae ah::.int .i64 ai::.int .i64 aj::an 12 [])),[.var [.int .i64 I,.sv J 2 O U],.var [.int .i64 Y,.sb 2 2 0 aa ab],.arr 26 2 r2 q2],N,none⟩
def yG (Q:QT [.int .i64])(N0:Nat)(a0:Option Addr)(e0:List D)(J:Nat)(I:Addr)(O U:Int)(N:Nat):Prop:=AT prog 154 [.int .i64] Q N0 .ord (zG prog 154 2) ⟨.sv a0 2 e0 J::.fn 128 [.pd I 0 (.fn 126 [])]::an 5 (.int .i64 O::.int .i64 U::an 10 []),[],N,none⟩
def yH (Q:QT [.int .i64])(N0:Nat)(a0:Option Addr)(e0:List D)(J:Nat)(I:Addr)(O U:Int)(N:Nat):Prop:=AT prog 123 [.int .i64] Q N0 .ord (zG prog 123 2) ⟨.sv a0 9 e0 J::.fn 85 [.pd I 0 (.fn 83 [])]::an 5 (.int .i64 O::.int .i64 U::an 10 []),[],N,none⟩
theorem J9 (N:Nat) (n0 I J:Int) (Q:QT [.bool]) (h :
Br (decide (I<=n0)) (uP N (Q (decide (n0<=J)))) (uP N (Q false))):ACalls prog 86 [.bool] [PV.int .i64 n0,PV.int .i64 I,PV.int .i64 J] N Q:=
 eE H0 h
theorem Aw (N:Nat) (a0:Option Addr) (e0:List D) (I:Nat) (J:ByteArray) (Q:QT [.int .i64]) (h :
Bel N (D.sl a0 0 e0 I)->yu Q N a0 e0 I J (e0.length:Int) 0 N):ACalls prog 135 [.int .i64] [PV.sv a0 0 e0 I,PV.str J] N Q:=
 eE tQ h
theorem qa (N:Nat) (a0:Option Addr) (e0:List D) (I:Nat) (J:ByteArray) (Q:QT [.bool]) (h :
Bel N (D.sl a0 0 e0 I)->kI 135 [.sv a0 0 e0 I,.str J] N (λn a=>uP a (Q (decide (n≥0))))):ACalls prog 93 [.bool] [PV.sv a0 0 e0 I,PV.str J] N Q:=
 eE H0 h
theorem Jj (N:Nat) (I:ByteArray) (Q:QT [.bool]) (h :
xI Q N I (I.size:Int) 0 N):ACalls prog 151 [.bool] [PV.str I] N Q:=
 eE CT h
theorem DW (N:Nat) (I:D) (Q:QT [.int .i64]) (h :
Bel N I->∃ a b,∃ c:Nat,(I.cell 1)=D.sl a 2 b c/\xK Q N 1 a b c (b.length:Int) 0 N):ACalls prog 124 [.int .i64] [PV.dg 2 I] N Q:=
 eE rF h
theorem CR (N:Nat) (I:D) (Q:QT [.int .i64]) (h :
Bel N I->∃ a b,∃ c:Nat,(I.cell 1)=D.sl a 2 b c/\xA Q N 0 a b c (b.length:Int) 0 N):ACalls prog 125 [.int .i64] [PV.dg 2 I] N Q:=
 eE sg h
theorem AJ (N:Nat) (I:D) (Q:QT [.bool]) (h :
Bel N I->∃ n:Int,(I.cell 0)=D.j n/\kB 86 [.j n,.j 1,.j 4] N (λb d=>Br b (∃ a b,∃ c:Nat,(I.cell 1)=D.sl a 2 b c/\∃ a:Int,
 (I.cell 0)=D.j a/\(0<=IntKind.i64.wrap (a - 1)/\IntKind.i64.wrap (a - 1)<4/\(0+(IntKind.i64.wrap (a - 1)).toNat:Nat)<4)/\(0 +
 (IntKind.i64.wrap (a - 1)).toNat:Nat)<4/\∃ c:Int,List.getD [D.j 0,D.j 0,D.j 2,D.j 1] (0+(IntKind.i64.wrap (a - 1)).toNat:Nat) default=D.j
 c/\uP d (Q ((b.length:Int)==c))) (uP d (Q false)))):ACalls prog 126 [.bool] [PV.dg 2 I] N Q:=
  eE AL h
theorem Bu (N:Nat) (I:D) (Q:QT [.bool]) (h :
Bel N I->kI 124 [.dg 2 I] N (λn a=>Br (decide (n<=30)) (kI 125 [.dg 2 I] a (λa c=>Br (decide (a<=8)) (kB 88 [.dg 2 I,.fn 126 []]
 c (λb a=>uP a (Q b))) (uP c (Q false)))) (uP a (Q false)))):ACalls prog 87 [.bool] [PV.dg 2 I] N Q:=
  eE Bt h
theorem HE (N:Nat) (I:ByteArray) (Q:QT [.int .i64]) (h :
Br (ByteArray.toList I==ByteArray.toList (bytes [43])) (uP N (Q 2)) (Br (ByteArray.toList I==ByteArray.toList (bytes [45])) (uP N (Q 2)) (Br
 (ByteArray.toList I==ByteArray.toList (bytes [42])) (uP N (Q 2)) (Br (ByteArray.toList I==ByteArray.toList (bytes [61])) (uP N (Q 2)) (Br
 (ByteArray.toList I==ByteArray.toList (bytes [60])) (uP N (Q 2)) (Br (ByteArray.toList I==ByteArray.toList (bytes [38])) (uP N (Q 2)) (Br
 (ByteArray.toList I==ByteArray.toList (bytes [124])) (uP N (Q 2)) (Br (ByteArray.toList I==ByteArray.toList (bytes [33])) (uP N (Q 1)) (uP N (Q
 0)))))))))):ACalls prog 150 [.int .i64] [PV.str I] N Q:=
  eE H0 h
theorem LR (N:Nat) (I:D) (Q:QT [.int .i64]) (h :
Bel N I->∃ n:Int,(I.cell 0)=D.j n/\Br (n==4) (∃ s,(I.cell 1)=D.t s/\kI 150 [.str s] N (λa b=>uP b (Q a))) (Br (n==5) (uP N (Q
 3)) (Br (n==7) (uP N (Q 2)) (Br (n==8) (uP N (Q 2)) (Br (n==6) (uP N (Q 1)) (Br (n==9) (uP N (Q 1)) (Br (n==10) (uP N (Q 1)) (Br (n==11) (uP N (Q
 1)) (Br (n==12) (uP N (Q 1)) (Br (n==13) (uP N (Q 1)) (uP N (Q 0)))))))))))):ACalls prog 120 [.int .i64] [PV.dg 9 I] N Q:=
  eE H0 h
theorem FQ (N:Nat) (n0:Int) (Q:QT [.bool]) (h :
kB 86 [.j n0,.j 0,.j 10006] N (λb a=>uP a (Q b))):ACalls prog 152 [.bool] [PV.int .i64 n0] N Q:=
 eE H0 h
theorem HR (N:Nat) (I:D) (Q:QT [.bool]) (h :
Bel N I->∃ n:Int,(I.cell 0)=D.j n/\Br (n==1) (∃ s,(I.cell 1)=D.t s/\kB 151 [.str s] N (λb a=>uP a (Q b))) (Br (n==8) (∃ a,
 (I.cell 1)=D.t a/\kB 151 [.str a] N (λa b=>uP b (Q a))) (Br (n==2) (∃ a:Int,(I.cell 3)=D.j a/\kB 152 [.j a] N (λa b=>
 uP b (Q a))) (Br (n==3) (∃ a:Int,(I.cell 3)=D.j a/\kB 86 [.j a,.j 0,.j 1] N (λa b=>uP b (Q a))) (Br (n==4) (∃ a,(I.cell
 1)=D.t a/\kI 150 [.str a] N (λa b=>uP b (Q (decide (a>0))))) (Br (n==6) (∃ a,(I.cell 1)=D.t a/\kB 151 [.str a] N (λa b
 => Br a (kB 87 [.dg 2 (D.sub I 4 2)] b (λa b=>uP b (Q a))) (uP b (Q false)))) (Br (n==9) (∃ a,(I.cell 1)=D.t a/\kB 151 [.str a]
 N (λa b=>Br a (∃ a,(I.cell 2)=D.t a/\kB 151 [.str a] b (λa b=>Br a (∃ a,(I.cell 1)=D.t a/\∃ c,(I.cell 2)=D.t
 c/\Br (!(ByteArray.toList a==ByteArray.toList c)) (kB 87 [.dg 2 (D.sub I 4 2)] b (λa b=>Br a (kB 87 [.dg 2 (D.sub I 6 2)] b (λa
 b=>uP b (Q a))) (uP b (Q false)))) (uP b (Q false))) (uP b (Q false)))) (uP b (Q false)))) (∃ a:Int,(I.cell 0)=D.j a/\kB 86 [.j a,
 .j 1,.j 13] N (λa b=>uP b (Q a)))))))))):ACalls prog 121 [.bool] [PV.dg 9 I] N Q:=
  eE HO h
theorem EK (N:Nat) (I J:D) (Q:QT [.bool]) (h :
Bel N I->Bel N J->∃ n:Int,(I.cell 0)=D.j n/\∃ d:Int,(J.cell 0)=D.j d/\Br (n==d) (∃ a d,∃ c:Nat,(I.cell 1)=D.sl a 2 d c /\
 ∃ e f,∃ g:Nat,(J.cell 1)=D.sl e 2 f g/\kB 153 [.sv a 2 d c,.sv e 2 f g,.fn 122 []] N (λb a=>uP a (Q b))) (uP N (Q
 false))):ACalls prog 122 [.bool] [PV.dg 2 I,PV.dg 2 J] N Q:=
  eE H0 h
theorem Jh (N:Nat) (I:D) (Q:QT [.bool]) (h :
Bel N I->∃ a d,∃ c:Nat,(I.cell 8)=D.sl a 9 d c/\kI 120 [.dg 9 I] N (λn a=>Br (bne (d.length:Int) n) (uP a (Q false)) (∃ c:Int,
 (I.cell 0)=D.j c/\∃ c:Int,(I.cell 0)=D.j c/\Br (c==1) (∃ s,(I.cell 1)=D.t s/\kB 121 [.dg 9 I] a (λb a=>Br b (∃ b,(I.cell
 1)=D.t b/\Br (ByteArray.toList b==ByteArray.toList s) (∃ b,(I.cell 2)=D.t b/\Br (ByteArray.toList b==ByteArray.toList b0) (∃ b:Int,
 (I.cell 3)=D.j b/\Br (b==0) (kB 122 [.dg 2 (D.sub I 4 2),.dg 2 (D.ag [D.j 0,D.sl none 2 [] 0])] a (λa b=>Br a (kB 122 [.dg 2 (D.sub I 6
 2),.dg 2 (D.ag [D.j 0,D.sl none 2 [] 0])] b (λa b=>uP b (Q a))) (uP b (Q false)))) (uP a (Q false))) (uP a (Q false))) (uP a (Q false))) (uP
 a (Q false)))) (Br (c==8) (∃ b,(I.cell 1)=D.t b/\kB 121 [.dg 9 I] a (λa c=>Br a (∃ a,(I.cell 1)=D.t a/\Br (ByteArray.toList
 a==ByteArray.toList b) (∃ a,(I.cell 2)=D.t a/\Br (ByteArray.toList a==ByteArray.toList b0) (∃ a:Int,(I.cell 3)=D.j a/\Br (a ==
 0) (kB 122 [.dg 2 (D.sub I 4 2),.dg 2 (D.ag [D.j 0,D.sl none 2 [] 0])] c (λa b=>Br a (kB 122 [.dg 2 (D.sub I 6 2),.dg 2 (D.ag [D.j 0,D.sl
 none 2 [] 0])] b (λa b=>uP b (Q a))) (uP b (Q false)))) (uP c (Q false))) (uP c (Q false))) (uP c (Q false))) (uP c (Q false)))) (Br
 (c==2) (∃ b:Int,(I.cell 3)=D.j b/\kB 121 [.dg 9 I] a (λa c=>Br a (∃ a,(I.cell 1)=D.t a/\Br (ByteArray.toList a ==
 ByteArray.toList b0) (∃ a,(I.cell 2)=D.t a/\Br (ByteArray.toList a==ByteArray.toList b0) (∃ a:Int,(I.cell 3)=D.j a/\Br (a==b) (kB
 122 [.dg 2 (D.sub I 4 2),.dg 2 (D.ag [D.j 0,D.sl none 2 [] 0])] c (λa b=>Br a (kB 122 [.dg 2 (D.sub I 6 2),.dg 2 (D.ag [D.j 0,D.sl none 2 []
 0])] b (λa b=>uP b (Q a))) (uP b (Q false)))) (uP c (Q false))) (uP c (Q false))) (uP c (Q false))) (uP c (Q false)))) (Br (c==3)
 (∃ b:Int,(I.cell 3)=D.j b/\kB 121 [.dg 9 I] a (λa c=>Br a (∃ a,(I.cell 1)=D.t a/\Br (ByteArray.toList a==ByteArray.toList
 b0) (∃ a,(I.cell 2)=D.t a/\Br (ByteArray.toList a==ByteArray.toList b0) (∃ a:Int,(I.cell 3)=D.j a/\Br (a==b) (kB 122 [.dg 2 (D.sub
 I 4 2),.dg 2 (D.ag [D.j 0,D.sl none 2 [] 0])] c (λa b=>Br a (kB 122 [.dg 2 (D.sub I 6 2),.dg 2 (D.ag [D.j 0,D.sl none 2 [] 0])] b (fun
 a b=>uP b (Q a))) (uP b (Q false)))) (uP c (Q false))) (uP c (Q false))) (uP c (Q false))) (uP c (Q false)))) (Br (c==4) (∃ b,
 (I.cell 1)=D.t b/\kB 121 [.dg 9 I] a (λa c=>Br a (∃ a,(I.cell 1)=D.t a/\Br (ByteArray.toList a==ByteArray.toList b) (∃
 a,(I.cell 2)=D.t a/\Br (ByteArray.toList a==ByteArray.toList b0) (∃ a:Int,(I.cell 3)=D.j a/\Br (a==0) (kB 122 [.dg 2 (D.sub I 4
 2),.dg 2 (D.ag [D.j 0,D.sl none 2 [] 0])] c (λa b=>Br a (kB 122 [.dg 2 (D.sub I 6 2),.dg 2 (D.ag [D.j 0,D.sl none 2 [] 0])] b (λa
 b=>uP b (Q a))) (uP b (Q false)))) (uP c (Q false))) (uP c (Q false))) (uP c (Q false))) (uP c (Q false)))) (Br (c==6) (∃ b,(I.cell
 1)=D.t b/\kB 121 [.dg 9 I] a (λa c=>Br a (∃ a,(I.cell 1)=D.t a/\Br (ByteArray.toList a==ByteArray.toList b) (∃ a,
 (I.cell 2)=D.t a/\Br (ByteArray.toList a==ByteArray.toList b0) (∃ a:Int,(I.cell 3)=D.j a/\Br (a==0) (kB 122 [.dg 2 (D.sub I 4 2),
 .dg 2 (D.ag [D.cell (D.sub I 4 2) 0,D.cell (D.sub I 4 2) 1])] c (λa b=>Br a (kB 122 [.dg 2 (D.sub I 6 2),.dg 2 (D.ag [D.j 0,D.sl none 2 []
 0])] b (λa b=>uP b (Q a))) (uP b (Q false)))) (uP c (Q false))) (uP c (Q false))) (uP c (Q false))) (uP c (Q false)))) (Br (c==9)
 (∃ b,(I.cell 1)=D.t b/\∃ c,(I.cell 2)=D.t c/\kB 121 [.dg 9 I] a (λa d=>Br a (∃ a,(I.cell 1)=D.t a/\Br
 (ByteArray.toList a==ByteArray.toList b) (∃ a,(I.cell 2)=D.t a/\Br (ByteArray.toList a==ByteArray.toList c) (∃ a:Int,(I.cell
 3)=D.j a/\Br (a==0) (kB 122 [.dg 2 (D.sub I 4 2),.dg 2 (D.ag [D.cell (D.sub I 4 2) 0,D.cell (D.sub I 4 2) 1])] d (λa b=>Br a (kB
 122 [.dg 2 (D.sub I 6 2),.dg 2 (D.ag [D.cell (D.sub I 6 2) 0,D.cell (D.sub I 6 2) 1])] b (λa b=>uP b (Q a))) (uP b (Q false)))) (uP d
 (Q false))) (uP d (Q false))) (uP d (Q false))) (uP d (Q false)))) (kB 121 [.dg 9 I] a (λa b=>Br a (∃ a,(I.cell 1)=D.t a/\Br
 (ByteArray.toList a==ByteArray.toList b0) (∃ a,(I.cell 2)=D.t a/\Br (ByteArray.toList a==ByteArray.toList b0) (∃ a:Int,(I.cell 3) =
 D.j a/\Br (a==0) (kB 122 [.dg 2 (D.sub I 4 2),.dg 2 (D.ag [D.j 0,D.sl none 2 [] 0])] b (λa b=>Br a (kB 122 [.dg 2 (D.sub I 6 2),.dg
 2 (D.ag [D.j 0,D.sl none 2 [] 0])] b (λa b=>uP b (Q a))) (uP b (Q false)))) (uP b (Q false))) (uP b (Q false))) (uP b (Q false))) (uP
 b (Q false))))))))))))):ACalls prog 83 [.bool] [PV.dg 9 I] N Q:=
  eE KG h
theorem Jz (N:Nat) (I:D) (Q:QT [.bool]) (h :
Bel N I->kB 47 [.dg 9 I,.fn 83 []] N (λb a=>uP a (Q b))):ACalls prog 46 [.bool] [PV.dg 9 I] N Q:=
 eE I6 h
theorem GF (N:Nat) (I:D) (Q:QT [.ag 2]) (h :
Bel N I->∃ n:Int,(I.cell 0)=D.j n/\∃ a b,∃ c:Nat,(I.cell 1)=D.sl a 2 b c/\v6 Q N a b c (b.length:Int) 0 0 none [] 0 n
 none [] 0 N):ACalls prog 129 [.ag 2] [PV.dg 2 I] N Q:=
  eE tP h
theorem uY {Q:QT [.int .i64]} {N0:Nat} {a0:Option Addr} {e0:List D} {U:Nat} {J:ByteArray} {O I:Int} {N:Nat} (h :
Br (decide (I<O)) ((0<=I/\I<(e0.length:Int))/\∃ s,List.getD e0 I.toNat default=D.t s/\Br (ByteArray.toList J==ByteArray.toList s) (uP
 N (Q I)) (yu Q N0 a0 e0 U J O (IntKind.i64.wrap (I+1)) N)) (uP N (Q (-1)))):yu Q N0 a0 e0 U J O I N:=
  hE tQ h
theorem pC {Q:QT [.bool]} {N0:Nat} {J:ByteArray} {O I:Int} {N:Nat} (h :
Br (decide (I<O)) ((0<=I/\I<(J.size:Int))/\Br (decide ((UInt8.toNat (Array.getD (ByteArray.data J) I.toNat (OfNat.ofNat 0)):Int)≥97))
 ((0<=I/\I<(J.size:Int))/\Br (!(decide ((UInt8.toNat (Array.getD (ByteArray.data J) I.toNat (OfNat.ofNat 0)):Int)<=122))) (Br (I==0) (uP N (Q
 false)) ((0<=I/\I<(J.size:Int))/\Br (decide ((UInt8.toNat (Array.getD (ByteArray.data J) I.toNat (OfNat.ofNat 0)):Int)<48)) (uP N (Q false)) ((0
 <= I/\I<(J.size:Int))/\Br (decide ((UInt8.toNat (Array.getD (ByteArray.data J) I.toNat (OfNat.ofNat 0)):Int)>57)) (uP N (Q false))
 (xI Q N0 J O (IntKind.i64.wrap (I+1)) N)))) (xI Q N0 J O (IntKind.i64.wrap (I+1)) N)) (Br (I==0) (uP N (Q false)) ((0 <=
 I/\I<(J.size:Int))/\Br (decide ((UInt8.toNat (Array.getD (ByteArray.data J) I.toNat (OfNat.ofNat 0)):Int)<48)) (uP N (Q false)) ((0<=I/\I <
 (J.size:Int))/\Br (decide ((UInt8.toNat (Array.getD (ByteArray.data J) I.toNat (OfNat.ofNat 0)):Int)>57)) (uP N (Q false)) (xI Q N0 J O
 (IntKind.i64.wrap (I+1)) N))))) (kB 86 [.j (J.size:Int),.j 1,.j 4] N (λb c=>Br b ((5=5/\5=5)/\∀ a,ApA a [D.t (bytes [105,102]),D.t (bytes
 [108,101,116]),D.t (bytes [108,105,102,116]),D.t (bytes [114,101,99]),D.t (bytes [114,117,110])]->∀ b,c<=b->w8 b [a]->ACalls prog 93
 [.bool] [.sv a 0 [D.t (bytes [105,102]),D.t (bytes [108,101,116]),D.t (bytes [108,105,102,116]),D.t (bytes [114,101,99]),D.t (bytes [114,117,
 110])] 5,.str J] b (λa c=>b<=c->uP c (Q (!a)))) (uP c (Q false))))):xI Q N0 J O I N:=
  hE CT h
theorem tW {Q:QT [.int .i64]} {N0:Nat} {n3:Int} {a7:Option Addr} {e7:List D} {c7:Nat} {n8 n9:Int} {N:Nat} (h :
Br (decide (n9<n8)) ((0<=n9/\n9<(e7.length:Int))/\kI 124 [.dg 2 (List.getD e7 n9.toNat default)] N (fun n a=>xK Q N0
 (IntKind.i64.wrap (n3+n)) a7 e7 c7 n8 (IntKind.i64.wrap (n9+1)) a)) (uP N (Q n3))):xK Q N0 n3 a7 e7 c7 n8 n9 N:=
  hE rF h
theorem u3 {Q:QT [.int .i64]} {N0:Nat} {J:Int} {Y:Option Addr} {O:List D} {c7:Nat} {U I:Int} {N:Nat} (h :
Br (decide (I<U)) ((0<=I/\I<(O.length:Int))/\kI 125 [.dg 2 (List.getD O I.toNat default)] N (λn a=>xA Q N0 (if n >
 J then n else J) Y O c7 U (IntKind.i64.wrap (I+1)) a)) (uP N (Q (IntKind.i64.wrap (J+1)))) ):xA Q N0 J Y O c7 U I N:=
  hE sg h
theorem Bh (N:Nat) (x0:D) (Q:QT [.bool]) (h :
Bel N x0->kB 126 [.dg 2 x0] N (fun b d=>Br b (∃ a b,∃ c:Nat,(x0.cell 1)=D.sl a 2 b c/\∀ e,ApA (Option.some e) [D.fn (OfNat.ofNat 126) []] ->
 Off [Option.some e] (D.sl a 2 b c)->∀ f,d<=f->w8 f [Option.some e]->ACalls prog 127 [.bool] [.sv a 2 b c,.fn 128 [.pd e 0 (.fn 126 [])]] f
 (fun a b=>f<=b->uP b (Q (!a)))) (uP d (Q false)))):ACalls prog 88 [.bool] [.dg 2 x0,.fn 126 []] N Q:=
  eE Ew h
theorem sD (N:Nat) (a0:Option Addr) (e0:List D) (I:Nat) (a1:Option Addr) (e1:List D) (c1:Nat) (Q:QT [.bool]) (h :
Bel N (D.sl a0 2 e0 I)->Bel N (D.sl a1 2 e1 c1)->Br (bne (e0.length:Int) (e1.length:Int)) (uP N (Q false)) (ze Q N a1 e1 c1
 a0 e0 I (e0.length:Int) 0 N)):ACalls prog 153 [.bool] [.sv a0 2 e0 I,.sv a1 2 e1 c1,.fn 122 []] N Q:=
  eE vb h
theorem Bd (N:Nat) (I:D) (Q:QT [.bool]) (h :
Bel N I->kB 83 [.dg 9 I] N (λb d=>Br b (∃ a b,∃ c:Nat,(I.cell 8)=D.sl a 9 b c/\∀ e,ApA (Option.some e) [D.fn (OfNat.ofNat 83) []] ->
 Off [Option.some e] (D.sl a 9 b c)->∀ f,d<=f->w8 f [Option.some e]->ACalls prog 84 [.bool] [.sv a 9 b c,.fn 85 [.pd e 0 (.fn 83 [])]] f (fun
 a b=>f<=b->uP b (Q (!a)))) (uP d (Q false)))):ACalls prog 47 [.bool] [.dg 9 I,.fn 83 []] N Q:=
  eE E9 h
theorem rS {Q:QT [.ag 2]} {N0:Nat} {aj:Option Addr} {aa:List D} {ak:Nat} {ai J ab:Int} {ac:Option Addr} {ae:List D} {ah:Nat} {O:Int} {U:Option Addr} {I:List D} {Y:Nat} {N:Nat} (h :
Br (decide (J<ai)) ((0<=J/\J<(aa.length:Int))/\kA 2 129 [.dg 2 (List.getD aa J.toNat default)] N (λx a=>Vw U I Y [x] /\
 zC I [x] 32/\∀(c:Nat),yy Q N0 aj aa ak ai (IntKind.i64.wrap (J+1)) ab ac ae ah O (I++[x]).length c (I
 ++ [x]) c a)) (uP N (Q (D.ag [D.j O,D.sl U 2 I Y])))):v6 Q N0 aj aa ak ai J ab ac ae ah O U I Y N:=
  hE tP h
theorem uq (N:Nat) (a0:Option Addr) (e0:List D) (J:Nat) (I:Addr) (Q:QT [.bool]) (h :
Bel N (D.sl a0 2 e0 J)->kI 154 [.sv a0 2 e0 J,.fn 128 [.pd I 0 (.fn 126 [])]] N (λn a=>uP a (Q (decide (n≥0))))):ACalls prog 127 [.bool] [.sv a0 2 e0 J,.fn 128 [.pd I 0 (.fn 126 [])]] N Q:=
 eE H0 h
theorem wP {Q:QT [.bool]} {N0:Nat} {a1:Option Addr} {e1:List D} {c1:Nat} {U:Option Addr} {J:List D} {Y:Nat} {O I:Int} {N:Nat} (h :
Br (decide (I<O)) ((0<=I/\I<(J.length:Int))/\(0<=I/\I<(e1.length:Int))/\kB 122 [.dg 2 (List.getD J I.toNat default),.dg
 2 (List.getD e1 I.toNat default)] N (λb a=>Br (!b) (uP a (Q false)) (ze Q N0 a1 e1 c1 U J Y O (IntKind.i64.wrap (I +
 1)) a))) (uP N (Q true))):ze Q N0 a1 e1 c1 U J Y O I N:=
  hE vb h
theorem uk (N:Nat) (a0:Option Addr) (e0:List D) (J:Nat) (I:Addr) (Q:QT [.bool]) (h :
Bel N (D.sl a0 9 e0 J)->kI 123 [.sv a0 9 e0 J,.fn 85 [.pd I 0 (.fn 83 [])]] N (λn a=>uP a (Q (decide (n≥0))))):ACalls prog 84 [.bool] [.sv a0 9 e0 J,.fn 85 [.pd I 0 (.fn 83 [])]] N Q:=
 eE H0 h
theorem u5 {Q:QT [.ag 2]} {N0:Nat} {a10:Option Addr} {e10:List D} {c10:Nat} {n11 n12 n0_0:Int} {a0_1:Option Addr} {e0_1:List D} {c0_1:Nat} {n1_0:Int} {m1_1 c1_1:Nat} {r2:List D} {q2:Nat} {N:Nat} (h :
Br (decide (n12<n11)) ((0<=n12/\n12<(e10.length:Int))/\kA 2 129 [.dg 2 (List.getD e10 n12.toNat default)] N (fun x a=>(m1_1=r2.length/\c1_1
 = q2)/\zC r2 [x] 32/\∀(c:Nat),yy Q N0 a10 e10 c10 n11 (IntKind.i64.wrap (n12+1)) n0_0 a0_1 e0_1 c0_1 n1_0 (r2++[x]).length c
 (r2++[x]) c a)) (w3 (m1_1=r2.length/\c1_1=q2) (∀ a b,N<=b->Fresh N0 b a [D.ag r2]->uP b (Q (D.ag [D.j n1_0,D.sl a 2 r2 q2]))))):yy Q N0 a10 e10 c10 n11 n12 n0_0 a0_1 e0_1 c0_1 n1_0 m1_1 c1_1 r2 q2 N:=
  hE tP h
theorem sH (N:Nat) (a0:Option Addr) (e0:List D) (J:Nat) (I:Addr) (Q:QT [.int .i64]) (h :
Bel N (D.sl a0 2 e0 J)->yG Q N a0 e0 J I (e0.length:Int) 0 N):ACalls prog 154 [.int .i64] [.sv a0 2 e0 J,.fn 128 [.pd I 0 (.fn 126 [])]] N Q:=
 eE vW h
theorem sI (N:Nat) (a0:Option Addr) (e0:List D) (J:Nat) (I:Addr) (Q:QT [.int .i64]) (h :
Bel N (D.sl a0 9 e0 J)->yH Q N a0 e0 J I (e0.length:Int) 0 N):ACalls prog 123 [.int .i64] [.sv a0 9 e0 J,.fn 85 [.pd I 0 (.fn 83 [])]] N Q:=
 eE vC h
theorem wT {Q:QT [.int .i64]} {N0:Nat} {a0:Option Addr} {e0:List D} {U:Nat} {I:Addr} {O J:Int} {N:Nat} (h :
Br (decide (J<O)) ((0<=J/\J<(e0.length:Int))/\kB 128 [.dg 2 (List.getD e0 J.toNat default),.pd I 0 (.fn 126 [])] N (λb a=>Br b (uP
 a (Q J)) (yG Q N0 a0 e0 U I O (IntKind.i64.wrap (J+1)) a))) (uP N (Q (-1)))):yG Q N0 a0 e0 U I O J N:=
  hE vW h
theorem wQ {Q:QT [.int .i64]} {N0:Nat} {a0:Option Addr} {e0:List D} {c0:Nat} {a1_0:Addr} {n7 n8:Int} {N:Nat} (h :
Br (decide (n8<n7)) ((0<=n8/\n8<(e0.length:Int))/\kB 85 [.dg 9 (List.getD e0 n8.toNat default),.pd a1_0 0 (.fn 83 [])] N (fun b a=>Br b (uP a
 (Q n8)) (yH Q N0 a0 e0 c0 a1_0 n7 (IntKind.i64.wrap (n8+1)) a))) (uP N (Q (-1)))):yH Q N0 a0 e0 c0 a1_0 n7 n8 N:=
  hE vC h
theorem AF (N:Nat) (I:D) (a1:Addr) (Q:QT [.bool]) (h :
Bel N I->kB 88 [.dg 2 I,.fn 126 []] N (λb a=>uP a (Q (!b)))):ACalls prog 128 [.bool] [.dg 2 I,.pd a1 0 (.fn 126 [])] N Q:=
 eE C7 h
theorem AI (N:Nat) (I:D) (a1:Addr) (Q:QT [.bool]) (h :
Bel N I->kB 47 [.dg 9 I,.fn 83 []] N (λb a=>uP a (Q (!b)))):ACalls prog 85 [.bool] [.dg 9 I,.pd a1 0 (.fn 83 [])] N Q:=
 eE DK h
end Go.Proofs.YtligajflgjpdnaaGreatDoor
set_option maxRecDepth 100000
namespace Go.Proofs.YtligajflgjpdnaaGreatDoor
open Go Go.Proofs Go.Proofs.Tryz
def AO:Hint:=⟨[hc 2 [0,1,5]],[],[]⟩
def wZ (Q:QT [.int .i64])(N0:Nat)(a0:Option Addr)(e0:List D)(I:Nat)(J:ByteArray)(O:Int)(N:Nat):Prop:=AT prog 99 [.int .i64] Q N0 .ord (zG prog 99 2) ⟨.sv a0 0 e0 I::.str J::an 3 (.int .i64 O::an 13 []),[],N,none⟩
theorem He (N:Nat) (a0:Option Addr) (e0:List D) (I:Nat) (J:ByteArray) (Q:QT [.int .i64]) (h :
Bel N (D.sl a0 0 e0 I)->wZ Q N a0 e0 I J 0 N):ACalls prog 99 [.int .i64] [PV.sv a0 0 e0 I,PV.str J] N Q:=
 eE AO h
theorem qO {Q:QT [.int .i64]} {N0:Nat} {a0:Option Addr} {e0:List D} {O:Nat} {J:ByteArray} {I:Int} {N:Nat} (h :
Br (decide (I<(e0.length:Int))) ((0<=I/\I<(e0.length:Int))/\∃ s,List.getD e0 I.toNat default=D.t s/\Br (ByteArray.toList s ==
 ByteArray.toList J) (uP N (Q I)) (wZ Q N0 a0 e0 O J (IntKind.i64.wrap (I+1)) N)) (uP N (Q (-1)))):wZ Q N0 a0 e0 O J I N:=
  hE AO h
end Go.Proofs.YtligajflgjpdnaaGreatDoor
set_option maxRecDepth 100000
namespace Go.Proofs.YtligajflgjpdnaaGreatDoor
open Go Go.Proofs Go.Proofs.Tryz
def Cd:Hint:=⟨[hc 3 [1,2,3,4] [] [(3,8,29,9)]],[],[(1,[en 0,en 1,en 2,en 3,en 4,en 5,en 6,en 7,en 8,en 9,en 11,en 12,en 15,{ i:=10,hard:=true,cl:=[14],fs:=[3,14] },{ i:=13,hard:=true,cl:=[17],fs:=[3,17] },en 14,eh 16]),(5,[en 0,en 1,en 2,en 3,en 4,en 5,en 6,{ i:=7,hard:=true,cl:=[33],fs:=[3,33] },{ i:=8,hard:=true,cl:=[34],fs:=[3,34] },eh 9,en 10,eh 11])]⟩
def Bo:Hint:=⟨[hc 3 [1,4,5,6] [] [(5,8,29,9)]],[],[(5,[en 0,en 1,en 2,en 3,en 4,en 5,{ i:=6,hard:=true,cl:=[20],fs:=[5,20] },{ i:=7,hard:=true,cl:=[21],fs:=[5,21] },eh 8,en 9,eh 10])]⟩
def Ea:Hint:=⟨[],[],[(1,[en 0,en 1,en 2,en 3,en 4,en 5,en 6,en 7,en 8,en 9,en 11,en 12,en 14,ec 10 [14],ec 13 [17],en 15,eh 16])]⟩
def sQ:Hint:=⟨[hc 3 [1,2,4,5,10,11,12] [(5,29,9)]],[],[(5,hs 7 [{ i:=3,hard:=true,cl:=[18],fs:=[5,18] },{ i:=4,hard:=true,cl:=[19],fs:=[5,19] }]),(7,hs 4 [{ i:=2,hard:=true,cl:=[23],fs:=[5,23] }])]⟩
def E3:Hint:=⟨[],[],[(1,hs 3 [ec 1 [3]])]⟩
def xy (Q:QT [.pk,.int .i64,.str,.str,.int .i64,.dc,.dc,.dc,.dc,.row 29 9])(N0:Nat)(n4:Int)(y0:D)(I:Int)(J O:ByteArray)(U Y:Int)(aa:Option Addr)(ab:List D)(ac:Nat)(ae:Int)(ah:Option Addr)(ai:List D)(aj:Nat)(ak:Option Addr)(al:List D)(am:Nat)(ao:Int)(aq au:ByteArray)(aw:Int)(ax ay az a6:D)(a7 a8:Nat)(r3:List D)(q3:Nat)(N:Nat):Prop:=AT prog 27 [.pk,.int .i64,.str,.str,.int .i64,.dc,.dc,.dc,.dc,.row 29 9] Q N0 .ord (zG prog 27 3) ⟨an 1 (.pb 0 0 0 0::.pb 1 0 0 0::.pb 2 0 0 0::.int .i64 n4::an 34 []),[.vd y0 9,.var [.int .i64 I,.str J,.str O,.int .i64 U,.int .i64 Y,.sv aa 2 ab ac,.int .i64 ae,.sv ah 2 ai aj,.sv ak 9 al am],.var [.int .i64 ao,.str aq,.str au,.int .i64 aw,.dc ax,.dc ay,.dc az,.dc a6,.sb 3 9 0 a7 a8],.arr 29 9 r3 q3],N,none⟩
def vN (Q:QT [.ag 9])(N0:Nat)(a1:Option Addr)(e1:List D)(c1:Nat)(n6 I:Int)(J O:ByteArray)(U Y:Int)(aa:Option Addr)(ab:List D)(ac:Nat)(ae:Int)(ah:Option Addr)(ai:List D)(aj:Nat)(ak:Option Addr)(al:List D)(am:Nat)(ao:Int)(aq au:ByteArray)(aw ax:Int)(ay:Option Addr)(az:List D)(a6:Nat)(a7:Int)(a8:Option Addr)(ba:List D)(bc bg bh:Nat)(r2:List D)(q2:Nat)(N:Nat):Prop:=AT prog 82 [.ag 9] Q N0 .ord (zG prog 82 3) ⟨an 1 (.sv a1 9 e1 c1::an 2 (.pb 0 0 0 0::.pb 1 0 0 0::.int .i64 n6::an 19 [])),[.var [.int .i64 I,.str J,.str O,.int .i64 U,.int .i64 Y,.sv aa 2 ab ac,.int .i64 ae,.sv ah 2 ai aj,.sv ak 9 al am],.var [.int .i64 ao,.str aq,.str au,.int .i64 aw,.int .i64 ax,.sv ay 2 az a6,.int .i64 a7,.sv a8 2 ba bc,.sb 2 9 0 bg bh],.arr 29 9 r2 q2],N,none⟩
def yz (Q:QT [.pk,.int .i64,.str,.str,.int .i64,.dc,.dc,.dc,.dc,.row 29 9])(N0:Nat)(m5 c5:Nat)(ao:Option Addr)(aq:List D)(au:Nat)(aw ax:Int)(y0:D)(I:Int)(J O:ByteArray)(U Y:Int)(aa:Option Addr)(ab:List D)(ac:Nat)(ae:Int)(ah:Option Addr)(ai:List D)(aj:Nat)(ak:Option Addr)(al:List D)(am:Nat)(r2:List D)(q2:Nat)(N:Nat):Prop:=AT prog 51 [.pk,.int .i64,.str,.str,.int .i64,.dc,.dc,.dc,.dc,.row 29 9] Q N0 .ord (zG prog 51 3) ⟨an 1 (.fn 24 []::.pb 0 0 0 0::an 1 (.pb 1 0 0 0::.sb 2 9 0 m5 c5::an 4 (.sv ao 9 aq au::.int .i64 aw::.int .i64 ax::an 13 []))),[.vd y0 9,.var [.int .i64 I,.str J,.str O,.int .i64 U,.int .i64 Y,.sv aa 2 ab ac,.int .i64 ae,.sv ah 2 ai aj,.sv ak 9 al am],.arr 29 9 r2 q2],N,none⟩
theorem Bw (N:Nat) (x0:D) (Q:QT [.pk,.int .i64,.str,.str,.int .i64,.dc,.dc,.dc,.dc,.row 29 9]) (h :
Bel N x0->∃ n:Int,(x0.cell 0)=D.j n/\∃ s,(x0.cell 1)=D.t s/\∃ a,(x0.cell 2)=D.t a/\∃ b:Int,(x0.cell 3)=D.j b/\kA 2 55 [.dg 2
 (D.sub x0 4 2)] N (fun x c=>kA 2 55 [.dg 2 (D.sub x0 6 2)] c (fun c d=>xy Q N 0 x0 0 b0 b0 0 0 none [] 0 0 none [] 0 none [] 0 n s a b
 (x.cell 0) (x.cell 1) (c.cell 0) (c.cell 1) 0 0 [] 0 d))):ACalls prog 27 [.pk,.int .i64,.str,.str,.int .i64,.dc,.dc,.dc,.dc,.row 29 9] [PV.dg 9 x0] N Q:=
  eE Cd h
theorem Jw (N:Nat) (n0:Int) (a1:Option Addr) (e1:List D) (c1:Nat) (Q:QT [.ag 9]) (h :
Bel N (D.sl a1 9 e1 c1)->vN Q N a1 e1 c1 0 0 b0 b0 0 0 none [] 0 0 none [] 0 none [] 0 n0 b0 b0 0 0 none [] 0 0 none [] 0 0 0 [] 0 N):ACalls prog 82 [.ag 9] [PV.int .i64 n0,PV.sv a1 9 e1 c1] N Q:=
 eE Bo h
theorem LA (N:Nat) (s0:ByteArray) (x1 x2:D) (Q:QT [.ag 9]) (h :
Bel N x1->Bel N x2->(2=([x1,x2]).length/\2=2)/\∀ a,ApA a [x1,x2]->∀ b,N<=b->w8 b [a]->ACalls prog 82 [.ag 9] [.j 8,.sv a 9 [x1,x2]
 2] b (fun x c=>b<=c->Off [a] x/\(Bel c x->uP c (Q (D.ag [(x.cell 0),D.t s0,(x.cell 2),(x.cell 3),(x.cell 4),(x.cell 5),(x.cell 6),(x.cell 7),
 (x.cell 8)]))))):ACalls prog 116 [.ag 9] [PV.str s0,PV.dg 9 x1,PV.dg 9 x2] N Q:=
  eE H0 h
theorem EY (N:Nat) (I:D) (a1:Option Addr) (e1:List D) (c1:Nat) (Q:QT [.pk,.int .i64,.str,.str,.int .i64,.dc,.dc,.dc,.dc,.bk 1]) (h :
Bel N I->Bel N (D.sl a1 9 e1 c1)->∃ n:Int,(I.cell 0)=D.j n/\∃ s,(I.cell 1)=D.t s/\∃ a,(I.cell 2)=D.t a/\∃ b:Int,(I.cell 3) =
 D.j b/\kA 2 129 [.dg 2 (D.sub I 4 2)] N (λx c=>kA 2 129 [.dg 2 (D.sub I 6 2)] c (λc d=>uP d (Q n s a b (x.cell 0) (x.cell 1) (c.cell
 0) (c.cell 1) (D.sl a1 9 e1 c1))))):ACalls prog 90 [.pk,.int .i64,.str,.str,.int .i64,.dc,.dc,.dc,.dc,.bk 1] [PV.dg 9 I,PV.sv a1 9 e1 c1] N Q:=
  eE Ea h
theorem FS (N:Nat) (I:D) (Q:QT [.pk,.int .i64,.str,.str,.int .i64,.dc,.dc,.dc,.dc,.row 29 9]) (h :
Bel N I->∀ a,N<=a->ACalls prog 51 [.pk,.i,.str,.str,.i,.dc,.dc,.dc,.dc,.row 29 9] [.dg 9 I,.fn 24 []] a (λn s b c x d e f
 g h i=>a<=i->Bel i (D.ag g)->(g.length=g.length/\h=h)/\uP i (Q n s b c x d e f g h))):ACalls prog 24 [.pk,.int .i64,.str,.str,.int .i64,.dc,.dc,.dc,.dc,.row 29 9] [PV.dg 9 I] N Q:=
  eE E3 h
theorem vU {Q:QT [.pk,.int .i64,.str,.str,.int .i64,.dc,.dc,.dc,.dc,.row 29 9]} {N0:Nat} {n4:Int} {y0:D} {ai:Int} {aj ak:ByteArray} {al am:Int} {ao:Option Addr} {aq:List D} {au:Nat} {aw:Int} {ax:Option Addr} {ay:List D} {az:Nat} {a6:Option Addr} {a7:List D} {a8:Nat} {aa:Int} {ab ac:ByteArray} {ae:Int} {I J O U:D} {ah Y:Nat} {r3:List D} {q3:Nat} {N:Nat} (h :
∃ a b,∃ c:Nat,(y0.cell 8)=D.sl a 9 b c/\Br (decide (n4<(b.length:Int))) (∃ a b,∃ c:Nat,(y0.cell 8)=D.sl a 9 b c/\(0<=n4
 /\ n4<(b.length:Int))/\∀ a,N<=a->ACalls prog 27 [.pk,.i,.str,.str,.i,.dc,.dc,.dc,.dc,.row 29 9] [.dg 9 (List.getD b n4.toNat default)]
 a (λn s b c x d e f g h i=>a<=i->Bel i (D.ag g)->(g.length=g.length/\h=h)/\∀ a j,i<=j->Fresh N0 j a
 [D.ag g,x,d,e,f,I,J,O,U,D.ag r3]->(ah=r3.length/\Y=q3)/\zC r3 [D.ag [D.j n,D.t s,D.t b,D.j c,x,d,e,
 f,D.sl a 9 g h]] 136/\∀(i:Nat),xy Q N0 (IntKind.i64.wrap (n4+1)) y0 ai aj ak al am ao aq au aw ax ay az
 a6 a7 a8 aa ab ac ae I J O U (r3++[D.ag [D.j n,D.t s,D.t b,D.j c,x,d,e,f,D.sl a 9 g h]]).length i (r3 ++
 [D.ag [D.j n,D.t s,D.t b,D.j c,x,d,e,f,D.sl a 9 g h]]) i j)) ((ah=r3.length/\Y=q3)/\uP N (Q aa ab ac ae I J
 O U r3 Y))):xy Q N0 n4 y0 ai aj ak al am ao aq au aw ax ay az a6 a7 a8 aa ab ac ae I J O U ah Y r3 q3 N:=
  hE Cd h
theorem qg {Q:QT [.ag 9]} {N0:Nat} {a1:Option Addr} {e1:List D} {c1:Nat} {n6 am:Int} {ao aq:ByteArray} {au aw:Int} {ax:Option Addr} {ay:List D} {az:Nat} {a6:Int} {a7:Option Addr} {a8:List D} {ba:Nat} {bc:Option Addr} {bg:List D} {bh:Nat} {ab:Int} {ac ae:ByteArray} {ah ai:Int} {I:Option Addr} {J:List D} {O:Nat} {aj:Int} {U:Option Addr} {Y:List D} {aa ak al:Nat} {r2:List D} {q2:Nat} {N:Nat} (h :
Br (decide (n6<(e1.length:Int))) ((0<=n6/\n6<(e1.length:Int))/\∀ b,N<=b->ACalls prog 27 [.pk,.i,.str,.str,.i,.dc,.dc,.dc,.dc,.row
 29 9] [.dg 9 (List.getD e1 n6.toNat default)] b (λn s c d x e f g h i j=>b<=j->Bel j (D.ag h)->(h.length=h.length/\i=i)/\∀ a
 b,j<=b->Fresh N0 b a [D.ag h,x,e,f,g,D.sl I 2 J O,D.sl U 2 Y aa,D.ag r2]->(ak=r2.length/\al=q2)/\zC r2
 [D.ag [D.j n,D.t s,D.t c,D.j d,x,e,f,g,D.sl a 9 h i]] 136/\∀(j:Nat),vN Q N0 a1 e1 c1 (IntKind.i64.wrap (n6+1)) am
 ao aq au aw ax ay az a6 a7 a8 ba bc bg bh ab ac ae ah ai I J O aj U Y aa (r2++[D.ag [D.j n,D.t s,
 D.t c,D.j d,x,e,f,g,D.sl a 9 h i]]).length j (r2++[D.ag [D.j n,D.t s,D.t c,D.j d,x,e,f,g,D.sl a 9 h i]]) j b)) (w3
 (ak=r2.length/\al=q2) (∀ a b,N<=b->Fresh N0 b a [D.ag r2,D.sl I 2 J O,D.sl U 2 Y aa]->uP b (Q (D.ag [D.j ab,D.t ac,
 D.t ae,D.j ah,D.j ai,D.sl I 2 J O,D.j aj,D.sl U 2 Y aa,D.sl a 9 r2 q2]))))):vN Q N0 a1 e1 c1 n6 am ao aq au aw ax ay az a6 a7 a8 ba bc bg bh ab ac ae ah ai I J O aj U Y aa ak al r2 q2 N:=
  hE Bo h
theorem qj (N:Nat) (I:D) (Q:QT [.pk,.int .i64,.str,.str,.int .i64,.dc,.dc,.dc,.dc,.row 29 9]) (h :
Bel N I->∃ a b,∃ c:Nat,(I.cell 8)=D.sl a 9 b c/\yz Q N 0 0 a b c (b.length:Int) 0 I 0 b0 b0 0 0 none [] 0 0 none [] 0
 none [] 0 [] 0 N):ACalls prog 51 [.pk,.int .i64,.str,.str,.int .i64,.dc,.dc,.dc,.dc,.row 29 9] [.dg 9 I,.fn 24 []] N Q:=
  eE sQ h
theorem ux {Q:QT [.pk,.int .i64,.str,.str,.int .i64,.dc,.dc,.dc,.dc,.row 29 9]} {N0:Nat} {m5 c5:Nat} {ax:Option Addr} {O:List D} {ay:Nat} {aw I:Int} {y0:D} {U:Int} {Y aa:ByteArray} {ab ac:Int} {ae:Option Addr} {ah:List D} {ai:Nat} {aj:Int} {ak:Option Addr} {al:List D} {am:Nat} {ao:Option Addr} {aq:List D} {au:Nat} {J:List D} {q2:Nat} {N:Nat} (h :
Br (decide (I<aw)) ((0<=I/\I<(O.length:Int))/\∀ b,N<=b->ACalls prog 24 [.pk,.i,.str,.str,.i,.dc,.dc,.dc,.dc,.row 29 9] [.dg
 9 (List.getD O I.toNat default)] b (λn s c d x e f g h i j=>b<=j->Bel j (D.ag h)->(h.length=h.length/\i=i)/\∀ a b,j<=b
 -> Fresh N0 b a [D.ag h,x,e,f,g,D.ag J]->(m5=J.length/\c5=q2)/\zC J [D.ag [D.j n,D.t s,D.t c,D.j d,x,e,f,g,D.sl a 9
 h i]] 136/\∀(j:Nat),yz Q N0 (J++[D.ag [D.j n,D.t s,D.t c,D.j d,x,e,f,g,D.sl a 9 h i]]).length j ax O ay
 aw (IntKind.i64.wrap (I+1)) y0 U Y aa ab ac ae ah ai aj ak al am ao aq au (J++[D.ag [D.j n,D.t s,D.t c,D.j d,x,
 e,f,g,D.sl a 9 h i]]) j b)) ((m5=J.length/\c5=q2)/\∀ a,ApA a J->Off [a] y0->∀ b,N<=b->w8 b [a]->ACalls prog 90 [.pk,
 .i,.str,.str,.i,.dc,.dc,.dc,.dc,Sh.bk 1] [.dg 9 y0,.sv a 9 J c5] b (λc d e f g h i j k l=>b<=l->k=D.sl a 9 J c5
 /\ Off [a] g/\Off [a] h/\Off [a] i/\Off [a] j/\(m5=J.length/\c5=q2)/\uP l (Q c d e f g h i j J c5)))):yz Q N0 m5 c5 ax O ay aw I y0 U Y aa ab ac ae ah ai aj ak al am ao aq au J q2 N:=
  hE sQ h
end Go.Proofs.YtligajflgjpdnaaGreatDoor
set_option maxRecDepth 100000
namespace Go.Proofs.YtligajflgjpdnaaGreatDoor
open Go Go.Proofs Go.Proofs.Tryz
def vE:Hint:=⟨[hc 2 [0,1,7,8]],[],[]⟩
def wv:Hint:=⟨[hc 5 [0,1,5,6]],[],[(12,hs 4 [{ i:=2,hard:=true,tr:=true }])]⟩
def qd:Hint:=⟨[hc 6 [3,4,5,22,23,24]],[],[(3,hs 8 [ec 1 [16]]),(8,hs 3 [ec 1 [29]])]⟩
def BI:Hint:=⟨[],[],[(5,hs 10 [{ i:=8,hard:=true,tr:=true }])]⟩
def wM:Hint:=⟨[hc 3 [0,3,9,10,11],hc 11 [6,25,26,27] [(6,9,0)]],[],[]⟩
def rV:Hint:=⟨[hc 3 [5,12,13,14] [(5,9,0)]],[],[]⟩
def Dr:Hint:=⟨[hc 3 [0,1,5]],[],[]⟩
def sP:Hint:=⟨[hc 3 [0,1,5,6] [(5,9,0)]],[],[]⟩
def vq:Hint:=⟨[hc 3 [0,1,5,6] [(5,9,0)],hc 8 [1,5,7] [(5,9,0)]],[],[]⟩
def tU:Hint:=⟨[hc 6 [1,3,4,5,6],hc 10 [1,3,4,5,6,7,8]],[],[(8,hs 7 [ec 5 [32]])]⟩
def qV:Hint:=⟨[hc 5 [0,3,4]],[],[]⟩
def qM:Hint:=⟨[hc 3 [0,3]],[],[]⟩
def xG (Q:QT [.row 9 0])(N0:Nat)(n4:Int)(m5 c5:Nat)(U:Option Addr)(Y:List D)(aa:Nat)(ab ac:Int)(I:Option Addr)(J:List D)(O:Nat)(r1:List D)(q1:Nat)(N:Nat):Prop:=AT prog 94 [.row 9 0] Q N0 .ord (zG prog 94 6) ⟨an 3 (.pb 0 0 0 0::.int .i64 n4::.sb 1 0 0 m5 c5::an 16 (.sv U 9 Y aa::.int .i64 ab::.int .i64 ac::an 17 [])),[.var [.sv I 0 J O],.arr 9 0 r1 q1],N,none⟩
def yd (Q:QT [.sl 0])(N0:Nat)(a0:Option Addr)(e0:List D)(O:Nat)(U:Int)(a9:Option Addr)(Y:List D)(c9:Nat)(I J:Int)(N:Nat):Prop:=AT prog 160 [.sl 0] Q N0 .ord (zG prog 160 3) ⟨.sv a0 0 e0 O::an 2 (.int .i64 U::an 5 (.sv a9 0 Y c9::.int .i64 I::.int .i64 J::an 24 [])),[],N,none⟩
def yZ (Q:QT [.row 9 0])(N0:Nat)(m5 c5:Nat)(I:Option Addr)(J:List D)(O:Nat)(U Y:Int)(r0:List D)(q0:Nat)(N:Nat):Prop:=AT prog 138 [.row 9 0] Q N0 .ord (zG prog 138 3) ⟨an 5 (.sb 0 0 0 m5 c5::an 6 (.sv I 0 J O::.int .i64 U::.int .i64 Y::an 13 [])),[.arr 9 0 r0 q0],N,none⟩
def uO (Q:QT [.str])(N0:Nat)(I:ByteArray)(a1:Option Addr)(e1:List D)(c1:Nat)(J:Int)(N:Nat):Prop:=AT prog 166 [.str] Q N0 .ord (zG prog 166 3) ⟨.str I::.sv a1 0 e1 c1::an 3 (.int .i64 J::an 12 []),[],N,none⟩
def yR (Q:QT [.sl 0])(N0:Nat)(a0:Option Addr)(e0:List D)(I:Nat)(J:ByteArray)(O U:Nat)(Y:Int)(r0:List D)(q0:Nat)(N:Nat):Prop:=AT prog 144 [.sl 0] Q N0 .ord (zG prog 144 3) ⟨.sv a0 0 e0 I::.str J::an 3 (.sb 0 0 0 O U::.int .i64 Y::an 21 []),[.arr 9 0 r0 q0],N,none⟩
def yY (Q:QT [.row 9 0])(N0:Nat)(a0:Option Addr)(e0:List D)(I:Nat)(a1:Option Addr)(e1:List D)(c1 J O:Nat)(U:Int)(r0:List D)(Y:Nat)(N:Nat):Prop:=AT prog 145 [.row 9 0] Q N0 .ord (zG prog 145 3) ⟨.sv a0 0 e0 I::.sv a1 0 e1 c1::an 3 (.sb 0 0 0 J O::.int .i64 U::an 43 []),[.arr 9 0 r0 Y],N,none⟩
def yC (Q:QT [.sl 0])(N0:Nat)(a3:Option Addr)(I:List D)(J:Nat)(O:Int)(U Y:Nat)(n6:Int)(y0:D)(r1:List D)(q1:Nat)(N:Nat):Prop:=AT prog 100 [.sl 0] Q N0 .ord (zG prog 100 6) ⟨an 1 (.pb 0 0 0 0::an 1 (.sv a3 0 I J::.int .i64 O::.sb 1 0 0 U Y::.int .i64 n6::an 48 [])),[.vd y0 9,.arr 9 0 r1 q1],N,none⟩
def yq (Q:QT [.str])(N0:Nat)(n0:Int)(I:Bool)(J:ByteArray)(N:Nat):Prop:=AT prog 168 [.str] Q N0 .ord (zG prog 168 5) ⟨.int .i64 n0::an 2 (.bool I::.str J::an 26 []),[],N,none⟩
def xi (Q:QT [.str])(N0:Nat)(a0:Option Addr)(e0:List D)(I:Nat)(J:Int)(N:Nat):Prop:=AT prog 163 [.str] Q N0 .ord (zG prog 163 3) ⟨.sv a0 0 e0 I::an 2 (.int .i64 J::an 11 []),[],N,none⟩
def zm (Q:QT [.sl 0])(N0:Nat)(m6 c6:Nat)(I:Option Addr)(J:List D)(O:Nat)(U Y:Int)(r0:List D)(q0:Nat)(N:Nat):Prop:=AT prog 160 [.sl 0] Q N0 .ord (zG prog 160 11) ⟨an 6 (.sb 0 0 0 m6 c6::an 18 (.sv I 0 J O::.int .i64 U::.int .i64 Y::an 8 [])),[.arr 9 0 r0 q0],N,none⟩
def yA (Q:QT [.row 9 0])(N0:Nat)(a1:Option Addr)(e1:List D)(c1 I J:Nat)(O:Int)(r0:List D)(U:Nat)(N:Nat):Prop:=AT prog 145 [.row 9 0] Q N0 .ord (zG prog 145 8) ⟨an 1 (.sv a1 0 e1 c1::an 3 (.sb 0 0 0 I J::an 1 (.int .i64 O::an 42 []))),[.arr 9 0 r0 U],N,none⟩
def yp (Q:QT [.sl 0])(N0:Nat)(a3:Option Addr)(I:List D)(J:Nat)(O:Int)(U Y:Nat)(n6:Int)(a7:Option Addr)(e7:List D)(c7:Nat)(n8:Int)(y0:D)(r1:List D)(q1:Nat)(N:Nat):Prop:=AT prog 100 [.sl 0] Q N0 .ord (zG prog 100 10) ⟨an 1 (.pb 0 0 0 0::an 1 (.sv a3 0 I J::.int .i64 O::.sb 1 0 0 U Y::.int .i64 n6::.sv a7 0 e7 c7::.int .i64 n8::an 46 [])),[.vd y0 9,.arr 9 0 r1 q1],N,none⟩
def zX (E:Env)(Q:QT [.bk 0,.sl 0,.sl 0])(N0:Nat)(U Y:Nat)(n5 n6:Int)(r0:List D)(q0:Nat)(I:Option Addr)(J:List D)(O:Nat)(N:Nat):Prop:=AT prog 136 [.bk 0,.sl 0,.sl 0] Q N0 (.io E [.arr 9 0 [] 0,.var [.sv none 0 [] 0]]) (zG prog 136 5) ⟨.sb 0 0 0 U Y::.fn 137 [.pb 1 0 0 0]::an 3 (.int .i64 n5::.int .i64 n6::an 35 []),[.arr 9 0 r0 q0,.var [.sv I 0 J O]],N,some (x9 E 0 [.arr 9 0 [] 0,.var [.sv none 0 [] 0]],[])⟩
def yE (Q:QT [.int .i64])(N0:Nat)(a0:Option Addr)(e0:List D)(O:Nat)(J:Addr)(I:D)(U Y:Int)(N:Nat):Prop:=AT prog 162 [.int .i64] Q N0 .ord (zG prog 162 2) ⟨.sv a0 0 e0 O::.fn 137 [.pd J 0 I]::an 5 (.int .i64 U::.int .i64 Y::an 10 []),[],N,none⟩
theorem LM (N:Nat) (x0:D) (Q:QT [.sl 0,.int .i64]) (h :
Bel N x0->∃ n:Int,(x0.cell 0)=D.j n/\Br (n==6) (∃ a b,∃ c:Nat,(x0.cell 8)=D.sl a 9 b c/\Br ((b.length:Int)==1) (∃ s,(x0.cell 1) =
 D.t s/\w2 (1=([D.t s]).length/\1=1) (∀ a b,N<=b->Fresh N b a [D.ag [D.t s]]->uP b (Q a [D.t s] 1 0))) (∃ a:Int,(x0.cell 0)=D.j a /\
 Br (a==8) (∃ a b,∃ c:Nat,(x0.cell 8)=D.sl a 9 b c/\Br ((b.length:Int)==2) (∃ a,(x0.cell 1)=D.t a/\w2 (1=([D.t
 a]).length/\1=1) (∀ b c,N<=c->Fresh N c b [D.ag [D.t a]]->uP c (Q b [D.t a] 1 1))) (∃ a:Int,(x0.cell 0)=D.j a/\Br (a==9) (∃
 a b,∃ c:Nat,(x0.cell 8)=D.sl a 9 b c/\Br ((b.length:Int)==1) (∃ a,(x0.cell 1)=D.t a/\∃ b,(x0.cell 2)=D.t b/\w2 (2 =
 ([D.t a,D.t b]).length/\2=2) (∀ c d,N<=d->Fresh N d c [D.ag [D.t a,D.t b]]->uP d (Q c [D.t a,D.t b] 2 0))) (uP N (Q none [] 0
 (-1)))) (uP N (Q none [] 0 (-1))))) (∃ a:Int,(x0.cell 0)=D.j a/\Br (a==9) (∃ a b,∃ c:Nat,(x0.cell 8)=D.sl a 9 b c/\Br
 ((b.length:Int)==1) (∃ a,(x0.cell 1)=D.t a/\∃ b,(x0.cell 2)=D.t b/\w2 (2=([D.t a,D.t b]).length/\2=2) (∀ c d,N<=d->Fresh
 N d c [D.ag [D.t a,D.t b]]->uP d (Q c [D.t a,D.t b] 2 0))) (uP N (Q none [] 0 (-1)))) (uP N (Q none [] 0 (-1)))))) (∃ a:Int,(x0.cell 0) =
 D.j a/\Br (a==8) (∃ a b,∃ c:Nat,(x0.cell 8)=D.sl a 9 b c/\Br ((b.length:Int)==2) (∃ a,(x0.cell 1)=D.t a/\w2 (1 =
 ([D.t a]).length/\1=1) (∀ b c,N<=c->Fresh N c b [D.ag [D.t a]]->uP c (Q b [D.t a] 1 1))) (∃ a:Int,(x0.cell 0)=D.j a/\Br
 (a==9) (∃ a b,∃ c:Nat,(x0.cell 8)=D.sl a 9 b c/\Br ((b.length:Int)==1) (∃ a,(x0.cell 1)=D.t a/\∃ b,(x0.cell 2) =
 D.t b/\w2 (2=([D.t a,D.t b]).length/\2=2) (∀ c d,N<=d->Fresh N d c [D.ag [D.t a,D.t b]]->uP d (Q c [D.t a,D.t b] 2
 0))) (uP N (Q none [] 0 (-1)))) (uP N (Q none [] 0 (-1))))) (∃ a:Int,(x0.cell 0)=D.j a/\Br (a==9) (∃ a b,∃ c:Nat,(x0.cell 8)=D.sl
 a 9 b c/\Br ((b.length:Int)==1) (∃ a,(x0.cell 1)=D.t a/\∃ b,(x0.cell 2)=D.t b/\w2 (2=([D.t a,D.t b]).length/\2=2)
 (∀ c d,N<=d->Fresh N d c [D.ag [D.t a,D.t b]]->uP d (Q c [D.t a,D.t b] 2 0))) (uP N (Q none [] 0 (-1)))) (uP N (Q none [] 0
 (-1)))))):ACalls prog 132 [.sl 0,.int .i64] [PV.dg 9 x0] N Q:=
  eE H0 h
theorem Fx (N:Nat) (I:D) (Q:QT [.row 9 0]) (h :
Bel N I->∃ n:Int,(I.cell 0)=D.j n/\Br (n==1) (∃ s,(I.cell 1)=D.t s/\(1=([D.t s]).length/\1=1)/\uP N (Q [D.t s] 1)) (∀ b,N<=b ->
 ACalls prog 132 [.sl 0,.i] [.dg 9 I] b (λa c d e f=>b<=f->Bel f (D.sl a 0 c d)->∃ b g,∃ h:Nat,(I.cell 8)=D.sl b 9 g h /\
 xG Q N e 0 0 b g h (g.length:Int) 0 a c d [] 0 f))):ACalls prog 94 [.row 9 0] [PV.dg 9 I] N Q:=
  eE qd h
theorem B4 (N:Nat) (n1:Int) (Q:QT [.row 9 0]) (h :
Bel N (D.sl none 0 [] 0)->Br (decide (n1<0)) False (Br (decide (IntKind.i64.wrap (n1 - 0)>0)) (((0:Int)<=(0:Int)/\(0:Int)<=(0:Int)/\(0 :
 Int)<=(0:Int))/\(0<=IntKind.i64.wrap (n1 - 0)/\(IntKind.i64.wrap (n1 - 0)*16)<=140737488355328/\IntKind.i64.wrap (n1 - 0)<=140737488355328)/\∀(c :
 Nat),((0:Int)<=(0:Int)/\0<=(c:Int))/\0<=(List.replicate (IntKind.i64.wrap (n1 - 0)).toNat (D.t b0)).length/\(0=(List.take 0 (List.replicate
 (IntKind.i64.wrap (n1 - 0)).toNat (D.t b0))).length/\c=c)/\∀ a,N<=a->Q (List.take 0 (List.replicate (IntKind.i64.wrap (n1 - 0)).toNat (D.t b0))) c a)
 (uP N (Q [] 0)))):ACalls prog 167 [.row 9 0] [PV.sv none 0 [] 0,PV.int .i64 n1] N Q:=
  eE BI h
theorem AD (N:Nat) (a0:Option Addr) (e0:List D) (I:Nat) (Q:QT [.sl 0]) (h :
Bel N (D.sl a0 0 e0 I)->yd Q N a0 e0 I 0 a0 e0 I (e0.length:Int) 0 N):ACalls prog 160 [.sl 0] [PV.sv a0 0 e0 I] N Q:=
 eE wM h
theorem DT (N:Nat) (a0:Option Addr) (e0:List D) (I:Nat) (a1:Option Addr) (e1:List D) (c1:Nat) (Q:QT [.row 9 0]) (h :
Bel N (D.sl a0 0 e0 I)->Bel N (D.sl a1 0 e1 c1)->(2=([D.sl a0 0 e0 I,D.sl a1 0 e1 c1]).length/\2=2)/\∀ a,ApA a [D.sl a0 0 e0 I,D.sl a1 0 e1
 c1]->∀ b,N<=b->w8 b [a]->ACalls prog 160 [.sl 0] [.sv a 0 [D.sl a0 0 e0 I,D.sl a1 0 e1 c1] 2] b (λc d e f=>b<=f->Off [a] (D.sl c 0
 d e)/\(Bel f (D.sl c 0 d e)->yZ Q N 0 0 c d e (d.length:Int) 0 [] 0 f))):ACalls prog 138 [.row 9 0] [PV.sv a0 0 e0 I,PV.sv a1 0 e1 c1] N Q:=
  eE rV h
theorem Lo (N:Nat) (I:ByteArray) (a1:Option Addr) (e1:List D) (c1:Nat) (Q:QT [.str]) (h :
Bel N (D.sl a1 0 e1 c1)->uO Q N I a1 e1 c1 1 N):ACalls prog 166 [.str] [PV.str I,PV.sv a1 0 e1 c1] N Q:=
 eE Dr h
theorem Eg (N:Nat) (a0:Option Addr) (e0:List D) (I:Nat) (Q:QT [.str]) (h :
Bel N (D.sl a0 0 e0 I)->kS 166 [.str (bytes [118]),.sv a0 0 e0 I] N (λs a=>uP a (Q s)) ):ACalls prog 159 [.str] [PV.sv a0 0 e0 I] N Q:=
 eE H0 h
theorem EE (N:Nat) (n0:Int) (Q:QT [.str]) (h :
kS 170 [.j n0] N (λs a=>uP a (Q s))):ACalls prog 169 [.str] [PV.int .i64 n0] N Q:=
 eE H0 h
theorem Ly (N:Nat) (I:ByteArray) (Q:QT [.ag 9]) (h :
∀ a,N<=a->Q (D.ag [D.j 1,D.t I,D.t b0,D.j 0,D.j 0,D.sl none 2 [] 0,D.j 0,D.sl none 2 [] 0,D.sl none 9 [] 0]) a):ACalls prog 161 [.ag 9] [PV.str I] N Q:=
  eE H0 h
theorem G7 (N:Nat) (x0:D) (Q:QT [.sl 0,.int .i64]) (h :
Bel N x0->∃ n:Int,(x0.cell 0)=D.j n/\Br (n==6) (∃ a b,∃ c:Nat,(x0.cell 8)=D.sl a 9 b c/\Br ((b.length:Int)==1) (∃ s,(x0.cell 1) =
 D.t s/\w2 (1=([D.t s]).length/\1=1) (∀ a b,N<=b->Fresh N b a [D.ag [D.t s]]->uP b (Q a [D.t s] 1 0))) (∃ a:Int,(x0.cell 0)=D.j a /\
 Br (a==8) (∃ a b,∃ c:Nat,(x0.cell 8)=D.sl a 9 b c/\Br ((b.length:Int)==2) (∃ a,(x0.cell 1)=D.t a/\w2 (1=([D.t
 a]).length/\1=1) (∀ b c,N<=c->Fresh N c b [D.ag [D.t a]]->uP c (Q b [D.t a] 1 1))) (∃ a:Int,(x0.cell 0)=D.j a/\Br (a==9) (∃
 a b,∃ c:Nat,(x0.cell 8)=D.sl a 9 b c/\Br ((b.length:Int)==1) (∃ a,(x0.cell 1)=D.t a/\∃ b,(x0.cell 2)=D.t b/\w2 (2 =
 ([D.t a,D.t b]).length/\2=2) (∀ c d,N<=d->Fresh N d c [D.ag [D.t a,D.t b]]->uP d (Q c [D.t a,D.t b] 2 0))) (w2 (0=0/\0=0)
 (∀ a b,N<=b->Fresh N b a [D.ag []]->uP b (Q a [] 0 (-1))))) (w2 (0=0/\0=0) (∀ a b,N<=b->Fresh N b a [D.ag []]->uP b (Q a [] 0
 (-1)))))) (∃ a:Int,(x0.cell 0)=D.j a/\Br (a==9) (∃ a b,∃ c:Nat,(x0.cell 8)=D.sl a 9 b c/\Br ((b.length:Int)==1) (∃
 a,(x0.cell 1)=D.t a/\∃ b,(x0.cell 2)=D.t b/\w2 (2=([D.t a,D.t b]).length/\2=2) (∀ c d,N<=d->Fresh N d c [D.ag [D.t a,
 D.t b]]->uP d (Q c [D.t a,D.t b] 2 0))) (w2 (0=0/\0=0) (∀ a b,N<=b->Fresh N b a [D.ag []]->uP b (Q a [] 0 (-1))))) (w2 (0
 = 0/\0=0) (∀ a b,N<=b->Fresh N b a [D.ag []]->uP b (Q a [] 0 (-1))))))) (∃ a:Int,(x0.cell 0)=D.j a/\Br (a==8) (∃ a
 b,∃ c:Nat,(x0.cell 8)=D.sl a 9 b c/\Br ((b.length:Int)==2) (∃ a,(x0.cell 1)=D.t a/\w2 (1=([D.t a]).length/\1=1) (∀
 b c,N<=c->Fresh N c b [D.ag [D.t a]]->uP c (Q b [D.t a] 1 1))) (∃ a:Int,(x0.cell 0)=D.j a/\Br (a==9) (∃ a b,∃ c
 : Nat,(x0.cell 8)=D.sl a 9 b c/\Br ((b.length:Int)==1) (∃ a,(x0.cell 1)=D.t a/\∃ b,(x0.cell 2)=D.t b/\w2 (2=([D.t a,D.t
 b]).length/\2=2) (∀ c d,N<=d->Fresh N d c [D.ag [D.t a,D.t b]]->uP d (Q c [D.t a,D.t b] 2 0))) (w2 (0=0/\0=0) (∀ a
 b,N<=b->Fresh N b a [D.ag []]->uP b (Q a [] 0 (-1))))) (w2 (0=0/\0=0) (∀ a b,N<=b->Fresh N b a [D.ag []]->uP b (Q a
 [] 0 (-1)))))) (∃ a:Int,(x0.cell 0)=D.j a/\Br (a==9) (∃ a b,∃ c:Nat,(x0.cell 8)=D.sl a 9 b c/\Br ((b.length:Int)==1)
 (∃ a,(x0.cell 1)=D.t a/\∃ b,(x0.cell 2)=D.t b/\w2 (2=([D.t a,D.t b]).length/\2=2) (∀ c d,N<=d->Fresh N d c [D.ag
 [D.t a,D.t b]]->uP d (Q c [D.t a,D.t b] 2 0))) (w2 (0=0/\0=0) (∀ a b,N<=b->Fresh N b a [D.ag []]->uP b (Q a [] 0
 (-1))))) (w2 (0=0/\0=0) (∀ a b,N<=b->Fresh N b a [D.ag []]->uP b (Q a [] 0 (-1))))))):ACalls prog 142 [.sl 0,.int .i64] [PV.dg 9 x0] N Q:=
  eE H0 h
theorem Ch (N:Nat) (a0:Option Addr) (e0:List D) (I:Nat) (J:ByteArray) (Q:QT [.sl 0]) (h :
Bel N (D.sl a0 0 e0 I)->yR Q N a0 e0 I J 0 0 0 [] 0 N):ACalls prog 144 [.sl 0] [PV.sv a0 0 e0 I,PV.str J] N Q:=
 eE sP h
theorem Cy (N:Nat) (a0:Option Addr) (e0:List D) (I:Nat) (a1:Option Addr) (e1:List D) (c1:Nat) (Q:QT [.row 9 0]) (h :
Bel N (D.sl a0 0 e0 I)->Bel N (D.sl a1 0 e1 c1)->yY Q N a0 e0 I a1 e1 c1 0 0 0 [] 0 N):ACalls prog 145 [.row 9 0] [PV.sv a0 0 e0 I,PV.sv a1 0 e1 c1] N Q:=
 eE vq h
theorem GA (N:Nat) (I:D) (Q:QT [.sl 0]) (h :
Bel N I->∃ n:Int,(I.cell 0)=D.j n/\Br (n==1) (∃ s,(I.cell 1)=D.t s/\w2 (1=([D.t s]).length/\1=1) (∀ a b,N<=b->Fresh N b a [D.ag
 [D.t s]]->uP b (Q a [D.t s] 1))) (∀ a,N<=a->ACalls prog 142 [.sl 0,.i] [.dg 9 I] a (λb c d e f=>a<=f->Bel f (D.sl b 0 c d) ->
 yC Q N b c d e 0 0 0 I [] 0 f))):ACalls prog 100 [.sl 0] [PV.dg 9 I] N Q:=
  eE tU h
theorem D6 (N:Nat) (n0:Int) (Q:QT [.str]) (h :
Br (n0==0) (uP N (Q (bytes [48]))) (yq Q N n0 (decide (n0<0)) b0 N)):ACalls prog 168 [.str] [PV.int .i64 n0] N Q:=
 eE qV h
theorem D5 (N:Nat) (a0:Option Addr) (e0:List D) (I:Nat) (Q:QT [.str]) (h :
Bel N (D.sl a0 0 e0 I)->xi Q N a0 e0 I 1 N):ACalls prog 163 [.str] [PV.sv a0 0 e0 I] N Q:=
 eE qM h
theorem Do (N:Nat) (I:ByteArray) (Q:QT [.ag 9]) (h :
∀ a,N<=a->Q (D.ag [D.j 1,D.t I,D.t b0,D.j 0,D.j 0,D.sl none 2 [] 0,D.j 0,D.sl none 2 [] 0,D.sl none 9 [] 0]) a):ACalls prog 41 [.ag 9] [PV.str I] N Q:=
  eE H0 h
theorem rX {Q:QT [.row 9 0]} {N0:Nat} {n4:Int} {m5 c5:Nat} {ab:Option Addr} {J:List D} {ac:Nat} {aa I:Int} {O:Option Addr} {U:List D} {Y:Nat} {r1:List D} {q1:Nat} {N:Nat} (h :
Br (decide (I<aa)) ((0<=I/\I<(J.length:Int))/\∀ b,N<=b->ACalls prog 94 [.row 9 0] [.dg 9 (List.getD J I.toNat default)] b (fun
 c d e=>b<=e->Bel e (D.ag c)->Br (I==n4) (∀ b,e<=b->BCalls prog 136 [Sh.bk 0,.sl 0,.sl 0] [.sb 0 0 0 c.length d,.fn 137 [.pb 1 0 0 0]]
 [Bx.arr 9 0 c d,Bx.var [.sv O 0 U Y]] b (λ_ a c d e f g h=>b<=h->Bel h (D.sl a 0 c d)->Bel h (D.sl e 0 f g) ->
 (m5=r1.length/\c5=q1)/\∀ a,ApA a r1->(c.length=c.length/\d=d)/\∀ b,ApA b c->∀ i,h<=i->w8 i [a,b]->ACalls
 prog 138 [.row 9 0] [.sv a 0 r1 c5,.sv b 0 c d] i (λc d h=>i<=h->Off [a,b] (D.ag c)/\(Bel h (D.ag c)->xG
 Q N0 n4 c.length d ab J ac aa (IntKind.i64.wrap (I+1)) e f g c d h)))) ((m5=r1.length/\c5=q1)/\∀ a,ApA a r1->(c.length =
 c.length/\d=d)/\∀ b,ApA b c->∀ f,e<=f->w8 f [a,b]->ACalls prog 138 [.row 9 0] [.sv a 0 r1 c5,.sv b 0 c d] f (λc d e
 => f<=e->Off [a,b] (D.ag c)/\(Bel e (D.ag c)->xG Q N0 n4 c.length d ab J ac aa (IntKind.i64.wrap (I+1)) O U
 Y c d e))))) ((m5=r1.length/\c5=q1)/\uP N (Q r1 c5))):xG Q N0 n4 m5 c5 ab J ac aa I O U Y r1 q1 N:=
  hE qd h
theorem vp {Q:QT [.sl 0]} {N0:Nat} {a0:Option Addr} {e0:List D} {Y:Nat} {O:Int} {a9:Option Addr} {U:List D} {c9:Nat} {J I:Int} {N:Nat} (h :
Br (decide (I<J)) ((0<=I/\I<(U.length:Int))/\∃ a b,∃ c:Nat,List.getD U I.toNat default=D.sl a 0 b c/\Br (decide
 (IntKind.i64.wrap (O+(b.length:Int))<0)) False (yd Q N0 a0 e0 Y (IntKind.i64.wrap (O+(b.length:Int))) a9 U c9 J
 (IntKind.i64.wrap (I+1)) N)) (∀ a,N<=a->ACalls prog 167 [.row 9 0] [.sv none 0 [] 0,.j O] a (λb c d=>a<=d->Bel d (D.ag b) ->
 zm Q N0 b.length c a0 e0 Y (e0.length:Int) 0 b c d))):yd Q N0 a0 e0 Y O a9 U c9 J I N:=
  hE wM h
theorem tL {Q:QT [.row 9 0]} {N0:Nat} {m5 U:Nat} {Y:Option Addr} {J:List D} {aa:Nat} {O I:Int} {r0:List D} {q0:Nat} {N:Nat} (h :
Br (decide (I<O)) ((0<=I/\I<(J.length:Int))/\∃ s,List.getD J I.toNat default=D.t s/\(m5=r0.length/\U=q0)/\∀ a,ApA a r0 ->
 ∀ d,N<=d->w8 d [a]->ACalls prog 93 [.bool] [.sv a 0 r0 U,.str s] d (λb a=>d<=a->Br (!b) ((m5=r0.length/\U=q0)/\zC r0 [D.t s]
 16/\∀(c:Nat),yZ Q N0 (r0++[D.t s]).length c Y J aa O (IntKind.i64.wrap (I+1)) (r0++[D.t s]) c a) (yZ Q N0
 m5 U Y J aa O (IntKind.i64.wrap (I+1)) r0 q0 a))) ((m5=r0.length/\U=q0)/\uP N (Q r0 U))):yZ Q N0 m5 U Y J aa O I r0 q0 N:=
  hE rV h
theorem Gz {Q:QT [.str]} {N0:Nat} {I:ByteArray} {a1:Option Addr} {e1:List D} {c1:Nat} {J:Int} {N:Nat} (h :
kS 169 [.j J] N (λs a=>(I.size+s.size:Nat)<=9223372036854775807/\kB 93 [.sv a1 0 e1 c1,.str (I++s)] a (λb a=>Br (!b) (uP a (Q (I
 ++ s))) (uO Q N0 I a1 e1 c1 (IntKind.i64.wrap (J+1)) a)))):uO Q N0 I a1 e1 c1 J N:=
  hE Dr h
theorem uz {Q:QT [.sl 0]} {N0:Nat} {a0:Option Addr} {e0:List D} {c0:Nat} {O:ByteArray} {U Y:Nat} {I:Int} {r0:List D} {J:Nat} {N:Nat} (h :
Br (decide (I<(e0.length:Int))) ((0<=I/\I<(e0.length:Int))/\∃ s,List.getD e0 I.toNat default=D.t s/\Br (!(ByteArray.toList s ==
 ByteArray.toList O)) ((0<=I/\I<(e0.length:Int))/\∃ a,List.getD e0 I.toNat default=D.t a/\(U=r0.length/\Y=J)/\zC r0 [D.t a] 16
 /\ ∀(c:Nat),yR Q N0 a0 e0 c0 O (r0++[D.t a]).length c (IntKind.i64.wrap (I+1)) (r0++[D.t a]) c N) (yR Q N0 a0
 e0 c0 O U Y (IntKind.i64.wrap (I+1)) r0 J N)) (w3 (U=r0.length/\Y=J) (∀ a b,N<=b->Fresh N0 b a [D.ag r0]->uP b (Q a r0 J)))):yR Q N0 a0 e0 c0 O U Y I r0 J N:=
  hE sP h
theorem tI {Q:QT [.row 9 0]} {N0:Nat} {a0:Option Addr} {e0:List D} {Y:Nat} {a1:Option Addr} {e1:List D} {c1 O J:Nat} {I:Int} {r0:List D} {U:Nat} {N:Nat} (h :
Br (decide (I<(e0.length:Int))) ((0<=I/\I<(e0.length:Int))/\∃ s,List.getD e0 I.toNat default=D.t s/\(O=r0.length/\J=U)/\∀ a,
 ApA a r0->∀ b,N<=b->w8 b [a]->ACalls prog 99 [.i] [.sv a 0 r0 J,.str s] b (λn a=>b<=a->Br (decide (n<0)) ((0<=I/\I<(e0.length :
 Int))/\∃ b,List.getD e0 I.toNat default=D.t b/\(O=r0.length/\J=U)/\zC r0 [D.t b] 16/\∀(c:Nat),yY Q N0 a0 e0 Y
 a1 e1 c1 (r0++[D.t b]).length c (IntKind.i64.wrap (I+1)) (r0++[D.t b]) c a) (yY Q N0 a0 e0 Y a1 e1 c1 O J (IntKind.i64.wrap (I
 + 1)) r0 U a))) (yA Q N0 a1 e1 c1 O J 0 r0 U N)):yY Q N0 a0 e0 Y a1 e1 c1 O J I r0 U N:=
  hE vq h
theorem rM {Q:QT [.sl 0]} {N0:Nat} {a3:Option Addr} {e3:List D} {c3:Nat} {n4:Int} {U Y:Nat} {I:Int} {J:D} {r1:List D} {O:Nat} {N:Nat} (h :
∃ a b,∃ c:Nat,(J.cell 8)=D.sl a 9 b c/\Br (decide (I<(b.length:Int))) (∃ a b,∃ c:Nat,(J.cell 8)=D.sl a 9 b c/\(0<=I
 /\ I<(b.length:Int))/\kL 0 100 [.dg 9 (List.getD b I.toNat default)] N (λa b c d=>yp Q N0 a3 e3 c3 n4 U Y I a b
 c 0 J r1 O d)) (w3 (U=r1.length/\Y=O) (∀ a b,N<=b->Fresh N0 b a [D.ag r1]->uP b (Q a r1 O)))):yC Q N0 a3 e3 c3 n4 U Y I J r1 O N:=
  hE tU h
theorem Ca {Q:QT [.str]} {N0:Nat} {n0:Int} {J:Bool} {I:ByteArray} {N:Nat} (h :
Br (bne n0 0) ((10:Int)≠(0:Int)/\Br (decide (Int.tmod n0 10<0)) (1<=([D.lit (.int IntKind.u8 (IntKind.u8.wrap (IntKind.i64.wrap (48 +
 IntKind.i64.wrap (0 - Int.tmod n0 10)))))]).length/\∃ a:List Int,List.take 1 [D.lit (.int IntKind.u8 (IntKind.u8.wrap (IntKind.i64.wrap (48 +
 IntKind.i64.wrap (0 - Int.tmod n0 10)))))]=List.map (λn=>D.lit (.int IntKind.u8 n)) a/\(ByteArray.size (bytesOf a)+I.size:Nat) <=
 9223372036854775807/\(10:Int)≠(0:Int)/\yq Q N0 (IntKind.i64.wrap (Int.tdiv n0 10)) J (bytesOf a++I) N) (1<=([D.lit (.int
 IntKind.u8 (IntKind.u8.wrap (IntKind.i64.wrap (48+Int.tmod n0 10))))]).length/\∃ a:List Int,List.take 1 [D.lit (.int IntKind.u8 (IntKind.u8.wrap
 (IntKind.i64.wrap (48+Int.tmod n0 10))))]=List.map (λa=>D.lit (.int IntKind.u8 a)) a/\(ByteArray.size (bytesOf a)+I.size:Nat) <=
 9223372036854775807/\(10:Int)≠(0:Int)/\yq Q N0 (IntKind.i64.wrap (Int.tdiv n0 10)) J (bytesOf a++I) N)) (Br J ((1+I.size :
 Nat)<=9223372036854775807/\uP N (Q (bytes [45]++I))) (uP N (Q I)))):yq Q N0 n0 J I N:=
  hE qV h
theorem BO {Q:QT [.str]} {N0:Nat} {a0:Option Addr} {e0:List D} {c0:Nat} {n3:Int} {N:Nat} (h :
kS 168 [.j n3] N (fun s a=>(1+s.size:Nat)<=9223372036854775807/\∀ b,a<=b->ACalls prog 99 [.i] [.sv a0 0 e0 c0,.str (bytes [118]++s)] b
 (fun n a=>b<=a->Br (decide (n<0)) (uP a (Q (bytes [118]++s))) (xi Q N0 a0 e0 c0 (IntKind.i64.wrap (n3+1)) a)))):xi Q N0 a0 e0 c0 n3 N:=
  hE qM h
theorem t7 (N:Nat) (m0 c0:Nat) (U:List D) (Y:Nat) (I:Option Addr) (J:List D) (O:Nat) (Q:QT [(Sh.bk 0),(Sh.sl 0),(Sh.sl 0)]) (h:∀ E:Env,
Bel N (D.sl none 0 U Y)->Bel N (D.sl I 0 J O)->(m0=U.length/\c0=Y)/\∀ a,ApA a U->∀ b,ApA (Option.some b)
 [D.sl I 0 J O]->∀ c,N<=c->w8 c [a,Option.some b]->ACalls prog 162 [.i] [.sv a 0 U c0,.fn 137 [.pd b 0 (D.sl I 0 J O)]]
 c (λn a=>c<=a->Br (n==(-1)) (xQ E [.arr 9 0 [] 0,.var [.sv none 0 [] 0]]/\(m0=U.length/\c0=Y)/\uP a (Q (D.j 0) none U Y I
 J O)) (zX E Q N m0 c0 n (IntKind.i64.wrap (n+1)) U Y I J O a))):BCalls prog 136 [(Sh.bk 0),(Sh.sl 0),(Sh.sl 0)] [.sb 0 0 0 m0 c0,.fn 137 [.pb 1 0 0 0]] [.arr 9 0 U Y,.var [.sv I 0 J O]] N Q:=
  bE wv h
theorem vI {Q:QT [.sl 0]} {N0:Nat} {m6 c6:Nat} {a25:Option Addr} {e25:List D} {c25:Nat} {n26 n27:Int} {r0:List D} {q0:Nat} {N:Nat} (h :
Br (decide (n27<n26)) ((0<=n27/\n27<(e25.length:Int))/\∃ a b,∃ c:Nat,List.getD e25 n27.toNat default=D.sl a 0 b c/\(m6=r0.length/\c6 =
 q0)/\zC r0 b 16/\∀(a:Nat),zm Q N0 (r0++b).length a a25 e25 c25 n26 (IntKind.i64.wrap (n27+1)) (r0++b) a N) (w3
 (m6=r0.length/\c6=q0) (∀ a b,N<=b->Fresh N0 b a [D.ag r0]->uP b (Q a r0 q0)))):zm Q N0 m6 c6 a25 e25 c25 n26 n27 r0 q0 N:=
  hE wM h
theorem sA {Q:QT [.row 9 0]} {N0:Nat} {a1:Option Addr} {e1:List D} {c1 m5 c5:Nat} {n7:Int} {r0:List D} {q0:Nat} {N:Nat} (h :
Br (decide (n7<(e1.length:Int))) ((0<=n7/\n7<(e1.length:Int))/\∃ s,List.getD e1 n7.toNat default=D.t s/\(m5=r0.length/\c5=q0)/\∀ a,
 ApA a r0->∀ b,N<=b->w8 b [a]->ACalls prog 99 [.i] [.sv a 0 r0 c5,.str s] b (fun n a=>b<=a->Br (decide (n<0)) ((0<=n7/\n7<(e1.length :
 Int))/\∃ b,List.getD e1 n7.toNat default=D.t b/\(m5=r0.length/\c5=q0)/\zC r0 [D.t b] 16/\∀(c:Nat),yA Q N0 a1 e1 c1
 (r0++[D.t b]).length c (IntKind.i64.wrap (n7+1)) (r0++[D.t b]) c a) (yA Q N0 a1 e1 c1 m5 c5 (IntKind.i64.wrap (n7+1)) r0 q0 a)))
 ((m5=r0.length/\c5=q0)/\uP N (Q r0 c5))):yA Q N0 a1 e1 c1 m5 c5 n7 r0 q0 N:=
  hE vq h
theorem sS {Q:QT [.sl 0]} {N0:Nat} {a3:Option Addr} {e3:List D} {c3:Nat} {n4:Int} {m5 c5:Nat} {n6:Int} {a7:Option Addr} {e7:List D} {c7:Nat} {n8:Int} {y0:D} {r1:List D} {q1:Nat} {N:Nat} (h :
Br (decide (n8<(e3.length:Int))) (Br (n6==n4) ((0<=n8/\n8<(e3.length:Int))/\∃ s,List.getD e3 n8.toNat default=D.t s/\kL 0 144 [.sv a7 0 e7
 c7,.str s] N (fun a b c d=>yp Q N0 a3 e3 c3 n4 m5 c5 n6 a b c (IntKind.i64.wrap (n8+1)) y0 r1 q1 d)) ((m5=r1.length/\c5=q1)/\∀
 a,ApA a r1->Off [a] (D.sl a7 0 e7 c7)->∀ b,N<=b->w8 b [a]->ACalls prog 145 [.row 9 0] [.sv a 0 r1 c5,.sv a7 0 e7 c7] b (fun c d e
 => b<=e->Off [a] (D.ag c)/\(Bel e (D.ag c)->yC Q N0 a3 e3 c3 n4 c.length d (IntKind.i64.wrap (n6+1)) y0 c d e))))
 ((m5=r1.length/\c5=q1)/\∀ a,ApA a r1->Off [a] (D.sl a7 0 e7 c7)->∀ b,N<=b->w8 b [a]->ACalls prog 145 [.row 9 0] [.sv a 0 r1 c5,.sv
 a7 0 e7 c7] b (fun c d e=>b<=e->Off [a] (D.ag c)/\(Bel e (D.ag c)->yC Q N0 a3 e3 c3 n4 c.length d (IntKind.i64.wrap
 (n6+1)) y0 c d e)))):yp Q N0 a3 e3 c3 n4 m5 c5 n6 a7 e7 c7 n8 y0 r1 q1 N:=
  hE tU h
theorem sE (N:Nat) (a0:Option Addr) (e0:List D) (O:Nat) (J:Addr) (I:D) (Q:QT [.int .i64]) (h :
Bel N (D.sl a0 0 e0 O)->yE Q N a0 e0 O J I (e0.length:Int) 0 N):ACalls prog 162 [.int .i64] [.sv a0 0 e0 O,.fn 137 [.pd J 0 I]] N Q:=
 eE vE h
theorem wH (E:Env) (Q:QT [(Sh.bk 0),(Sh.sl 0),(Sh.sl 0)]) (N0:Nat) (m0 c0:Nat) (n5 n6:Int) (r0:List D) (q0:Nat) (a1_0:Option Addr) (e1_0:List D) (c1_0:Nat) (N:Nat) (h :
Br (decide (n6<(m0:Int))) ((0<=n6/\n6<(m0:Int)/\(0+n6.toNat:Nat)<r0.length)/\(0+n6.toNat:Nat)<r0.length/\∃ s,List.getD r0 (0 +
 n6.toNat:Nat) default=D.t s/\∀ a,ApA (Option.some a) [D.sl a1_0 0 e1_0 c1_0]->∀ c,N<=c->w8 c [Option.some a]->ACalls prog 137 [.bool] [.str
 s,.pd a 0 (D.sl a1_0 0 e1_0 c1_0)] c (fun b a=>c<=a->Br (!b) ((0<=n5/\n5<(m0:Int)/\(0+n5.toNat:Nat)<r0.length)/\(0+n5.toNat:Nat) <
 r0.length/\zX E Q N0 m0 c0 (IntKind.i64.wrap (n5+1)) (IntKind.i64.wrap (n6+1)) (List.set r0 (0+n5.toNat:Nat) (D.t s)) q0 a1_0
 e1_0 c1_0 a) (zX E Q N0 m0 c0 n5 (IntKind.i64.wrap (n6+1)) r0 q0 a1_0 e1_0 c1_0 a))) ((0<=n5/\n5<=(m0:Int)/\(m0:Int)<=(c0 :
 Int)/\n5<(c0))/\((0+n5.toNat:Nat)+(((m0:Int)).toNat - n5.toNat:Nat):Nat)<=r0.length/\(0<=n5/\n5<=(c0:Int))/\n5.toNat<=(List.take (0 +
 n5.toNat:Nat) r0++(List.replicate (((m0:Int)).toNat - n5.toNat:Nat) (D.t b0)++List.drop ((0+n5.toNat:Nat)+(((m0:Int)).toNat - n5.toNat:Nat)
 : Nat) r0)).length/\xQ E [.arr 9 0 [] 0,.var [.sv none 0 [] 0]]/\(n5.toNat=(List.take n5.toNat (List.take (0+n5.toNat:Nat) r0++(List.replicate
 (((m0:Int)).toNat - n5.toNat:Nat) (D.t b0)++List.drop ((0+n5.toNat:Nat)+(((m0:Int)).toNat - n5.toNat:Nat):Nat) r0))).length/\c0=q0)/\∀ a,
 N<=a->Q (D.j 0) none (List.take n5.toNat (List.take (0+n5.toNat:Nat) r0++(List.replicate (((m0:Int)).toNat - n5.toNat:Nat) (D.t b0)++List.drop
 ((0+n5.toNat:Nat)+(((m0:Int)).toNat - n5.toNat:Nat):Nat) r0))) q0 a1_0 e1_0 c1_0 a)):zX E Q N0 m0 c0 n5 n6 r0 q0 a1_0 e1_0 c1_0 N:=
  hE wv h
theorem wX {Q:QT [.int .i64]} {N0:Nat} {a0:Option Addr} {e0:List D} {Y:Nat} {J:Addr} {I:D} {U O:Int} {N:Nat} (h :
Br (decide (O<U)) ((0<=O/\O<(e0.length:Int))/\∃ s,List.getD e0 O.toNat default=D.t s/\kB 137 [.str s,.pd J 0 I] N (λb a=>Br
 b (uP a (Q O)) (yE Q N0 a0 e0 Y J I U (IntKind.i64.wrap (O+1)) a))) (uP N (Q (-1)))):yE Q N0 a0 e0 Y J I U O N:=
  hE vE h
theorem AC (N:Nat) (J:ByteArray) (a1:Addr) (I:D) (Q:QT [.bool]) (h :
∃ a d,∃ c:Nat,I=D.sl a 0 d c/\kB 93 [.sv a 0 d c,.str J] N (λb a=>uP a (Q b)) ):ACalls prog 137 [.bool] [.str J,.pd a1 0 I] N Q:=
  eE H0 h
end Go.Proofs.YtligajflgjpdnaaGreatDoor
