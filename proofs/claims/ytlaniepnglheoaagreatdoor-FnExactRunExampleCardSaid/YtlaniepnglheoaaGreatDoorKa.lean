/- Printed by gen.py: what the functions come to. -/
import Derived.Test.YtlaniepnglheoaaGreatDoorJh
set_option linter.unusedVariables false
set_option maxRecDepth 100000
namespace Go.Proofs.YtlaniepnglheoaaGreatDoor
open Go Go.Proofs Go.Proofs.Tryz
def Au:Hint:=⟨[hc 2 [0,3]],[],[]⟩
def A2:Hint:=⟨[hc 3 [1,2,5]],[],[(5,hs 8 [ec 6 [23]])]⟩
def tO:Hint:=⟨[hc 3 [1,3,4]],[],[(5,hs 9 [ec 6 [17]])]⟩
def A1:Hint:=⟨[hc 2 [1,3]],[],[(4,hs 7 [ec 5 [15]])]⟩
def Ax:Hint:=⟨[],[],[(1,hs 13 [ec 1 [3],ec 5 [7],ec 10 [12]])]⟩
def DR:Hint:=⟨[hc 2 [0,3]],[],[(4,hs 25 [ec 13 [22]])]⟩
def Eu:Hint:=⟨[],[],[(2,hs 15 [ec 3 [15],ec 11 [23]]),(4,[en 0,en 1,en 2,en 3,en 4,ec 5 [32],en 6,en 7,en 8,en 9,en 10,en 11,en 12,en 13,ec 14 [41],en 15,en 16,en 17]),(12,hs 9 [ec 6 [57]])]⟩
def Av:Hint:=⟨[hc 2 [1,3]],[],[(4,hs 7 [ec 5 [15]]),(6,[en 0,ec 1 [18],en 2,en 3,en 4,en 5,en 6,ec 7 [24],en 8,en 9,en 10])]⟩
def Ev:Hint:=⟨[hc 4 [1,2,5]],[],[(6,[en 0,en 1,en 2,en 3,en 4,en 5,en 6,ec 7 [21],ec 8 [20],en 9])]⟩
def Es:Hint:=⟨[],[],[(1,hs 8 [ec 1 [5],ec 5 [8]])]⟩
def BA:Hint:=⟨[hc 2 [0,1,5]],[],[]⟩
def sf:Hint:=⟨[hc 3 [1,2,3,4]],[],[(5,[en 0,en 1,en 2,en 3,en 4,en 5,en 6,ec 7 [21],en 8,eh 9,en 10,eh 11])]⟩
def KI:Hint:=⟨[],[],[(1,[en 0,en 2,ec 1 [5],ec 3 [7],en 4,en 5,eh 6])]⟩
def rL:Hint:=⟨[hc 4 [2,3,5]],[],[(6,[en 0,en 1,en 2,en 3,en 4,en 5,en 6,en 7,en 8,en 9,ec 10 [31,36],en 11])]⟩
def IX:Hint:=⟨[],[],[(3,[en 0,en 1,en 2,en 3,en 4,en 5,en 7,en 8,en 9,en 10,en 11,en 16,ec 6 [26],ec 12 [32],en 13,en 14,en 15,eh 17,en 18]),(4,hs 7 [ec 3 [38,39]]),(6,hs 13 [ec 6 [49]]),(9,[en 0,en 1,en 2,en 3,en 4,en 6,en 7,en 8,en 9,en 10,en 15,ec 5 [61],ec 11 [67],en 12,en 13,en 14,eh 16,en 17]),(11,hs 7 [ec 4 [75,77]]),(12,[en 0,en 1,en 2,en 3,en 4,en 6,en 7,en 8,en 9,en 10,en 12,en 13,en 14,en 15,en 16,en 21,ec 5 [83],ec 11 [89],ec 17 [95],en 18,en 19,en 20,eh 22,en 23]),(13,[en 0,en 1,en 2,en 3,en 4,en 5,ec 6 [103,105],en 7,eh 8,en 9])]⟩
def AD:Hint:=⟨[hc 3 [0,1,5,6] [(5,94,4)]],[],[(5,hs 26 [ec 5 [18]]),(6,[en 0,en 1,en 2,en 3,en 4,en 5,en 6,en 7,en 8,en 9,en 10,en 12,en 13,en 14,en 15,en 16,ec 11 [50],en 17,en 18,eh 19,eh 20])]⟩
def IQ:Hint:=⟨[],[],[(1,hs 5 [ec 1 [3]])]⟩
def Gg:Hint:=⟨[],[],[(3,[en 0,en 1,en 2,en 3,en 4,en 5,en 6,en 12,ec 7 [22],ec 8 [21],en 9,en 10,en 11,eh 13,en 14]),(7,hs 4 [ec 1 [36]]),(9,[en 0,en 2,ec 1 [42],ec 3 [44],eh 4,en 5]),(11,hs 7 [ec 4 [53]])]⟩
def Ew:Hint:=⟨[hc 5 [0,1,4,6,7]],[],[]⟩
def IY:Hint:=⟨[],[],[(6,[en 0,en 1,en 2,en 3,en 4,en 5,en 6,en 7,en 8,en 9,en 10,en 11,en 12,en 13,en 14,ec 15 [34,37],en 16,eh 17,en 18]),(7,[en 0,en 1,en 2,en 3,en 4,en 5,en 6,en 7,en 8,en 9,en 10,en 11,en 12,en 13,en 14,ec 15 [51,54],en 16]),(8,hs 9 [ec 6 [62]])]⟩
def BB:Hint:=⟨[hc 24 [0,2,4,6,13,14] [(13,32,2)]],[],[(6,hs 8 [ec 5 [43]]),(14,hs 10 [ec 3 [57]]),(20,hs 10 [ec 3 [71]]),(26,hs 14 [ec 7 [92]]),(30,hs 9 [ec 2 [105]])]⟩
def IZ:Hint:=⟨[],[],[(1,hs 10 [ec 3 [12]]),(2,hs 7 [ec 4 [20]])]⟩
def qIo:Hint:=⟨[],[],[(1,hs 9 [ec 6 [14]]),(3,hs 10 [ec 3 [22]])]⟩
def xK (Q:QT [.bool])(N0:Nat)(I:ByteArray)(J:Int)(N:Nat):Prop:=AT prog 87 [.bool] Q N0 .ord (zF prog 87 2) ⟨.str I::an 2 (.int .i64 J::an 58 []),[],N,none⟩
def wr (Q:QT [.int .i64])(N0:Nat)(n1 I:Int)(J:D)(N:Nat):Prop:=AT prog 97 [.int .i64] Q N0 .ord (zF prog 97 3) ⟨an 1 (.int .i64 n1::.pb 0 0 0 0::an 2 (.int .i64 I::an 21 [])),[.vd J 2],N,none⟩
def xG (Q:QT [.int .i64])(N0:Nat)(I n4:Int)(J:D)(N:Nat):Prop:=AT prog 98 [.int .i64] Q N0 .ord (zF prog 98 3) ⟨an 1 (.pb 0 0 0 0::an 1 (.int .i64 I::.int .i64 n4::an 17 [])),[.vd J 2],N,none⟩
def wq (Q:QT [.bool])(N0:Nat)(I:Int)(J:D)(N:Nat):Prop:=AT prog 99 [.bool] Q N0 .ord (zF prog 99 2) ⟨an 1 (.pb 0 0 0 0::an 1 (.int .i64 I::an 35 [])),[.vd J 2],N,none⟩
def vi (Q:QT [.bool])(N0:Nat)(a0:Option Addr)(e0:List D)(c0:Nat)(I:Int)(N:Nat):Prop:=AT prog 41 [.bool] Q N0 .ord (zF prog 41 2) ⟨.sv a0 4 e0 c0::an 2 (.int .i64 I::an 34 []),[],N,none⟩
def wl (Q:QT [.bool])(N0:Nat)(I:Int)(J:D)(N:Nat):Prop:=AT prog 51 [.bool] Q N0 .ord (zF prog 51 2) ⟨an 1 (.pb 0 0 0 0::an 1 (.int .i64 I::an 24 [])),[.vd J 9],N,none⟩
def uT (Q:QT [.bool])(N0:Nat)(n1 I:Int)(J:D)(N:Nat):Prop:=AT prog 88 [.bool] Q N0 .ord (zF prog 88 4) ⟨an 1 (.int .i64 n1::.pb 0 0 0 0::an 2 (.int .i64 I::an 20 [])),[.vd J 9],N,none⟩
def ww (Q:QT [.int .i64])(N0:Nat)(a0:Option Addr)(e0:List D)(c0:Nat)(I:ByteArray)(J:Int)(N:Nat):Prop:=AT prog 152 [.int .i64] Q N0 .ord (zF prog 152 2) ⟨.sv a0 4 e0 c0::.str I::an 3 (.int .i64 J::an 15 []),[],N,none⟩
def ui (Q:QT [.ag 2])(N0:Nat)(n4:Int)(y0:D)(I:Int)(J:Option Addr)(O:List D)(U:Nat)(Y:Int)(aa:Option Addr)(ab:List D)(ac:Nat)(N:Nat):Prop:=AT prog 90 [.ag 2] Q N0 .ord (zF prog 90 3) ⟨an 1 (.pb 0 0 0 0::.pb 1 0 0 0::.pb 2 0 0 0::.int .i64 n4::an 22 []),[.vd y0 2,.var [.int .i64 I,.sv J 2 O U],.var [.int .i64 Y,.sv aa 2 ab ac]],N,none⟩
def yv (Q:QT [.bool])(N0:Nat)(I:Int)(J O:D)(N:Nat):Prop:=AT prog 199 [.bool] Q N0 .ord (zF prog 199 4) ⟨an 2 (.pb 0 0 0 0::.pb 1 0 0 0::an 1 (.int .i64 I::an 33 [])),[.vd J 2,.vd O 2],N,none⟩
def yO (Q:QT [.sl 4])(N0:Nat)(a0:Option Addr)(e0:List D)(c0:Nat)(n1:Int)(I c5:Nat)(J:Int)(r0:List D)(O:Nat)(N:Nat):Prop:=AT prog 203 [.sl 4] Q N0 .ord (zF prog 203 3) ⟨.sv a0 4 e0 c0::.int .i64 n1::an 3 (.sb 0 4 0 I c5::.int .i64 J::an 54 []),[.arr 94 4 r0 O],N,none⟩
def yx (Q:QT [.ag 2,.bool])(N0:Nat)(Y:ByteArray)(a1:Option Addr)(e1:List D)(c1:Nat)(n6 n7 I:Int)(J:Option Addr)(O:List D)(U:Nat)(N:Nat):Prop:=AT prog 206 [.ag 2,.bool] Q N0 .ord (zF prog 206 5) ⟨.str Y::.sv a1 2 e1 c1::an 2 (.pb 0 0 0 0::an 1 (.int .i64 n6::.int .i64 n7::an 36 [])),[.var [.int .i64 I,.sv J 2 O U]],N,none⟩
def xV (Q:QT [.ag 2,.bool])(N0:Nat)(a0:Option Addr)(e0:List D)(c0:Nat)(n2:Int)(Y aa:Nat)(ab:Int)(y0:D)(I:Int)(J:Option Addr)(O:List D)(U:Nat)(r2:List D)(q2:Nat)(N:Nat):Prop:=AT prog 89 [.ag 2,.bool] Q N0 .ord (zF prog 89 24) ⟨.sv a0 4 e0 c0::an 1 (.int .i64 n2::an 1 (.pb 0 0 0 0::an 1 (.pb 1 0 0 0::an 6 (.sb 2 2 0 Y aa::.int .i64 ab::an 97 [])))),[.vd y0 9,.var [.int .i64 I,.sv J 2 O U],.arr 32 2 r2 q2],N,none⟩
def xe (Q:QT [.ag 2])(N0:Nat)(n4:Int)(y0:D)(I:Int)(J:Option Addr)(O:List D)(U:Nat)(Y:Int)(aa ab:Nat)(r3:List D)(q3:Nat)(N:Nat):Prop:=AT prog 90 [.ag 2] Q N0 .ord (zF prog 90 3) ⟨an 1 (.pb 0 0 0 0::.pb 1 0 0 0::.pb 2 0 0 0::.int .i64 n4::an 22 []),[.vd y0 2,.var [.int .i64 I,.sv J 2 O U],.var [.int .i64 Y,.sb 3 2 0 aa ab],.arr 32 2 r3 q3],N,none⟩
theorem Mv (N:Nat) (n0 n1 n2:Int) (Q:QT [.bool]) (h :
Br (decide (n0≥n1)) (uP N (Q (decide (n0<=n2)))) (uP N (Q false))):ACalls prog 44 [.bool] [PV.int .i64 n0,PV.int .i64 n1,PV.int .i64 n2] N Q:=
 eE H0 h
theorem Jk (N:Nat) (I:ByteArray) (Q:QT [.bool]) (h :
xK Q N I 0 N):ACalls prog 87 [.bool] [PV.str I] N Q:=
 eE Au h
theorem Jw (N:Nat) (I:D) (n1:Int) (Q:QT [.int .i64]) (h :
Bel N I->wr Q N (IntKind.i64.wrap (n1 - 1)) 0 I N):ACalls prog 97 [.int .i64] [PV.dg 2 I,PV.int .i64 n1] N Q:=
 eE A2 h
theorem Le (N:Nat) (n0 n1:Int) (Q:QT [.int .i64]) (h :
Br (decide (n0>n1)) (uP N (Q n0)) (uP N (Q n1))):ACalls prog 150 [.int .i64] [PV.int .i64 n0,PV.int .i64 n1] N Q:=
 eE H0 h
theorem CC (N:Nat) (I:D) (Q:QT [.int .i64]) (h :
Bel N I->xG Q N 0 0 I N):ACalls prog 98 [.int .i64] [PV.dg 2 I] N Q:=
 eE tO h
theorem Jv (N:Nat) (I:D) (Q:QT [.bool]) (h :
Bel N I->wq Q N 0 I N):ACalls prog 99 [.bool] [PV.dg 2 I] N Q:=
 eE A1 h
theorem CF (N:Nat) (I:D) (Q:QT [.bool]) (h :
Bel N I->kI 97 [.dg 2 I,.j 30] N (λn a=>Br (decide (n≥0)) (kI 98 [.dg 2 I] a (λa c=>Br (decide (a<=8)) (kB 99 [.dg 2 I] c (λb
 a=>uP a (Q b))) (uP c (Q false)))) (uP a (Q false)))):ACalls prog 49 [.bool] [PV.dg 2 I] N Q:=
  eE Ax h
theorem La (N:Nat) (a0:Option Addr) (e0:List D) (c0:Nat) (Q:QT [.bool]) (h :
Bel N (D.sl a0 4 e0 c0)->vi Q N a0 e0 c0 0 N):ACalls prog 41 [.bool] [PV.sv a0 4 e0 c0] N Q:=
 eE DR h
theorem Jz (N:Nat) (I:D) (Q:QT [.bool]) (h :
Bel N I->∃ n:Int,(I.cell 0)=D.j n/\Br (n==0) (∃ a b,∃ c:Nat,(I.cell 1)=D.sl a 2 b c/\uP N (Q ((b.length:Int)==0))) (uP N (Q
 false))):ACalls prog 159 [.bool] [PV.dg 2 I] N Q:=
  eE H0 h
theorem HJ (N:Nat) (I:ByteArray) (Q:QT [.int .i64]) (h :
Br (ByteArray.toList I==ByteArray.toList (bytes [43])) (uP N (Q 2)) (Br (ByteArray.toList I==ByteArray.toList (bytes [45])) (uP N (Q 2)) (Br
 (ByteArray.toList I==ByteArray.toList (bytes [42])) (uP N (Q 2)) (Br (ByteArray.toList I==ByteArray.toList (bytes [61])) (uP N (Q 2)) (Br
 (ByteArray.toList I==ByteArray.toList (bytes [60])) (uP N (Q 2)) (Br (ByteArray.toList I==ByteArray.toList (bytes [38])) (uP N (Q 2)) (Br
 (ByteArray.toList I==ByteArray.toList (bytes [124])) (uP N (Q 2)) (Br (ByteArray.toList I==ByteArray.toList (bytes [33])) (uP N (Q 1)) (uP N (Q
 0)))))))))):ACalls prog 161 [.int .i64] [PV.str I] N Q:=
  eE H0 h
theorem HR (N:Nat) (x0:D) (Q:QT [.bool]) (h :
Bel N x0->∃ n:Int,(x0.cell 0)=D.j n/\Br (n==4) (∃ s,(x0.cell 1)=D.t s/\kI 161 [.str s] N (fun a b=>Br (decide (a>0)) (∃ a,(x0.cell
 2)=D.t a/\uP b (Q (ByteArray.toList a==ByteArray.toList b0))) (uP b (Q false)))) (Br (n==1) (∃ a,(x0.cell 1)=D.t a/\kB 87 [.str a] N (fun
 b a=>Br b (∃ b,(x0.cell 2)=D.t b/\uP a (Q (ByteArray.toList b==ByteArray.toList b0))) (uP a (Q false)))) (Br (n==6) (∃ a,(x0.cell 1)=D.t
 a/\kB 87 [.str a] N (fun a b=>Br a (∃ a,(x0.cell 2)=D.t a/\uP b (Q (ByteArray.toList a==ByteArray.toList b0))) (uP b (Q false))))
 (Br (n==8) (∃ a,(x0.cell 1)=D.t a/\kB 87 [.str a] N (fun a b=>Br a (∃ a,(x0.cell 2)=D.t a/\uP b (Q (ByteArray.toList a ==
 ByteArray.toList b0))) (uP b (Q false)))) (Br (n==9) (∃ a,(x0.cell 1)=D.t a/\kB 87 [.str a] N (fun a b=>Br a (∃ a,(x0.cell 2)=D.t a
 /\ kB 87 [.str a] b (fun a b=>Br a (∃ a,(x0.cell 1)=D.t a/\∃ c,(x0.cell 2)=D.t c/\uP b (Q (!(ByteArray.toList a ==
 ByteArray.toList c)))) (uP b (Q false)))) (uP b (Q false)))) (∃ a,(x0.cell 1)=D.t a/\Br (ByteArray.toList a==ByteArray.toList b0) (∃ a,
 (x0.cell 2)=D.t a/\uP N (Q (ByteArray.toList a==ByteArray.toList b0))) (uP N (Q false)))))))):ACalls prog 160 [.bool] [PV.dg 9 x0] N Q:=
  eE H0 h
theorem GT (N:Nat) (I:D) (Q:QT [.bool]) (h :
Bel N I->∃ n:Int,(I.cell 0)=D.j n/\Br (n==6) (kB 49 [.dg 2 (D.sub I 4 2)] N (λb a=>Br (!(true==b)) (uP a (Q false)) (∃ b:Int,
 (I.cell 0)=D.j b/\kB 49 [.dg 2 (D.sub I 6 2)] a (λa c=>Br (!((b==9)==a)) (uP c (Q false)) (∃ a:Int,(I.cell 0)=D.j a/\Br (bne
 a 9) (kB 159 [.dg 2 (D.sub I 6 2)] c (λa b=>Br (!a) (uP b (Q false)) (∃ a:Int,(I.cell 0)=D.j a/\Br (a==2) (∃ a:Int,(I.cell
 3)=D.j a/\kB 44 [.j a,.j 0,.j 10006] b (λa b=>Br a (kB 160 [.dg 9 I] b (λa b=>uP b (Q a))) (uP b (Q false)))) (Br (a ==
 3) (∃ a:Int,(I.cell 3)=D.j a/\kB 44 [.j a,.j 0,.j 1] b (λa b=>Br a (kB 160 [.dg 9 I] b (λa b=>uP b (Q a))) (uP b (Q
 false)))) (∃ a:Int,(I.cell 3)=D.j a/\kB 44 [.j a,.j 0,.j 0] b (λa b=>Br a (kB 160 [.dg 9 I] b (λa b=>uP b (Q a))) (uP
 b (Q false)))))))) (∃ a:Int,(I.cell 0)=D.j a/\Br (a==2) (∃ a:Int,(I.cell 3)=D.j a/\kB 44 [.j a,.j 0,.j 10006] c (λa b=>
 Br a (kB 160 [.dg 9 I] b (λa b=>uP b (Q a))) (uP b (Q false)))) (Br (a==3) (∃ a:Int,(I.cell 3)=D.j a/\kB 44 [.j a,.j 0,
 .j 1] c (λa b=>Br a (kB 160 [.dg 9 I] b (λa b=>uP b (Q a))) (uP b (Q false)))) (∃ a:Int,(I.cell 3)=D.j a/\kB 44
 [.j a,.j 0,.j 0] c (λa b=>Br a (kB 160 [.dg 9 I] b (λa b=>uP b (Q a))) (uP b (Q false))))))))))) (∃ a:Int,(I.cell
 0)=D.j a/\kB 49 [.dg 2 (D.sub I 4 2)] N (λb c=>Br (!((a==9)==b)) (uP c (Q false)) (Br (!(a==9)) (kB 159 [.dg 2 (D.sub I 4 2)]
 c (λa b=>Br (!a) (uP b (Q false)) (∃ a:Int,(I.cell 0)=D.j a/\kB 49 [.dg 2 (D.sub I 6 2)] b (λb c=>Br (!((a==9)
 == b)) (uP c (Q false)) (∃ a:Int,(I.cell 0)=D.j a/\Br (bne a 9) (kB 159 [.dg 2 (D.sub I 6 2)] c (λa b=>Br (!a) (uP b (Q
 false)) (∃ a:Int,(I.cell 0)=D.j a/\Br (a==2) (∃ a:Int,(I.cell 3)=D.j a/\kB 44 [.j a,.j 0,.j 10006] b (λa b=>Br
 a (kB 160 [.dg 9 I] b (λa b=>uP b (Q a))) (uP b (Q false)))) (Br (a==3) (∃ a:Int,(I.cell 3)=D.j a/\kB 44 [.j a,.j
 0,.j 1] b (λa b=>Br a (kB 160 [.dg 9 I] b (λa b=>uP b (Q a))) (uP b (Q false)))) (∃ a:Int,(I.cell 3)=D.j a/\kB
 44 [.j a,.j 0,.j 0] b (λa b=>Br a (kB 160 [.dg 9 I] b (λa b=>uP b (Q a))) (uP b (Q false)))))))) (∃ a:Int,(I.cell
 0)=D.j a/\Br (a==2) (∃ a:Int,(I.cell 3)=D.j a/\kB 44 [.j a,.j 0,.j 10006] c (λa b=>Br a (kB 160 [.dg 9 I] b (fun
 a b=>uP b (Q a))) (uP b (Q false)))) (Br (a==3) (∃ a:Int,(I.cell 3)=D.j a/\kB 44 [.j a,.j 0,.j 1] c (λa b=>Br
 a (kB 160 [.dg 9 I] b (λa b=>uP b (Q a))) (uP b (Q false)))) (∃ a:Int,(I.cell 3)=D.j a/\kB 44 [.j a,.j 0,.j 0] c (fun
 a b=>Br a (kB 160 [.dg 9 I] b (λa b=>uP b (Q a))) (uP b (Q false))))))))))) (∃ a:Int,(I.cell 0)=D.j a/\kB 49 [.dg 2
 (D.sub I 6 2)] c (λb c=>Br (!((a==9)==b)) (uP c (Q false)) (∃ a:Int,(I.cell 0)=D.j a/\Br (bne a 9) (kB 159 [.dg 2
 (D.sub I 6 2)] c (λa b=>Br (!a) (uP b (Q false)) (∃ a:Int,(I.cell 0)=D.j a/\Br (a==2) (∃ a:Int,(I.cell 3)=D.j a
 /\ kB 44 [.j a,.j 0,.j 10006] b (λa b=>Br a (kB 160 [.dg 9 I] b (λa b=>uP b (Q a))) (uP b (Q false)))) (Br (a ==
 3) (∃ a:Int,(I.cell 3)=D.j a/\kB 44 [.j a,.j 0,.j 1] b (λa b=>Br a (kB 160 [.dg 9 I] b (λa b=>uP b (Q
 a))) (uP b (Q false)))) (∃ a:Int,(I.cell 3)=D.j a/\kB 44 [.j a,.j 0,.j 0] b (λa b=>Br a (kB 160 [.dg 9 I] b (fun
 a b=>uP b (Q a))) (uP b (Q false)))))))) (∃ a:Int,(I.cell 0)=D.j a/\Br (a==2) (∃ a:Int,(I.cell 3)=D.j a/\kB 44
 [.j a,.j 0,.j 10006] c (λa b=>Br a (kB 160 [.dg 9 I] b (λa b=>uP b (Q a))) (uP b (Q false)))) (Br (a==3) (∃
 a:Int,(I.cell 3)=D.j a/\kB 44 [.j a,.j 0,.j 1] c (λa b=>Br a (kB 160 [.dg 9 I] b (λa b=>uP b (Q a))) (uP
 b (Q false)))) (∃ a:Int,(I.cell 3)=D.j a/\kB 44 [.j a,.j 0,.j 0] c (λa b=>Br a (kB 160 [.dg 9 I] b (λa b=>uP
 b (Q a))) (uP b (Q false)))))))))))) ):ACalls prog 100 [.bool] [PV.dg 9 I] N Q:=
  eE Eu h
theorem HQ (N:Nat) (x0:D) (Q:QT [.int .i64]) (h :
Bel N x0->∃ n:Int,(x0.cell 0)=D.j n/\Br (n==1) (uP N (Q 0)) (Br (n==2) (uP N (Q 0)) (Br (n==3) (uP N (Q 0)) (Br (n==4) (∃ s,(x0.cell 1) =
 D.t s/\kI 161 [.str s] N (fun a b=>uP b (Q a))) (Br (n==6) (uP N (Q 1)) (Br (n==9) (uP N (Q 1)) (Br (n==10) (uP N (Q 1)) (Br (n==11) (uP N (Q
 1)) (Br (n==12) (uP N (Q 1)) (Br (n==13) (uP N (Q 1)) (Br (n==7) (uP N (Q 2)) (Br (n==8) (uP N (Q 2)) (Br (n==5) (uP N (Q 3)) (uP N (Q
 (-1)))))))))))))))):ACalls prog 101 [.int .i64] [PV.dg 9 x0] N Q:=
  eE H0 h
theorem Jl (N:Nat) (I:D) (Q:QT [.bool]) (h :
Bel N I->wl Q N 0 I N):ACalls prog 51 [.bool] [PV.dg 9 I] N Q:=
 eE Av h
theorem CK (N:Nat) (x0:D) (n1:Int) (Q:QT [.int .i64]) (h :
Bel N x0->∃ n:Int,(x0.cell 0)=D.j n/\Br (n==10) (uP N (Q (IntKind.i64.wrap (n1+1)))) (Br (n==11) (uP N (Q (IntKind.i64.wrap (n1 - 1)))) (uP N
 (Q n1)))):ACalls prog 151 [.int .i64] [PV.dg 9 x0,PV.int .i64 n1] N Q:=
  eE H0 h
theorem Mw (N:Nat) (I:D) (n1:Int) (Q:QT [.bool]) (h :
Bel N I->kB 44 [.j n1,.j 0,.j 2] N (λb a=>Br (!b) (uP a (Q false)) (uT Q N n1 0 I a))):ACalls prog 88 [.bool] [PV.dg 9 I,PV.int .i64 n1] N Q:=
 eE Ev h
theorem GR (N:Nat) (I:D) (n1:Int) (Q:QT [.bool]) (h :
Bel N I->kB 51 [.dg 9 I] N (λb a=>Br b (kB 88 [.dg 9 I,.j n1] a (λa b=>uP b (Q a))) (uP a (Q false)))):ACalls prog 42 [.bool] [PV.dg 9 I,PV.int .i64 n1] N Q:=
 eE Es h
theorem J4 (N:Nat) (a0:Option Addr) (e0:List D) (c0:Nat) (I:ByteArray) (Q:QT [.int .i64]) (h :
Bel N (D.sl a0 4 e0 c0)->ww Q N a0 e0 c0 I (IntKind.i64.wrap ((e0.length:Int) - 1)) N):ACalls prog 152 [.int .i64] [PV.sv a0 4 e0 c0,PV.str I] N Q:=
 eE BA h
theorem Ju (N:Nat) (I:D) (Q:QT [.ag 2]) (h :
Bel N I->∃ n:Int,(I.cell 0)=D.j n/\ui Q N 0 I 0 none [] 0 n none [] 0 N):ACalls prog 90 [.ag 2] [PV.dg 2 I] N Q:=
 eE sf h
theorem Lh (N:Nat)  (Q:QT [.ag 2]) (h :
uP N (Q (D.ag [D.j 1,D.sl none 2 [] 0]))):ACalls prog 69 [.ag 2] [] N Q:=
 eE H0 h
theorem Js (N:Nat)  (Q:QT [.ag 2]) (h :
uP N (Q (D.ag [D.j 2,D.sl none 2 [] 0]))):ACalls prog 70 [.ag 2] [] N Q:=
 eE H0 h
theorem J7 (N:Nat) (a0:Option Addr) (e0:List D) (c0:Nat) (J:ByteArray) (I:D) (O:Int) (Q:QT [.sl 4]) (h :
Bel N (D.sl a0 4 e0 c0)->Bel N I->(0=0/\0=0)/\zB [] e0 56/\∀(c:Nat),(([]++e0).length=([]++e0).length/\c=c)/\zB ([]++e0)
 [D.ag [D.t J,(I.cell 0),(I.cell 1),D.j O]] 56/\∀(b:Nat),w2 (([]++e0++[D.ag [D.t J,(I.cell 0),(I.cell 1),D.j O]]).length=([]++e0 ++
 [D.ag [D.t J,(I.cell 0),(I.cell 1),D.j O]]).length/\b=b) (∀ a c,N<=c->Fresh N c a [D.ag ([]++e0++[D.ag [D.t J,(I.cell 0),(I.cell
 1),D.j O]])]->uP c (Q a ([]++e0++[D.ag [D.t J,(I.cell 0),(I.cell 1),D.j O]]) b))):ACalls prog 139 [.sl 4] [PV.sv a0 4 e0 c0,PV.str J,PV.dg 2 I,PV.int .i64 O] N Q:=
  eE H0 h
theorem Lg (N:Nat) (I J:D) (Q:QT [.ag 2]) (h :
Bel N I->Bel N J->kA 2 90 [.dg 2 I] N (λx b=>kA 2 90 [.dg 2 J] b (λb c=>w3 (2=([x,b]).length/\2=2) (∀ a d,c<=d->Fresh N
 d a [D.ag [x,b]]->uP d (Q (D.ag [D.j 3,D.sl a 2 [x,b] 2])))))):ACalls prog 72 [.ag 2] [PV.dg 2 I,PV.dg 2 J] N Q:=
  eE KI h
theorem EI (N:Nat) (x0 x1:D) (Q:QT [.bool]) (h :
Bel N x0->Bel N x1->∃ n:Int,(x0.cell 0)=D.j n/\∃ b:Int,(x1.cell 0)=D.j b/\Br (bne n b) (uP N (Q false)) (∃ a b,∃ c:Nat,(x0.cell 1)
 = D.sl a 2 b c/\∃ a c,∃ d:Nat,(x1.cell 1)=D.sl a 2 c d/\Br (bne (b.length:Int) (c.length:Int)) (uP N (Q false))
 (yv Q N 0 x0 x1 N))):ACalls prog 199 [.bool] [PV.dg 2 x0,PV.dg 2 x1] N Q:=
  eE rL h
theorem rJ (N:Nat) (a0:Option Addr) (e0:List D) (c0:Nat) (x1:D) (n2:Int) (Q:QT [.ag 2,.bool]) (h :
Bel N (D.sl a0 4 e0 c0)->Bel N x1->∃ n:Int,(x1.cell 0)=D.j n/\Br (n==6) (∃ s,(x1.cell 1)=D.t s/\∃ a d,∃ c:Nat,(x1.cell 8)=D.sl a 9 d
 c/\((0:Int)<=(0:Int)/\0<(d.length:Int))/\kL 4 139 [.sv a0 4 e0 c0,.str s,.dg 2 (D.sub x1 4 2),.j n2] N (fun a c e f=>kAB 2 43 [.sv a
 4 c e,.dg 9 (List.getD d 0 default),.j n2] f (fun x b a=>kA 2 72 [.dg 2 (D.sub x1 4 2),.dg 2 x] a (fun a c=>uP c (Q a b))))) (Br (n==8)
 (∃ a b,∃ c:Nat,(x1.cell 8)=D.sl a 9 b c/\((0:Int)<=(0:Int)/\0<(b.length:Int))/\kAB 2 43 [.sv a0 4 e0 c0,.dg 9 (List.getD
 b 0 default),.j n2] N (fun a b c=>Br (!b) (uP c (Q (D.ag [D.j 0,D.sl none 2 [] 0]) false)) (∃ b,(x1.cell 1)=D.t b/\∃ d e,∃ f :
 Nat,(x1.cell 8)=D.sl d 9 e f/\((0:Int)<=(1:Int)/\1<(e.length:Int))/\kL 4 139 [.sv a0 4 e0 c0,.str b,.dg 2 a,.j n2] c (fun a
 b c d=>kAB 2 43 [.sv a 4 b c,.dg 9 (List.getD e 1 default),.j n2] d (fun a b c=>uP c (Q a b)))))) (kA 2 72 [.dg 2 (D.sub x1
 4 2),.dg 2 (D.sub x1 6 2)] N (fun a b=>∃ c,(x1.cell 1)=D.t c/\∃ d,(x1.cell 2)=D.t d/\∃ e f,∃ g:Nat,(x1.cell 8)=D.sl e 9
 f g/\((0:Int)<=(0:Int)/\0<(f.length:Int))/\kL 4 139 [.sv a0 4 e0 c0,.str c,.dg 2 a,.j n2] b (fun b c e g=>kL 4 139 [.sv
 b 4 c e,.str d,.dg 2 (D.sub x1 4 2),.j n2] g (fun b c d e=>kAB 2 43 [.sv b 4 c d,.dg 9 (List.getD f 0 default),.j n2] e
 (fun b c d=>Br c (kB 199 [.dg 2 b,.dg 2 (D.sub x1 6 2)] d (fun b c=>uP c (Q a b))) (uP d (Q a false))))))))):ACalls prog 153 [.ag 2,.bool] [PV.sv a0 4 e0 c0,PV.dg 9 x1,PV.int .i64 n2] N Q:=
  eE IX h
theorem Jj (N:Nat) (x0:D) (Q:QT [.bool]) (h :
Bel N x0->∃ n:Int,(x0.cell 0)=D.j n/\Br (n==1) (∃ a b,∃ c:Nat,(x0.cell 1)=D.sl a 2 b c/\uP N (Q ((b.length:Int)==0))) (∃ a:Int,
 (x0.cell 0)=D.j a/\Br (a==2) (∃ a b,∃ c:Nat,(x0.cell 1)=D.sl a 2 b c/\uP N (Q ((b.length:Int)==0))) (uP N (Q false)))):ACalls prog 140 [.bool] [PV.dg 2 x0] N Q:=
  eE H0 h
theorem HM (N:Nat) (a0:Option Addr) (e0:List D) (c0:Nat) (n1:Int) (Q:QT [.sl 4]) (h :
Bel N (D.sl a0 4 e0 c0)->yO Q N a0 e0 c0 n1 0 0 0 [] 0 N):ACalls prog 203 [.sl 4] [PV.sv a0 4 e0 c0,PV.int .i64 n1] N Q:=
 eE AD h
theorem Jt (N:Nat) (I:D) (Q:QT [.ag 2]) (h :
Bel N I->kA 2 90 [.dg 2 I] N (λx b=>w3 (1=([x]).length/\1=1) (∀ a c,b<=c->Fresh N c a [D.ag [x]]->uP c (Q (D.ag [D.j 4,D.sl a 2 [x]
 1]))))):ACalls prog 71 [.ag 2] [PV.dg 2 I] N Q:=
  eE IQ h
theorem HU (N:Nat) (a0:Option Addr) (e0:List D) (c0:Nat) (I:D) (n2:Int) (Q:QT [.ag 2,.bool]) (h :
Bel N (D.sl a0 4 e0 c0)->Bel N I->∃ n:Int,(I.cell 0)=D.j n/\Br (n==12) (kL 4 203 [.sv a0 4 e0 c0,.j n2] N (λa c d e=>∃ f g,∃ h
 : Nat,(I.cell 8)=D.sl f 9 g h/\((0:Int)<=(0:Int)/\0<(g.length:Int))/\kI 151 [.dg 9 I,.j n2] e (λe f=>kAB 2 43 [.sv a 4 c
 d,.dg 9 (List.getD g 0 default),.j e] f (λx b a=>Br (!b) (uP a (Q (D.ag [D.j 0,D.sl none 2 [] 0]) false)) (∃ b:Int,(I.cell 0)=D.j b /\
 Br (b==10) (kA 2 71 [.dg 2 x] a (λa b=>uP b (Q a true))) (∃ b:Int,(I.cell 0)=D.j b/\Br (b==13) (kA 2 71 [.dg 2 x] a (λa b
 => kB 140 [.dg 2 x] b (λb c=>uP c (Q a b)))) (∃ b:Int,(x.cell 0)=D.j b/\Br (b==4) (∃ b c,∃ d:Nat,(x.cell 1)=D.sl b
 2 c d/\((0:Int)<=(0:Int)/\0<(c.length:Int))/\kA 2 90 [.dg 2 (List.getD c 0 default)] a (λa b=>uP b (Q a true))) (uP a (Q
 (D.ag [D.j 0,D.sl none 2 [] 0]) false))))))))) (∃ a b,∃ c:Nat,(I.cell 8)=D.sl a 9 b c/\((0:Int)<=(0:Int)/\0<(b.length:Int))
 /\ kI 151 [.dg 9 I,.j n2] N (λa c=>kAB 2 43 [.sv a0 4 e0 c0,.dg 9 (List.getD b 0 default),.j a] c (λa b c=>Br (!b) (uP c (Q
 (D.ag [D.j 0,D.sl none 2 [] 0]) false)) (∃ b:Int,(I.cell 0)=D.j b/\Br (b==10) (kA 2 71 [.dg 2 a] c (λa b=>uP b (Q a true))) (∃
 b:Int,(I.cell 0)=D.j b/\Br (b==13) (kA 2 71 [.dg 2 a] c (λb c=>kB 140 [.dg 2 a] c (λa c=>uP c (Q b a)))) (∃ b :
 Int,(a.cell 0)=D.j b/\Br (b==4) (∃ b d,∃ e:Nat,(a.cell 1)=D.sl b 2 d e/\((0:Int)<=(0:Int)/\0<(d.length:Int)) /\
 kA 2 90 [.dg 2 (List.getD d 0 default)] c (λa b=>uP b (Q a true))) (uP c (Q (D.ag [D.j 0,D.sl none 2 [] 0]) false))))))))):ACalls prog 154 [.ag 2,.bool] [PV.sv a0 4 e0 c0,PV.dg 9 I,PV.int .i64 n2] N Q:=
  eE Gg h
theorem Mx (N:Nat) (s0:ByteArray) (a1:Option Addr) (e1:List D) (c1:Nat) (Q:QT [.ag 2,.bool]) (h :
Bel N (D.sl a1 2 e1 c1)->Br (ByteArray.toList s0==ByteArray.toList (bytes [38])) (yx Q N s0 a1 e1 c1 2 0 0 none [] 0 N) (Br (ByteArray.toList
 s0==ByteArray.toList (bytes [124])) (yx Q N s0 a1 e1 c1 2 0 0 none [] 0 N) (Br (ByteArray.toList s0==ByteArray.toList (bytes [33]))
 (yx Q N s0 a1 e1 c1 2 0 0 none [] 0 N) (yx Q N s0 a1 e1 c1 1 0 0 none [] 0 N)))):ACalls prog 206 [.ag 2,.bool] [PV.str s0,PV.sv a1 2 e1 c1] N Q:=
  eE Ew h
theorem J3 (N:Nat) (I:D) (a1:Option Addr) (e1:List D) (c1:Nat) (Q:QT [.ag 2,.bool]) (h :
Bel N I->Bel N (D.sl a1 2 e1 c1)->∃ n:Int,(I.cell 0)=D.j n/\Br (n==4) (∃ s,(I.cell 1)=D.t s/\kAB 2 206 [.str s,.sv a1 2 e1 c1] N (λx b
 a=>uP a (Q x b))) (Br (n==5) (((0:Int)<=(1:Int)/\1<(e1.length:Int))/\((0:Int)<=(0:Int)/\0<(e1.length:Int))/\∃ a:Int,(if 0=0
 then D.cell (List.getD e1 0 default) 0 else D.sub (List.getD e1 0 default) 0 0)=D.j a/\Br (a==2) (((0:Int)<=(1:Int)/\1<(e1.length:Int))/\((0
 : Int)<=(2:Int)/\2<(e1.length:Int))/\kB 199 [.dg 2 (List.getD e1 1 default),.dg 2 (List.getD e1 2 default)] N (λa b=>uP b (Q (List.getD e1 1
 default) a))) (uP N (Q (List.getD e1 1 default) false))) (((0:Int)<=(0:Int)/\0<(e1.length:Int))/\∃ b:Int,(if 0=0 then D.cell (List.getD e1 0
 default) 0 else D.sub (List.getD e1 0 default) 0 0)=D.j b/\Br (b==3) (((0:Int)<=(0:Int)/\0<(e1.length:Int))/\∃ a b,∃ c:Nat,(if 0=0
 then D.cell (List.getD e1 0 default) 1 else D.sub (List.getD e1 0 default) 1 0)=D.sl a 2 b c/\((0:Int)<=(0:Int)/\0<(b.length:Int))/\((0:Int) <=
 (1:Int)/\1<(e1.length:Int))/\kB 199 [.dg 2 (List.getD b 0 default),.dg 2 (List.getD e1 1 default)] N (λa b=>Br a (((0:Int)<=(0:Int)/\0
 < (e1.length:Int))/\∃ a c,∃ d:Nat,(if 0=0 then D.cell (List.getD e1 0 default) 1 else D.sub (List.getD e1 0 default) 1 0)=D.sl a 2 c d
 /\ ((0:Int)<=(1:Int)/\1<(c.length:Int))/\kA 2 90 [.dg 2 (List.getD c 1 default)] b (λa b=>uP b (Q a true))) (uP b (Q (D.ag [D.j
 0,D.sl none 2 [] 0]) false)))) (uP N (Q (D.ag [D.j 0,D.sl none 2 [] 0]) false))))):ACalls prog 155 [.ag 2,.bool] [PV.dg 9 I,PV.sv a1 2 e1 c1] N Q:=
  eE IY h
theorem J5 (N:Nat) (a0:Option Addr) (e0:List D) (c0:Nat) (I:D) (n2:Int) (Q:QT [.ag 2,.bool]) (h :
Bel N (D.sl a0 4 e0 c0)->Bel N I->∃ n:Int,(I.cell 0)=D.j n/\Br (n==1) (∃ s,(I.cell 1)=D.t s/\kI 152 [.sv a0 4 e0 c0,.str s] N (λa b
 => Br (decide (a<0)) (uP b (Q (D.ag [D.j 0,D.sl none 2 [] 0]) false)) ((0<=a/\a<(e0.length:Int))/\∃ c:Int,(if 0=0 then D.cell (List.getD
 e0 a.toNat default) 3 else D.sub (List.getD e0 a.toNat default) 3 0)=D.j c/\Br (bne c n2) (uP b (Q (D.ag [D.j 0,D.sl none 2 [] 0]) false)) ((0 <=
 a/\a<(e0.length:Int))/\kA 2 90 [.dg 2 (if 2=0 then D.cell (List.getD e0 a.toNat default) 1 else D.sub (List.getD e0 a.toNat default) 1 2)] b
 (λx a=>uP a (Q x true)))))) (Br (n==2) (kA 2 69 [] N (λa b=>uP b (Q a true))) (Br (n==3) (kA 2 70 [] N (λa b=>uP b (Q a
 true))) (Br (n==6) (kAB 2 153 [.sv a0 4 e0 c0,.dg 9 I,.j n2] N (λa b c=>uP c (Q a b))) (Br (n==8) (kAB 2 153 [.sv a0 4 e0 c0,.dg 9 I,.j
 n2] N (λa b c=>uP c (Q a b))) (Br (n==9) (kAB 2 153 [.sv a0 4 e0 c0,.dg 9 I,.j n2] N (λa b c=>uP c (Q a b))) (Br (n ==
 10) (kAB 2 154 [.sv a0 4 e0 c0,.dg 9 I,.j n2] N (λa b c=>uP c (Q a b))) (Br (n==11) (kAB 2 154 [.sv a0 4 e0 c0,.dg 9 I,.j n2] N (fun
 a b c=>uP c (Q a b))) (Br (n==12) (kAB 2 154 [.sv a0 4 e0 c0,.dg 9 I,.j n2] N (λa b c=>uP c (Q a b))) (Br (n==13) (kAB 2
 154 [.sv a0 4 e0 c0,.dg 9 I,.j n2] N (λa b c=>uP c (Q a b))) (xV Q N a0 e0 c0 n2 0 0 0 I 0 none [] 0 [] 0 N))))))))))):ACalls prog 89 [.ag 2,.bool] [PV.sv a0 4 e0 c0,PV.dg 9 I,PV.int .i64 n2] N Q:=
  eE BB h
theorem J6 (N:Nat) (a0:Option Addr) (e0:List D) (c0:Nat) (x1:D) (n2:Int) (Q:QT [.ag 2,.bool]) (h :
Bel N (D.sl a0 4 e0 c0)->Bel N x1->kAB 2 89 [.sv a0 4 e0 c0,.dg 9 x1,.j n2] N (fun x b a=>Br (!b) (uP a (Q (D.ag [D.j 0,D.sl none 2 [] 0]) false))
 (kB 49 [.dg 2 x] a (fun a b=>Br (!a) (uP b (Q (D.ag [D.j 0,D.sl none 2 [] 0]) false)) (uP b (Q x true)))))):ACalls prog 43 [.ag 2,.bool] [PV.sv a0 4 e0 c0,PV.dg 9 x1,PV.int .i64 n2] N Q:=
  eE IZ h
theorem Jo (N:Nat) (a0:Option Addr) (e0:List D) (c0:Nat) (I:D) (n2:Int) (Q:QT [.ag 2,.bool]) (h :
Bel N (D.sl a0 4 e0 c0)->Bel N I->kB 41 [.sv a0 4 e0 c0] N (λb a=>Br (!b) (uP a (Q (D.ag [D.j 0,D.sl none 2 [] 0]) false)) (kB 42 [.dg 9 I,.j
 n2] a (λa b=>Br (!a) (uP b (Q (D.ag [D.j 0,D.sl none 2 [] 0]) false)) (kAB 2 43 [.sv a0 4 e0 c0,.dg 9 I,.j n2] b (λx a b=>uP b (Q x
 a))))))):ACalls prog 17 [.ag 2,.bool] [PV.sv a0 4 e0 c0,PV.dg 9 I,PV.int .i64 n2] N Q:=
  eE qIo h
theorem qT {Q:QT [.bool]} {N0:Nat} {J:ByteArray} {I:Int} {N:Nat} (h :
Br (decide (I<(J.size:Int))) ((0<=I/\I<(J.size:Int))/\Br (decide ((UInt8.toNat (Array.getD (ByteArray.data J) I.toNat (OfNat.ofNat 0)) :
 Int)≥97)) ((0<=I/\I<(J.size:Int))/\Br (!(decide ((UInt8.toNat (Array.getD (ByteArray.data J) I.toNat (OfNat.ofNat 0)):Int)<=122))) (Br (I ==
 0) (uP N (Q false)) ((0<=I/\I<(J.size:Int))/\Br (decide ((UInt8.toNat (Array.getD (ByteArray.data J) I.toNat (OfNat.ofNat 0)):Int)<48)) (uP N (Q
 false)) ((0<=I/\I<(J.size:Int))/\Br (decide ((UInt8.toNat (Array.getD (ByteArray.data J) I.toNat (OfNat.ofNat 0)):Int)>57)) (uP N (Q false))
 (xK Q N0 J (IntKind.i64.wrap (I+1)) N)))) (xK Q N0 J (IntKind.i64.wrap (I+1)) N)) (Br (I==0) (uP N (Q false)) ((0<=I/\I
 < (J.size:Int))/\Br (decide ((UInt8.toNat (Array.getD (ByteArray.data J) I.toNat (OfNat.ofNat 0)):Int)<48)) (uP N (Q false)) ((0<=I/\I<(J.size
 : Int))/\Br (decide ((UInt8.toNat (Array.getD (ByteArray.data J) I.toNat (OfNat.ofNat 0)):Int)>57)) (uP N (Q false)) (xK Q N0 J
 (IntKind.i64.wrap (I+1)) N))))) (kB 44 [.j (J.size:Int),.j 1,.j 4] N (λb a=>Br b (Br (!(ByteArray.toList J==ByteArray.toList (bytes [105,
 102]))) (Br (!(ByteArray.toList J==ByteArray.toList (bytes [108,101,116]))) (Br (!(ByteArray.toList J==ByteArray.toList (bytes [114,101,99]))) (Br
 (!(ByteArray.toList J==ByteArray.toList (bytes [114,117,110]))) (∀ b,a<=b->Q (!(ByteArray.toList J==ByteArray.toList (bytes [108,105,102,
 116]))) b) (uP a (Q false))) (uP a (Q false))) (uP a (Q false))) (uP a (Q false))) (uP a (Q false))))):xK Q N0 J I N:=
  hE Au h
theorem qb {Q:QT [.int .i64]} {N0:Nat} {n1 n5:Int} {y0:D} {N:Nat} (h :
∃ a b,∃ c:Nat,(y0.cell 1)=D.sl a 2 b c/\Br (decide (n5<(b.length:Int))) (Br (decide (n1≥0)) (∃ a b,∃ c:Nat,(y0.cell 1)=D.sl
 a 2 b c/\(0<=n5/\n5<(b.length:Int))/\kI 97 [.dg 2 (List.getD b n5.toNat default),.j n1] N (fun n a=>wr Q N0 n
 (IntKind.i64.wrap (n5+1)) y0 a)) (uP N (Q n1))) (uP N (Q n1))):wr Q N0 n1 n5 y0 N:=
  hE A2 h
theorem uN {Q:QT [.int .i64]} {N0:Nat} {J n4:Int} {I:D} {N:Nat} (h :
∃ a b,∃ c:Nat,(I.cell 1)=D.sl a 2 b c/\Br (decide (n4<(b.length:Int))) (∃ a b,∃ c:Nat,(I.cell 1)=D.sl a 2 b c/\(0<=n4
 /\ n4<(b.length:Int))/\kI 98 [.dg 2 (List.getD b n4.toNat default)] N (λn a=>kI 150 [.j J,.j n] a (λa b=>xG Q N0
 a (IntKind.i64.wrap (n4+1)) I b))) (uP N (Q (IntKind.i64.wrap (J+1))))):xG Q N0 J n4 I N:=
  hE tO h
theorem qa {Q:QT [.bool]} {N0:Nat} {n3:Int} {y0:D} {N:Nat} (h :
∃ a d,∃ c:Nat,(y0.cell 1)=D.sl a 2 d c/\Br (decide (n3<(d.length:Int))) (∃ a c,∃ d:Nat,(y0.cell 1)=D.sl a 2 c d/\(0<=n3
 /\ n3<(c.length:Int))/\kB 99 [.dg 2 (List.getD c n3.toNat default)] N (fun b a=>Br (!b) (uP a (Q false)) (wq Q N0 (IntKind.i64.wrap
 (n3+1)) y0 a))) (∃ n:Int,(y0.cell 0)=D.j n/\Br (n==1) (∃ a b,∃ c:Nat,(y0.cell 1)=D.sl a 2 b c/\uP N (Q ((b.length:Int) ==
 0))) (Br (n==2) (∃ a b,∃ c:Nat,(y0.cell 1)=D.sl a 2 b c/\uP N (Q ((b.length:Int)==0))) (Br (n==3) (∃ a b,∃ c:Nat,
 (y0.cell 1)=D.sl a 2 b c/\uP N (Q ((b.length:Int)==2))) (Br (n==4) (∃ a b,∃ c:Nat,(y0.cell 1)=D.sl a 2 b c/\uP N (Q
 ((b.length:Int)==1))) (uP N (Q false))))))):wq Q N0 n3 y0 N:=
  hE A1 h
theorem AM {Q:QT [.bool]} {N0:Nat} {a0:Option Addr} {e0:List D} {c0:Nat} {n3:Int} {N:Nat} (h :
Br (decide (n3<(e0.length:Int))) ((0<=n3/\n3<(e0.length:Int))/\∃ s,(if 0=0 then D.cell (List.getD e0 n3.toNat default) 0 else D.sub
 (List.getD e0 n3.toNat default) 0 0)=D.t s/\kB 87 [.str s] N (fun b a=>Br (!b) (uP a (Q false)) ((0<=n3/\n3<(e0.length:Int))/\kB 49 [.dg 2 (if 2 =
 0 then D.cell (List.getD e0 n3.toNat default) 1 else D.sub (List.getD e0 n3.toNat default) 1 2)] a (fun a b=>Br (!a) (uP b (Q false)) ((0<=n3/\n3 <
 (e0.length:Int))/\∃ n:Int,(if 0=0 then D.cell (List.getD e0 n3.toNat default) 3 else D.sub (List.getD e0 n3.toNat default) 3 0)=D.j n/\kB 44 [.j n,
 .j 0,.j 2] b (fun a b=>Br (!a) (uP b (Q false)) (vi Q N0 a0 e0 c0 (IntKind.i64.wrap (n3+1)) b))))))) (∀ a,N<=a->Q (decide
 ((e0.length:Int)<=12)) a)):vi Q N0 a0 e0 c0 n3 N:=
  hE DR h
theorem qU {Q:QT [.bool]} {N0:Nat} {J:Int} {I:D} {N:Nat} (h :
∃ a d,∃ c:Nat,(I.cell 8)=D.sl a 9 d c/\Br (decide (J<(d.length:Int))) (∃ a c,∃ d:Nat,(I.cell 8)=D.sl a 9 c d/\(0<=J
 /\ J<(c.length:Int))/\kB 51 [.dg 9 (List.getD c J.toNat default)] N (λb a=>Br (!b) (uP a (Q false)) (wl Q N0 (IntKind.i64.wrap
 (J+1)) I a))) (kB 100 [.dg 9 I] N (λa b=>Br a (∃ a c,∃ d:Nat,(I.cell 8)=D.sl a 9 c d/\kI 101 [.dg 9 I] b (λn a=>uP
 a (Q ((c.length:Int)==n)))) (uP b (Q false))))):wl Q N0 J I N:=
  hE Av h
theorem Bd {Q:QT [.bool]} {N0:Nat} {n1 I:Int} {J:D} {N:Nat} (h :
∃ a d,∃ c:Nat,(J.cell 8)=D.sl a 9 d c/\Br (decide (I<(d.length:Int))) (∃ a c,∃ d:Nat,(J.cell 8)=D.sl a 9 c d/\(0<=I
 /\ I<(c.length:Int))/\kI 151 [.dg 9 J,.j n1] N (λn a=>kB 88 [.dg 9 (List.getD c I.toNat default),.j n] a (λb a=>Br (!b) (uP a (Q
 false)) (uT Q N0 n1 (IntKind.i64.wrap (I+1)) J a)))) (uP N (Q true))):uT Q N0 n1 I J N:=
  hE Ev h
theorem qi {Q:QT [.int .i64]} {N0:Nat} {a0:Option Addr} {e0:List D} {c0:Nat} {s1:ByteArray} {n5:Int} {N:Nat} (h :
Br (decide (n5≥0)) ((0<=n5/\n5<(e0.length:Int))/\∃ s,(if 0=0 then D.cell (List.getD e0 n5.toNat default) 0 else D.sub (List.getD e0 n5.toNat
 default) 0 0)=D.t s/\Br (ByteArray.toList s==ByteArray.toList s1) (uP N (Q n5)) (ww Q N0 a0 e0 c0 s1 (IntKind.i64.wrap (n5 - 1)) N)) (uP N (Q
 (-1)))):ww Q N0 a0 e0 c0 s1 n5 N:=
  hE BA h
theorem qZ {Q:QT [.ag 2]} {N0:Nat} {n4:Int} {y0:D} {Y:Int} {aa:Option Addr} {ab:List D} {ac:Nat} {J:Int} {O:Option Addr} {I:List D} {U:Nat} {N:Nat} (h :
∃ a b,∃ c:Nat,(y0.cell 1)=D.sl a 2 b c/\Br (decide (n4<(b.length:Int))) (∃ a b,∃ c:Nat,(y0.cell 1)=D.sl a 2 b c/\(0<=n4
 /\ n4<(b.length:Int))/\kA 2 90 [.dg 2 (List.getD b n4.toNat default)] N (λx a=>Vm O I U [x]/\zB I [x] 32/\∀(b:Nat),
 xe Q N0 (IntKind.i64.wrap (n4+1)) y0 Y aa ab ac J (I++[x]).length b (I++[x]) b a)) (uP N (Q (D.ag [D.j J,D.sl
 O 2 I U])))):ui Q N0 n4 y0 Y aa ab ac J O I U N:=
  hE sf h
theorem tY {Q:QT [.bool]} {N0:Nat} {I:Int} {J O:D} {N:Nat} (h :
∃ a d,∃ c:Nat,(J.cell 1)=D.sl a 2 d c/\Br (decide (I<(d.length:Int))) (∃ a c,∃ d:Nat,(J.cell 1)=D.sl a 2 c d/\(0<=I
 /\ I<(c.length:Int))/\∃ a d,∃ e:Nat,(O.cell 1)=D.sl a 2 d e/\(0<=I/\I<(d.length:Int))/\kB 199 [.dg 2 (List.getD c
 I.toNat default),.dg 2 (List.getD d I.toNat default)] N (λb a=>Br (!b) (uP a (Q false)) (yv Q N0 (IntKind.i64.wrap (I+1)) J O
 a))) (uP N (Q true))):yv Q N0 I J O N:=
  hE rL h
theorem rd {Q:QT [.sl 4]} {N0:Nat} {a0:Option Addr} {e0:List D} {c0:Nat} {n1:Int} {O c5:Nat} {I:Int} {r0:List D} {J:Nat} {N:Nat} (h :
Br (decide (I<(e0.length:Int))) ((0<=I/\I<(e0.length:Int))/\kB 140 [.dg 2 (if 2=0 then D.cell (List.getD e0 I.toNat default) 1 else D.sub
 (List.getD e0 I.toNat default) 1 2)] N (λb a=>Br b ((0<=I/\I<(e0.length:Int))/\∃ n:Int,(if 0=0 then D.cell (List.getD e0 I.toNat default)
 3 else D.sub (List.getD e0 I.toNat default) 3 0)=D.j n/\Br (decide (n<=n1)) ((0<=I/\I<(e0.length:Int))/\∃ s,(if 0=0 then D.cell (List.getD e0
 I.toNat default) 0 else D.sub (List.getD e0 I.toNat default) 0 0)=D.t s/\kI 152 [.sv a0 4 e0 c0,.str s] a (λa b=>Br (a==I) ((0<=I/\I <
 (e0.length:Int))/\∃ a,(if 0=0 then D.cell (List.getD e0 I.toNat default) 0 else D.sub (List.getD e0 I.toNat default) 0 0)=D.t a/\(0<=I/\I <
 (e0.length:Int))/\(0<=I/\I<(e0.length:Int))/\∃ d:Int,(if 0=0 then D.cell (List.getD e0 I.toNat default) 3 else D.sub (List.getD e0 I.toNat
 default) 3 0)=D.j d/\kA 2 90 [.dg 2 (if 2=0 then D.cell (List.getD e0 I.toNat default) 1 else D.sub (List.getD e0 I.toNat default) 1 2)] b (λx b
 => (O=r0.length/\c5=J)/\zB r0 [D.ag [D.t a,(x.cell 0),(x.cell 1),D.j d]] 56/\∀(c:Nat),yO Q N0 a0 e0 c0 n1 (r0++[D.ag
 [D.t a,(x.cell 0),(x.cell 1),D.j d]]).length c (IntKind.i64.wrap (I+1)) (r0++[D.ag [D.t a,(x.cell 0),(x.cell 1),D.j d]]) c b))
 (yO Q N0 a0 e0 c0 n1 O c5 (IntKind.i64.wrap (I+1)) r0 J b))) (yO Q N0 a0 e0 c0 n1 O c5 (IntKind.i64.wrap (I+1)) r0 J a))
 (yO Q N0 a0 e0 c0 n1 O c5 (IntKind.i64.wrap (I+1)) r0 J a))) (w3 (O=r0.length/\c5=J) (∀ a b,N<=b->Fresh N0 b a [D.ag r0]->uP
 b (Q a r0 J)))):yO Q N0 a0 e0 c0 n1 O c5 I r0 J N:=
  hE AD h
theorem Be {Q:QT [.ag 2,.bool]} {N0:Nat} {s0:ByteArray} {a1:Option Addr} {e1:List D} {c1:Nat} {n6 Y I:Int} {J:Option Addr} {O:List D} {U:Nat} {N:Nat} (h :
Br (decide (Y<(e1.length:Int))) ((0<=Y/\Y<(e1.length:Int))/\∃ n:Int,(if 0=0 then D.cell (List.getD e1 Y.toNat default) 0 else D.sub
 (List.getD e1 Y.toNat default) 0 0)=D.j n/\Br (bne n n6) (uP N (Q (D.ag [D.j 0,D.sl none 2 [] 0]) false)) (yx Q N0 s0 a1 e1 c1 n6
 (IntKind.i64.wrap (Y+1)) I J O U N)) (Br (ByteArray.toList s0==ByteArray.toList (bytes [43])) (kA 2 69 [] N (λx a=>uP a (Q x true))) (Br
 (ByteArray.toList s0==ByteArray.toList (bytes [45])) (kA 2 69 [] N (λa b=>uP b (Q a true))) (Br (ByteArray.toList s0==ByteArray.toList (bytes
 [42])) (kA 2 69 [] N (λa b=>uP b (Q a true))) (kA 2 70 [] N (λa b=>uP b (Q a true))))))):yx Q N0 s0 a1 e1 c1 n6 Y I J O U N:=
  hE Ew h
theorem rh {Q:QT [.ag 2,.bool]} {N0:Nat} {a0:Option Addr} {e0:List D} {c0:Nat} {n2:Int} {ab J:Nat} {I:Int} {y0:D} {O:Int} {U:Option Addr} {Y:List D} {aa:Nat} {r2:List D} {q2:Nat} {N:Nat} (h :
∃ a d,∃ c:Nat,(y0.cell 8)=D.sl a 9 d c/\Br (decide (I<(d.length:Int))) (∃ a c,∃ d:Nat,(y0.cell 8)=D.sl a 9 c d/\(0 <=
 I/\I<(c.length:Int))/\kAB 2 43 [.sv a0 4 e0 c0,.dg 9 (List.getD c I.toNat default),.j n2] N (λx b a=>Br (!b) (uP a (Q (D.ag [D.j 0,
 D.sl none 2 [] 0]) false)) ((ab=r2.length/\J=q2)/\zB r2 [x] 32/\∀(b:Nat),xV Q N0 a0 e0 c0 n2 (r2++[x]).length b
 (IntKind.i64.wrap (I+1)) y0 O U Y aa (r2++[x]) b a))) ((ab=r2.length/\J=q2)/\∀ a,ApA a r2->Off [a] y0->∀ b,N<=b->vN
 b [a]->ACalls prog 155 [.ag 2,.bool] [.dg 9 y0,.sv a 2 r2 J] b (λc d e=>b<=e->Off [a] c/\(Bel e c->uP e (Q c d))))):xV Q N0 a0 e0 c0 n2 ab J I y0 O U Y aa r2 q2 N:=
  hE BB h
theorem tc {Q:QT [.ag 2]} {N0:Nat} {n4:Int} {y0:D} {U:Int} {Y:Option Addr} {aa:List D} {ab:Nat} {I:Int} {J O:Nat} {r3:List D} {q3:Nat} {N:Nat} (h :
∃ a b,∃ c:Nat,(y0.cell 1)=D.sl a 2 b c/\Br (decide (n4<(b.length:Int))) (∃ a b,∃ c:Nat,(y0.cell 1)=D.sl a 2 b c/\(0<=n4
 /\ n4<(b.length:Int))/\kA 2 90 [.dg 2 (List.getD b n4.toNat default)] N (λx a=>(J=r3.length/\O=q3)/\zB r3 [x] 32/\∀(b :
 Nat),xe Q N0 (IntKind.i64.wrap (n4+1)) y0 U Y aa ab I (r3++[x]).length b (r3++[x]) b a)) (w3 (J=r3.length/\O =
 q3) (∀ a b,N<=b->Fresh N0 b a [D.ag r3]->uP b (Q (D.ag [D.j I,D.sl a 2 r3 q3]))))):xe Q N0 n4 y0 U Y aa ab I J O r3 q3 N:=
  hE sf h
end Go.Proofs.YtlaniepnglheoaaGreatDoor
set_option maxRecDepth 100000
namespace Go.Proofs.YtlaniepnglheoaaGreatDoor
open Go Go.Proofs Go.Proofs.Tryz
def uf:Hint:=⟨[hc 2 [0,1,7,8]],[],[]⟩
def Ai:Hint:=⟨[hc 2 [0,6,7]],[],[]⟩
def sA:Hint:=⟨[hc 3 [3,7,8,9]],[],[(5,hs 5 [ec 2 [14]])]⟩
def tM:Hint:=⟨[hc 3 [3,7,8,9]],[],[(5,hs 5 [ec 2 [14]])]⟩
def ph:Hint:=⟨[],[],[(1,[en 0,en 1,eh 2,en 3,en 4,en 5,en 6,en 7,en 8,en 9,en 10,en 11,en 12,en 13,en 14,en 15])]⟩
def CQ:Hint:=⟨[],[],[(1,hs 5 [ec 2 [4]])]⟩
def wi:Hint:=⟨[hc 2 [0,1,7,8]],[],[(4,hs 6 [ec 5 [15]])]⟩
def Eo:Hint:=⟨[],[],[(1,hs 11 [ec 2 [6]])]⟩
def Ak:Hint:=⟨[],[],[(1,hs 13 [ec 1 [3],ec 5 [7],ec 10 [12]])]⟩
def GY:Hint:=⟨[],[],[(1,hs 17 [ec 7 [9]])]⟩
def xy:Hint:=⟨[hc 2 [0,1,7,8]],[],[(4,hs 6 [ec 5 [15]])]⟩
def Gb:Hint:=⟨[],[],[(12,hs 9 [ec 6 [34]]),(14,hs 26 [ec 18 [56],ec 23 [61]])]⟩
def wg:Hint:=⟨[hc 4 [1,2,15,16,17]],[],[(7,hs 5 [ec 3 [27,28]])]⟩
def IM:Hint:=⟨[],[],[(1,[en 0,en 1,en 2,en 3,ec 4 [7],en 5]),(14,[en 0,en 1,en 2,en 3,en 4,eh 5,en 6,eh 7]),(16,[en 0,en 1,en 2,en 3,en 4,en 5,en 6,en 7,en 8,eh 9,en 10,eh 11,en 12,eh 13,en 14,eh 15]),(17,hs 38 [ec 1 [54],ec 28 [79,81],ec 35 [86,88]])]⟩
def CP:Hint:=⟨[],[],[(1,hs 5 [ec 2 [4]])]⟩
def wh:Hint:=⟨[hc 2 [0,1,7,8]],[],[(4,hs 6 [ec 5 [15]])]⟩
def En:Hint:=⟨[],[],[(1,hs 11 [ec 2 [6]])]⟩
def II:Hint:=⟨[],[],[(1,hs 3 [ec 1 [3]])]⟩
def Ao:Hint:=⟨[hc 4 [1,2,3,15,16,17]],[],[(1,hs 5 [ec 3 [10]]),(6,[en 0,en 1,en 2,en 4,ec 3 [22],ec 5 [21],en 6])]⟩
def Ek:Hint:=⟨[],[],[(1,hs 8 [ec 1 [5],ec 5 [8]])]⟩
def CR:Hint:=⟨[],[],[(1,[en 0,en 1,en 2,en 3,en 4,en 5,en 6,ec 7 [11],eh 8])]⟩
def rz:Hint:=⟨[hc 2 [0,1,5]],[],[]⟩
def ue:Hint:=⟨[hc 3 [2,3,10,11,12]],[],[(5,[en 0,en 1,en 2,ec 3 [18],en 4,eh 5,en 6,eh 7])]⟩
def Ap:Hint:=⟨[hc 11 [4,5,6,22,23,24]],[],[(13,hs 4 [ec 2 [28,29]])]⟩
def KF:Hint:=⟨[],[],[(1,[en 0,en 2,ec 1 [5],ec 3 [7],en 4,en 5,eh 6])]⟩
def IN:Hint:=⟨[],[],[(1,hs 5 [ec 1 [3]])]⟩
def IL:Hint:=⟨[],[],[(3,hs 6 [ec 4 [10]])]⟩
def p7:Hint:=⟨[hc 3 [0,1,5,9,10,11] [(5,94,4)]],[],[(5,hs 17 [ec 2 [17]]),(6,[en 0,en 1,en 2,en 3,en 4,en 6,en 7,ec 5 [37],en 8,en 9,eh 10,eh 11])]⟩
def Dn:Hint:=⟨[],[],[(3,hs 10 [ec 7 [17]]),(5,hs 3 [ec 1 [24]]),(7,hs 10 [ec 7 [32],ec 8 [35]]),(9,[en 0,en 1,en 3,en 4,en 5,en 6,en 7,eh 2,ec 8 [45],ec 9 [47],eh 10]),(11,hs 9 [ec 6 [55]]),(12,hs 2 [ec 1 [58]]),(13,hs 3 [ec 1 [60]])]⟩
def r9:Hint:=⟨[hc 15 [4,6,7,9,57,58] [(9,32,2)]],[],[(5,[en 0,en 1,en 2,en 3,en 4,en 5,en 6,en 7,en 8,en 9,en 10]),(6,hs 7 [ec 5 [43]]),(22,hs 9 [ec 3 [79,80],ec 7 [83,84]]),(27,[en 0,en 1,en 2,en 3,en 4,en 5,en 6,en 7,en 8,ec 9 [102,103],en 10]),(28,hs 6 [ec 4 [109]]),(31,[en 0,en 1,en 2,en 3,en 4,en 5,en 6,en 7,en 9,en 10,en 11,en 12,en 13,en 15,eh 8,ec 14 [126],eh 16]),(34,hs 5 [ec 3 [134,135]]),(39,[en 0,en 1,en 2,en 3,en 4,en 5,en 6,en 8,en 9,en 10,en 11,en 12,eh 7,ec 13 [156],eh 14]),(41,hs 7 [ec 4 [162,164]]),(42,[en 0,en 1,en 2,en 3,en 4,en 5,en 6,en 7,en 8,en 9,en 10,en 11,en 12,en 14,en 15,en 16,en 17,en 18,en 20,eh 13,ec 19 [183],eh 21]),(43,hs 4 [ec 3 [186,188]]),(46,hs 5 [ec 3 [193]])]⟩
def KG:Hint:=⟨[],[],[(1,hs 6 [ec 3 [9]]),(2,hs 3 [ec 1 [12]])]⟩
def IK:Hint:=⟨[],[],[(1,hs 9 [ec 6 [13]]),(3,hs 6 [ec 3 [20]]),(4,[en 0,en 1,en 2,en 3,eh 4,en 5])]⟩
def yu (Q:QT [.int .i64])(N0:Nat)(a0:Option Addr)(e0:List D)(c0:Nat)(I:ByteArray)(J O:Int)(N:Nat):Prop:=AT prog 222 [.int .i64] Q N0 .ord (zF prog 222 2) ⟨.sv a0 0 e0 c0::.str I::an 5 (.int .i64 J::.int .i64 O::an 10 []),[],N,none⟩
def xI (Q:QT [.bool])(N0:Nat)(I:ByteArray)(J O:Int)(N:Nat):Prop:=AT prog 117 [.bool] Q N0 .ord (zF prog 117 2) ⟨.str I::an 5 (.int .i64 J::.int .i64 O::an 40 []),[],N,none⟩
def xS (Q:QT [.int .i64])(N0:Nat)(I:Int)(J:Option Addr)(O:List D)(U:Nat)(Y n9:Int)(N:Nat):Prop:=AT prog 126 [.int .i64] Q N0 .ord (zF prog 126 3) ⟨an 3 (.int .i64 I::an 3 (.sv J 2 O U::.int .i64 Y::.int .i64 n9::an 9 [])),[],N,none⟩
def xD (Q:QT [.int .i64])(N0:Nat)(I:Int)(J:Option Addr)(O:List D)(U:Nat)(Y n9:Int)(N:Nat):Prop:=AT prog 127 [.int .i64] Q N0 .ord (zF prog 127 3) ⟨an 3 (.int .i64 I::an 3 (.sv J 2 O U::.int .i64 Y::.int .i64 n9::an 10 [])),[],N,none⟩
def xo (Q:QT [.int .i64])(N0:Nat)(a0:Option Addr)(e0:List D)(c0:Nat)(I:ByteArray)(J:Int)(N:Nat):Prop:=AT prog 177 [.int .i64] Q N0 .ord (zF prog 177 2) ⟨.sv a0 4 e0 c0::.str I::an 3 (.int .i64 J::an 15 []),[],N,none⟩
def vT (Q:QT [.ag 2])(N0:Nat)(ae:Option Addr)(ah:List D)(ai:Nat)(aj ak I:Int)(J:Option Addr)(O:List D)(U:Nat)(Y:Int)(aa:Option Addr)(ab:List D)(ac:Nat)(N:Nat):Prop:=AT prog 178 [.ag 2] Q N0 .ord (zF prog 178 3) ⟨an 2 (.pb 0 0 0 0::.pb 1 0 0 0::an 6 (.sv ae 2 ah ai::.int .i64 aj::.int .i64 ak::an 12 [])),[.var [.int .i64 I,.sv J 2 O U],.var [.int .i64 Y,.sv aa 2 ab ac]],N,none⟩
def zP (Q:QT [.ag 2])(N0:Nat)(Y:Option Addr)(aa:List D)(ab:Nat)(ac ae I:Int)(J:Option Addr)(O:List D)(U:Nat)(y1 y2:D)(N:Nat):Prop:=AT prog 181 [.ag 2] Q N0 .ord (zF prog 181 11) ⟨an 4 (.pb 0 0 0 0::.pb 1 0 0 0::.pb 2 0 0 0::an 15 (.sv Y 2 aa ab::.int .i64 ac::.int .i64 ae::an 10 [])),[.var [.int .i64 I,.sv J 2 O U],.vd y1 2,.vd y2 2],N,none⟩
def yN (Q:QT [.sl 4])(N0:Nat)(a0:Option Addr)(e0:List D)(c0:Nat)(n1:Int)(O c5:Nat)(a9:Option Addr)(U:List D)(c9:Nat)(I J:Int)(r0:List D)(Y:Nat)(N:Nat):Prop:=AT prog 227 [.sl 4] Q N0 .ord (zF prog 227 3) ⟨.sv a0 4 e0 c0::.int .i64 n1::an 3 (.sb 0 4 0 O c5::an 3 (.sv a9 4 U c9::.int .i64 I::.int .i64 J::an 34 [])),[.arr 94 4 r0 Y],N,none⟩
def yr (Q:QT [.ag 2])(N0:Nat)(m9 c9:Nat)(ae ah:Int)(y0:D)(I:Int)(J:Option Addr)(O:List D)(U:Nat)(Y:Option Addr)(aa:List D)(ab:Nat)(ac:Int)(r4:List D)(q4:Nat)(N:Nat):Prop:=AT prog 120 [.ag 2] Q N0 .ord (zF prog 120 15) ⟨an 4 (.pb 0 0 0 0::an 1 (.pb 1 0 0 0::.fn 176 [.pb 2 0 0 0,.pb 0 0 0 0,.pb 3 0 0 0]::an 1 (.sb 4 2 0 m9 c9::an 47 (.int .i64 ae::.int .i64 ah::an 137 [])))),[.vd y0 9,.var [.int .i64 I,.sv J 2 O U],.var [.sv Y 4 aa ab],.var [.int .i64 ac],.arr 32 2 r4 q4],N,none⟩
def zW (Q:QT [.bool])(N0:Nat)(a1:Option Addr)(e1:List D)(c1:Nat)(I:Option Addr)(J:List D)(O:Nat)(U Y:Int)(N:Nat):Prop:=AT prog 223 [.bool] Q N0 .ord (zF prog 223 4) ⟨an 1 (.sv a1 2 e1 c1::.fn 182 []::an 12 (.sv I 2 J O::.int .i64 U::.int .i64 Y::an 14 [])),[],N,none⟩
def wk (Q:QT [.bool])(N0:Nat)(n1:Int)(I:Option Addr)(J:List D)(O:Nat)(U Y:Int)(y0:D)(N:Nat):Prop:=AT prog 118 [.bool] Q N0 .ord (zF prog 118 4) ⟨an 1 (.int .i64 n1::.fn 119 []::.pb 0 0 0 0::an 11 (.sv I 9 J O::.int .i64 U::.int .i64 Y::an 11 [])),[.vd y0 9],N,none⟩
def xF (Q:QT [.ag 2])(N0:Nat)(ac:Option Addr)(ae:List D)(ah:Nat)(ai aj I:Int)(J:Option Addr)(O:List D)(U:Nat)(Y:Int)(aa ab:Nat)(r2:List D)(q2:Nat)(N:Nat):Prop:=AT prog 178 [.ag 2] Q N0 .ord (zF prog 178 3) ⟨an 2 (.pb 0 0 0 0::.pb 1 0 0 0::an 6 (.sv ac 2 ae ah::.int .i64 ai::.int .i64 aj::an 12 [])),[.var [.int .i64 I,.sv J 2 O U],.var [.int .i64 Y,.sb 2 2 0 aa ab],.arr 32 2 r2 q2],N,none⟩
def zk (Q:QT [.int .i64])(N0:Nat)(a0:Option Addr)(e0:List D)(c0:Nat)(I J:Int)(N:Nat):Prop:=AT prog 173 [.int .i64] Q N0 .ord (zF prog 173 2) ⟨.sv a0 4 e0 c0::.fn 116 []::an 5 (.int .i64 I::.int .i64 J::an 10 []),[],N,none⟩
def yE (Q:QT [.int .i64])(N0:Nat)(a0:Option Addr)(e0:List D)(c0:Nat)(I:Addr)(J O:Int)(N:Nat):Prop:=AT prog 234 [.int .i64] Q N0 .ord (zF prog 234 2) ⟨.sv a0 2 e0 c0::.fn 193 [.pd I 0 (.fn 129 [])]::an 5 (.int .i64 J::.int .i64 O::an 10 []),[],N,none⟩
def yD (Q:QT [.int .i64])(N0:Nat)(a0:Option Addr)(e0:List D)(c0:Nat)(I:Addr)(J O:Int)(N:Nat):Prop:=AT prog 235 [.int .i64] Q N0 .ord (zF prog 235 2) ⟨.sv a0 9 e0 c0::.fn 195 [.pd I 0 (.fn 131 [])]::an 5 (.int .i64 J::.int .i64 O::an 10 []),[],N,none⟩
theorem Ji (N:Nat) (n0 n1 n2:Int) (Q:QT [.bool]) (h :
Br (decide (n1<=n0)) (uP N (Q (decide (n0<=n2)))) (uP N (Q false))):ACalls prog 39 [.bool] [PV.int .i64 n0,PV.int .i64 n1,PV.int .i64 n2] N Q:=
 eE H0 h
theorem Af (N:Nat) (a0:Option Addr) (e0:List D) (c0:Nat) (I:ByteArray) (Q:QT [.int .i64]) (h :
Bel N (D.sl a0 0 e0 c0)->yu Q N a0 e0 c0 I (e0.length:Int) 0 N):ACalls prog 222 [.int .i64] [PV.sv a0 0 e0 c0,PV.str I] N Q:=
 eE uf h
theorem ru (N:Nat) (a0:Option Addr) (e0:List D) (c0:Nat) (I:ByteArray) (Q:QT [.bool]) (h :
Bel N (D.sl a0 0 e0 c0)->kI 222 [.sv a0 0 e0 c0,.str I] N (λn a=>uP a (Q (decide (n≥0))))):ACalls prog 174 [.bool] [PV.sv a0 0 e0 c0,PV.str I] N Q:=
 eE H0 h
theorem JX (N:Nat) (I:ByteArray) (Q:QT [.bool]) (h :
xI Q N I (I.size:Int) 0 N):ACalls prog 117 [.bool] [PV.str I] N Q:=
 eE Ai h
theorem DG (N:Nat) (I:D) (Q:QT [.int .i64]) (h :
Bel N I->∃ a b,∃ c:Nat,(I.cell 1)=D.sl a 2 b c/\xS Q N 1 a b c (b.length:Int) 0 N):ACalls prog 126 [.int .i64] [PV.dg 2 I] N Q:=
 eE sA h
theorem Bz (N:Nat) (I:D) (Q:QT [.int .i64]) (h :
Bel N I->∃ a b,∃ c:Nat,(I.cell 1)=D.sl a 2 b c/\xD Q N 0 a b c (b.length:Int) 0 N):ACalls prog 127 [.int .i64] [PV.dg 2 I] N Q:=
 eE tM h
theorem pv (N:Nat) (I:D) (Q:QT [.bool]) (h :
Bel N I->∃ n:Int,(I.cell 0)=D.j n/\kB 39 [.j n,.j 1,.j 4] N (λb d=>Br b (∃ a b,∃ c:Nat,(I.cell 1)=D.sl a 2 b c/\∃ a:Int,
 (I.cell 0)=D.j a/\(0<=IntKind.i64.wrap (a - 1)/\IntKind.i64.wrap (a - 1)<4/\(0+(IntKind.i64.wrap (a - 1)).toNat:Nat)<4)/\(0 +
 (IntKind.i64.wrap (a - 1)).toNat:Nat)<4/\∃ c:Int,List.getD [D.j 0,D.j 0,D.j 2,D.j 1] (0+(IntKind.i64.wrap (a - 1)).toNat:Nat) default=D.j
 c/\uP d (Q ((b.length:Int)==c))) (uP d (Q false)))):ACalls prog 129 [.bool] [PV.dg 2 I] N Q:=
  eE ph h
theorem B6 (N:Nat) (I:D) (Q:QT [.bool]) (h :
Bel N I->kI 126 [.dg 2 I] N (λn a=>Br (decide (n<=30)) (kI 127 [.dg 2 I] a (λa c=>Br (decide (a<=8)) (kB 128 [.dg 2 I,.fn 129 []]
 c (λb a=>uP a (Q b))) (uP c (Q false)))) (uP a (Q false)))):ACalls prog 62 [.bool] [PV.dg 2 I] N Q:=
  eE Ak h
theorem G8 (N:Nat) (I:D) (Q:QT [.bool]) (h :
Bel N I->∃ s,(I.cell 0)=D.t s/\kB 117 [.str s] N (λb a=>Br (!b) (uP a (Q true)) (kB 62 [.dg 2 (D.sub I 1 2)] a (λa b=>Br (!a) (uP
 b (Q true)) (∃ n:Int,(I.cell 3)=D.j n/\kB 39 [.j n,.j 0,.j 2] b (λa b=>uP b (Q (!a)))))))):ACalls prog 116 [.bool] [PV.dg 4 I] N Q:=
  eE GY h
theorem LS (N:Nat) (a0:Option Addr) (e0:List D) (c0:Nat) (Q:QT [.bool]) (h :
Bel N (D.sl a0 4 e0 c0)->Br (decide ((e0.length:Int)<=12)) (kB 115 [.sv a0 4 e0 c0,.fn 116 []] N (λb a=>uP a (Q (!b)))) (uP N (Q false))):ACalls prog 56 [.bool] [PV.sv a0 4 e0 c0] N Q:=
 eE H0 h
theorem G9 (N:Nat) (I:ByteArray) (Q:QT [.int .i64]) (h :
Br (ByteArray.toList I==ByteArray.toList (bytes [43])) (uP N (Q 2)) (Br (ByteArray.toList I==ByteArray.toList (bytes [45])) (uP N (Q 2)) (Br
 (ByteArray.toList I==ByteArray.toList (bytes [42])) (uP N (Q 2)) (Br (ByteArray.toList I==ByteArray.toList (bytes [61])) (uP N (Q 2)) (Br
 (ByteArray.toList I==ByteArray.toList (bytes [60])) (uP N (Q 2)) (Br (ByteArray.toList I==ByteArray.toList (bytes [38])) (uP N (Q 2)) (Br
 (ByteArray.toList I==ByteArray.toList (bytes [124])) (uP N (Q 2)) (Br (ByteArray.toList I==ByteArray.toList (bytes [33])) (uP N (Q 1)) (uP N (Q
 0)))))))))):ACalls prog 214 [.int .i64] [PV.str I] N Q:=
  eE H0 h
theorem LU (N:Nat) (I:D) (Q:QT [.int .i64]) (h :
Bel N I->∃ n:Int,(I.cell 0)=D.j n/\Br (n==4) (∃ s,(I.cell 1)=D.t s/\kI 214 [.str s] N (λa b=>uP b (Q a))) (Br (n==5) (uP N (Q
 3)) (Br (n==7) (uP N (Q 2)) (Br (n==8) (uP N (Q 2)) (Br (n==6) (uP N (Q 1)) (Br (n==9) (uP N (Q 1)) (Br (n==10) (uP N (Q 1)) (Br (n==11) (uP N (Q
 1)) (Br (n==12) (uP N (Q 1)) (Br (n==13) (uP N (Q 1)) (uP N (Q 0)))))))))))):ACalls prog 165 [.int .i64] [PV.dg 9 I] N Q:=
  eE H0 h
theorem GO (N:Nat) (n0:Int) (Q:QT [.bool]) (h :
kB 39 [.j n0,.j 0,.j 10006] N (λb a=>uP a (Q b))):ACalls prog 236 [.bool] [PV.int .i64 n0] N Q:=
 eE H0 h
theorem HD (N:Nat) (I:D) (Q:QT [.bool]) (h :
Bel N I->∃ n:Int,(I.cell 0)=D.j n/\Br (n==1) (∃ s,(I.cell 1)=D.t s/\kB 117 [.str s] N (λb a=>uP a (Q b))) (Br (n==8) (∃ a,
 (I.cell 1)=D.t a/\kB 117 [.str a] N (λa b=>uP b (Q a))) (Br (n==2) (∃ a:Int,(I.cell 3)=D.j a/\kB 236 [.j a] N (λa b=>
 uP b (Q a))) (Br (n==3) (∃ a:Int,(I.cell 3)=D.j a/\kB 39 [.j a,.j 0,.j 1] N (λa b=>uP b (Q a))) (Br (n==4) (∃ a,(I.cell
 1)=D.t a/\kI 214 [.str a] N (λa b=>uP b (Q (decide (a>0))))) (Br (n==6) (∃ a,(I.cell 1)=D.t a/\kB 117 [.str a] N (λa b
 => Br a (kB 62 [.dg 2 (D.sub I 4 2)] b (λa b=>uP b (Q a))) (uP b (Q false)))) (Br (n==9) (∃ a,(I.cell 1)=D.t a/\kB 117 [.str a]
 N (λa b=>Br a (∃ a,(I.cell 2)=D.t a/\kB 117 [.str a] b (λa b=>Br a (∃ a,(I.cell 1)=D.t a/\∃ c,(I.cell 2)=D.t
 c/\Br (!(ByteArray.toList a==ByteArray.toList c)) (kB 62 [.dg 2 (D.sub I 4 2)] b (λa b=>Br a (kB 62 [.dg 2 (D.sub I 6 2)] b (λa
 b=>uP b (Q a))) (uP b (Q false)))) (uP b (Q false))) (uP b (Q false)))) (uP b (Q false)))) (∃ a:Int,(I.cell 0)=D.j a/\kB 39 [.j a,
 .j 1,.j 13] N (λa b=>uP b (Q a)))))))))):ACalls prog 196 [.bool] [PV.dg 9 I] N Q:=
  eE Gb h
theorem D5 (N:Nat) (I J:D) (Q:QT [.bool]) (h :
Bel N I->Bel N J->∃ n:Int,(I.cell 0)=D.j n/\∃ d:Int,(J.cell 0)=D.j d/\Br (n==d) (∃ a d,∃ c:Nat,(I.cell 1)=D.sl a 2 d c /\
 ∃ e f,∃ g:Nat,(J.cell 1)=D.sl e 2 f g/\kB 223 [.sv a 2 d c,.sv e 2 f g,.fn 182 []] N (λb a=>uP a (Q b))) (uP N (Q
 false))):ACalls prog 182 [.bool] [PV.dg 2 I,PV.dg 2 J] N Q:=
  eE H0 h
theorem Jd (N:Nat) (I:D) (Q:QT [.bool]) (h :
Bel N I->∃ a d,∃ c:Nat,(I.cell 8)=D.sl a 9 d c/\kI 165 [.dg 9 I] N (λn a=>Br (bne (d.length:Int) n) (uP a (Q false)) (∃ c:Int,
 (I.cell 0)=D.j c/\∃ c:Int,(I.cell 0)=D.j c/\Br (c==1) (∃ s,(I.cell 1)=D.t s/\kB 196 [.dg 9 I] a (λb a=>Br b (∃ b,(I.cell
 1)=D.t b/\Br (ByteArray.toList b==ByteArray.toList s) (∃ b,(I.cell 2)=D.t b/\Br (ByteArray.toList b==ByteArray.toList b0) (∃ b:Int,
 (I.cell 3)=D.j b/\Br (b==0) (kB 182 [.dg 2 (D.sub I 4 2),.dg 2 (D.ag [D.j 0,D.sl none 2 [] 0])] a (λa b=>Br a (kB 182 [.dg 2 (D.sub I 6
 2),.dg 2 (D.ag [D.j 0,D.sl none 2 [] 0])] b (λa b=>uP b (Q a))) (uP b (Q false)))) (uP a (Q false))) (uP a (Q false))) (uP a (Q false))) (uP
 a (Q false)))) (Br (c==8) (∃ b,(I.cell 1)=D.t b/\kB 196 [.dg 9 I] a (λa c=>Br a (∃ a,(I.cell 1)=D.t a/\Br (ByteArray.toList
 a==ByteArray.toList b) (∃ a,(I.cell 2)=D.t a/\Br (ByteArray.toList a==ByteArray.toList b0) (∃ a:Int,(I.cell 3)=D.j a/\Br (a ==
 0) (kB 182 [.dg 2 (D.sub I 4 2),.dg 2 (D.ag [D.j 0,D.sl none 2 [] 0])] c (λa b=>Br a (kB 182 [.dg 2 (D.sub I 6 2),.dg 2 (D.ag [D.j 0,D.sl
 none 2 [] 0])] b (λa b=>uP b (Q a))) (uP b (Q false)))) (uP c (Q false))) (uP c (Q false))) (uP c (Q false))) (uP c (Q false)))) (Br
 (c==2) (∃ b:Int,(I.cell 3)=D.j b/\kB 196 [.dg 9 I] a (λa c=>Br a (∃ a,(I.cell 1)=D.t a/\Br (ByteArray.toList a ==
 ByteArray.toList b0) (∃ a,(I.cell 2)=D.t a/\Br (ByteArray.toList a==ByteArray.toList b0) (∃ a:Int,(I.cell 3)=D.j a/\Br (a==b) (kB
 182 [.dg 2 (D.sub I 4 2),.dg 2 (D.ag [D.j 0,D.sl none 2 [] 0])] c (λa b=>Br a (kB 182 [.dg 2 (D.sub I 6 2),.dg 2 (D.ag [D.j 0,D.sl none 2 []
 0])] b (λa b=>uP b (Q a))) (uP b (Q false)))) (uP c (Q false))) (uP c (Q false))) (uP c (Q false))) (uP c (Q false)))) (Br (c==3)
 (∃ b:Int,(I.cell 3)=D.j b/\kB 196 [.dg 9 I] a (λa c=>Br a (∃ a,(I.cell 1)=D.t a/\Br (ByteArray.toList a==ByteArray.toList
 b0) (∃ a,(I.cell 2)=D.t a/\Br (ByteArray.toList a==ByteArray.toList b0) (∃ a:Int,(I.cell 3)=D.j a/\Br (a==b) (kB 182 [.dg 2 (D.sub
 I 4 2),.dg 2 (D.ag [D.j 0,D.sl none 2 [] 0])] c (λa b=>Br a (kB 182 [.dg 2 (D.sub I 6 2),.dg 2 (D.ag [D.j 0,D.sl none 2 [] 0])] b (fun
 a b=>uP b (Q a))) (uP b (Q false)))) (uP c (Q false))) (uP c (Q false))) (uP c (Q false))) (uP c (Q false)))) (Br (c==4) (∃ b,
 (I.cell 1)=D.t b/\kB 196 [.dg 9 I] a (λa c=>Br a (∃ a,(I.cell 1)=D.t a/\Br (ByteArray.toList a==ByteArray.toList b) (∃
 a,(I.cell 2)=D.t a/\Br (ByteArray.toList a==ByteArray.toList b0) (∃ a:Int,(I.cell 3)=D.j a/\Br (a==0) (kB 182 [.dg 2 (D.sub I 4
 2),.dg 2 (D.ag [D.j 0,D.sl none 2 [] 0])] c (λa b=>Br a (kB 182 [.dg 2 (D.sub I 6 2),.dg 2 (D.ag [D.j 0,D.sl none 2 [] 0])] b (λa
 b=>uP b (Q a))) (uP b (Q false)))) (uP c (Q false))) (uP c (Q false))) (uP c (Q false))) (uP c (Q false)))) (Br (c==6) (∃ b,(I.cell
 1)=D.t b/\kB 196 [.dg 9 I] a (λa c=>Br a (∃ a,(I.cell 1)=D.t a/\Br (ByteArray.toList a==ByteArray.toList b) (∃ a,
 (I.cell 2)=D.t a/\Br (ByteArray.toList a==ByteArray.toList b0) (∃ a:Int,(I.cell 3)=D.j a/\Br (a==0) (kB 182 [.dg 2 (D.sub I 4 2),
 .dg 2 (D.ag [D.cell (D.sub I 4 2) 0,D.cell (D.sub I 4 2) 1])] c (λa b=>Br a (kB 182 [.dg 2 (D.sub I 6 2),.dg 2 (D.ag [D.j 0,D.sl none 2 []
 0])] b (λa b=>uP b (Q a))) (uP b (Q false)))) (uP c (Q false))) (uP c (Q false))) (uP c (Q false))) (uP c (Q false)))) (Br (c==9)
 (∃ b,(I.cell 1)=D.t b/\∃ c,(I.cell 2)=D.t c/\kB 196 [.dg 9 I] a (λa d=>Br a (∃ a,(I.cell 1)=D.t a/\Br
 (ByteArray.toList a==ByteArray.toList b) (∃ a,(I.cell 2)=D.t a/\Br (ByteArray.toList a==ByteArray.toList c) (∃ a:Int,(I.cell
 3)=D.j a/\Br (a==0) (kB 182 [.dg 2 (D.sub I 4 2),.dg 2 (D.ag [D.cell (D.sub I 4 2) 0,D.cell (D.sub I 4 2) 1])] d (λa b=>Br a (kB
 182 [.dg 2 (D.sub I 6 2),.dg 2 (D.ag [D.cell (D.sub I 6 2) 0,D.cell (D.sub I 6 2) 1])] b (λa b=>uP b (Q a))) (uP b (Q false)))) (uP d
 (Q false))) (uP d (Q false))) (uP d (Q false))) (uP d (Q false)))) (kB 196 [.dg 9 I] a (λa b=>Br a (∃ a,(I.cell 1)=D.t a/\Br
 (ByteArray.toList a==ByteArray.toList b0) (∃ a,(I.cell 2)=D.t a/\Br (ByteArray.toList a==ByteArray.toList b0) (∃ a:Int,(I.cell 3) =
 D.j a/\Br (a==0) (kB 182 [.dg 2 (D.sub I 4 2),.dg 2 (D.ag [D.j 0,D.sl none 2 [] 0])] b (λa b=>Br a (kB 182 [.dg 2 (D.sub I 6 2),.dg
 2 (D.ag [D.j 0,D.sl none 2 [] 0])] b (λa b=>uP b (Q a))) (uP b (Q false)))) (uP b (Q false))) (uP b (Q false))) (uP b (Q false))) (uP
 b (Q false))))))))))))):ACalls prog 131 [.bool] [PV.dg 9 I] N Q:=
  eE IM h
theorem JY (N:Nat) (I:D) (Q:QT [.bool]) (h :
Bel N I->kB 130 [.dg 9 I,.fn 131 []] N (λb a=>uP a (Q b))):ACalls prog 64 [.bool] [PV.dg 9 I] N Q:=
 eE II h
theorem DE (N:Nat) (I:D) (n1:Int) (Q:QT [.bool]) (h :
Bel N I->kB 39 [.j n1,.j 0,.j 2] N (λb a=>uP a (Q b))):ACalls prog 119 [.bool] [PV.dg 9 I,PV.int .i64 n1] N Q:=
 eE H0 h
theorem rj (N:Nat) (x0:D) (n1:Int) (Q:QT [.int .i64]) (h :
Bel N x0->∃ n:Int,(x0.cell 0)=D.j n/\Br (n==10) (uP N (Q (IntKind.i64.wrap (n1+1)))) (Br (n==11) (uP N (Q (IntKind.i64.wrap (n1 - 1)))) (uP N
 (Q n1)))):ACalls prog 175 [.int .i64] [PV.dg 9 x0,PV.int .i64 n1] N Q:=
  eE H0 h
theorem GI (N:Nat) (I:D) (n1:Int) (Q:QT [.bool]) (h :
Bel N I->kB 64 [.dg 9 I] N (λb a=>Br b (kB 118 [.dg 9 I,.j n1,.fn 119 []] a (λa b=>uP b (Q a))) (uP a (Q false)))):ACalls prog 57 [.bool] [PV.dg 9 I,PV.int .i64 n1] N Q:=
 eE Ek h
theorem GM (N:Nat) (a0:Option Addr) (e0:List D) (c0:Nat) (I:ByteArray) (Q:QT [.int .i64]) (h :
Bel N (D.sl a0 4 e0 c0)->xo Q N a0 e0 c0 I (IntKind.i64.wrap ((e0.length:Int) - 1)) N):ACalls prog 177 [.int .i64] [PV.sv a0 4 e0 c0,PV.str I] N Q:=
 eE rz h
theorem GL (N:Nat) (I:D) (Q:QT [.ag 2]) (h :
Bel N I->∃ n:Int,(I.cell 0)=D.j n/\∃ a b,∃ c:Nat,(I.cell 1)=D.sl a 2 b c/\vT Q N a b c (b.length:Int) 0 0 none [] 0 n
 none [] 0 N):ACalls prog 178 [.ag 2] [PV.dg 2 I] N Q:=
  eE ue h
theorem LY (N:Nat)  (Q:QT [.ag 2]) (h :
uP N (Q (D.ag [D.j 1,D.sl none 2 [] 0]))):ACalls prog 179 [.ag 2] [] N Q:=
 eE H0 h
theorem Jg (N:Nat)  (Q:QT [.ag 2]) (h :
uP N (Q (D.ag [D.j 2,D.sl none 2 [] 0]))):ACalls prog 180 [.ag 2] [] N Q:=
 eE H0 h
theorem Je (N:Nat) (I:ByteArray) (a1:Option Addr) (e1:List D) (c1:Nat) (Q:QT [.ag 2]) (h :
Bel N (D.sl a1 2 e1 c1)->kA 2 179 [] N (λx a=>kA 2 179 [] a (λa b=>Br (ByteArray.toList I==ByteArray.toList (bytes [61])) (kA 2 180 []
 b (λa b=>zP Q N a1 e1 c1 (e1.length:Int) 0 0 none [] 0 x a b)) (Br (ByteArray.toList I==ByteArray.toList (bytes [60])) (kA 2 180
 [] b (λa b=>zP Q N a1 e1 c1 (e1.length:Int) 0 0 none [] 0 x a b)) (Br (ByteArray.toList I==ByteArray.toList (bytes [38])) (kA 2
 180 [] b (λa b=>kA 2 180 [] b (λb c=>zP Q N a1 e1 c1 (e1.length:Int) 0 0 none [] 0 a b c))) (Br (ByteArray.toList I
 == ByteArray.toList (bytes [124])) (kA 2 180 [] b (λa b=>kA 2 180 [] b (λb c=>zP Q N a1 e1 c1 (e1.length:Int) 0 0 none [] 0
 a b c))) (Br (ByteArray.toList I==ByteArray.toList (bytes [33])) (kA 2 180 [] b (λa b=>kA 2 180 [] b (λb c=>zP Q N
 a1 e1 c1 (e1.length:Int) 0 0 none [] 0 a b c))) (zP Q N a1 e1 c1 (e1.length:Int) 0 0 none [] 0 x a b)))))))):ACalls prog 181 [.ag 2] [PV.str I,PV.sv a1 2 e1 c1] N Q:=
  eE Ap h
theorem q9 (N:Nat) (a0:Option Addr) (e0:List D) (c0:Nat) (Q:QT [.row 94 4]) (h :
Bel N (D.sl a0 4 e0 c0)->Br (Option.isNone a0) (uP N (Q [] 0)) ((0=0/\0=0)/\zB [] e0 56/\∀(c:Nat),(([]++e0).length=([]++e0).length /\
 c=c)/\uP N (Q ([]++e0) c))):ACalls prog 224 [.row 94 4] [PV.sv a0 4 e0 c0] N Q:=
  eE H0 h
theorem Mt (N:Nat) (a0:Option Addr) (e0:List D) (c0:Nat) (a1:Option Addr) (e1:List D) (c1:Nat) (Q:QT [.sl 4]) (h :
Bel N (D.sl a0 4 e0 c0)->Bel N (D.sl a1 4 e1 c1)->∀ b,N<=b->ACalls prog 224 [.row 94 4] [.sv a0 4 e0 c0] b (λc d e=>b<=e->Bel e (D.ag
 c)->(c.length=c.length/\d=d)/\zB c e1 56/\∀(b:Nat),w2 ((c++e1).length=(c++e1).length/\b=b) (∀ a d,e<=d->Fresh N d a
 [D.ag (c++e1)]->uP d (Q a (c++e1) b)))):ACalls prog 183 [.sl 4] [PV.sv a0 4 e0 c0,PV.sv a1 4 e1 c1] N Q:=
  eE H0 h
theorem LX (N:Nat) (I J:D) (Q:QT [.ag 2]) (h :
Bel N I->Bel N J->kA 2 178 [.dg 2 I] N (λx b=>kA 2 178 [.dg 2 J] b (λb c=>w3 (2=([x,b]).length/\2=2) (∀ a d,c<=d->Fresh
 N d a [D.ag [x,b]]->uP d (Q (D.ag [D.j 3,D.sl a 2 [x,b] 2])))))):ACalls prog 184 [.ag 2] [PV.dg 2 I,PV.dg 2 J] N Q:=
  eE KF h
theorem Jh (N:Nat) (I:D) (Q:QT [.ag 2]) (h :
Bel N I->kA 2 178 [.dg 2 I] N (λx b=>w3 (1=([x]).length/\1=1) (∀ a c,b<=c->Fresh N c a [D.ag [x]]->uP c (Q (D.ag [D.j 4,D.sl a 2
 [x] 1]))))):ACalls prog 225 [.ag 2] [PV.dg 2 I] N Q:=
  eE IN h
theorem Jc (N:Nat) (I:D) (Q:QT [.ag 2]) (h :
Bel N I->∃ n:Int,(I.cell 0)=D.j n/\Br (bne n 4) (uP N (Q (D.ag [D.j 0,D.sl none 2 [] 0]))) (∃ a b,∃ c:Nat,(I.cell 1)=D.sl a 2 b c/\((0
 : Int)<=(0:Int)/\0<(b.length:Int))/\kA 2 178 [.dg 2 (List.getD b 0 default)] N (λx a=>uP a (Q x)))):ACalls prog 226 [.ag 2] [PV.dg 2 I] N Q:=
  eE IL h
theorem JW (N:Nat) (x0:D) (Q:QT [.bool]) (h :
Bel N x0->∃ n:Int,(x0.cell 0)=D.j n/\kB 39 [.j n,.j 1,.j 2] N (fun b d=>Br b (∃ a b,∃ c:Nat,(x0.cell 1)=D.sl a 2 b c/\uP d (Q
 ((b.length:Int)==0))) (uP d (Q false)))):ACalls prog 228 [.bool] [PV.dg 2 x0] N Q:=
  eE H0 h
theorem HC (N:Nat) (a0:Option Addr) (e0:List D) (c0:Nat) (n1:Int) (Q:QT [.sl 4]) (h :
Bel N (D.sl a0 4 e0 c0)->yN Q N a0 e0 c0 n1 0 0 a0 e0 c0 (e0.length:Int) 0 [] 0 N):ACalls prog 227 [.sl 4] [PV.sv a0 4 e0 c0,PV.int .i64 n1] N Q:=
 eE p7 h
theorem EH (N:Nat) (a0:Option Addr) (e0:List D) (c0:Nat) (I:D) (n2:Int) (Q:QT [.ag 2]) (h :
Bel N (D.sl a0 4 e0 c0)->Bel N I->∃ n:Int,(I.cell 0)=D.j n/\Br (n==10) (∃ a b,∃ c:Nat,(I.cell 8)=D.sl a 9 b c/\((0:Int)<=(0:Int)
 /\ 0<(b.length:Int))/\kA 2 58 [.sv a0 4 e0 c0,.dg 9 (List.getD b 0 default),.j (IntKind.i64.wrap (n2+1))] N (λx a=>∃ b:Int,(x.cell 0)=D.j
 b/\Br (bne b 0) (kA 2 225 [.dg 2 x] a (λa b=>uP b (Q a))) (uP a (Q (D.ag [D.j 0,D.sl none 2 [] 0]))))) (Br (n==11) (∃ a b,∃ c :
 Nat,(I.cell 8)=D.sl a 9 b c/\((0:Int)<=(0:Int)/\0<(b.length:Int))/\kA 2 58 [.sv a0 4 e0 c0,.dg 9 (List.getD b 0 default),.j
 (IntKind.i64.wrap (n2 - 1))] N (λa b=>kA 2 226 [.dg 2 a] b (λa b=>uP b (Q a)))) (Br (n==12) (∃ a b,∃ c:Nat,(I.cell 8) =
 D.sl a 9 b c/\((0:Int)<=(0:Int)/\0<(b.length:Int))/\kL 4 227 [.sv a0 4 e0 c0,.j n2] N (λa c d e=>kA 2 58 [.sv a 4 c
 d,.dg 9 (List.getD b 0 default),.j n2] e (λa b=>kA 2 226 [.dg 2 a] b (λa b=>uP b (Q a))))) (Br (n==13) (∃ a c,∃ d :
 Nat,(I.cell 8)=D.sl a 9 c d/\((0:Int)<=(0:Int)/\0<(c.length:Int))/\kA 2 58 [.sv a0 4 e0 c0,.dg 9 (List.getD c 0 default),.j n2] N
 (λa c=>kB 228 [.dg 2 a] c (λb c=>Br b (kA 2 225 [.dg 2 a] c (λa b=>uP b (Q a))) (uP c (Q (D.ag [D.j 0,D.sl none 2 []
 0])))))) (uP N (Q (D.ag [D.j 0,D.sl none 2 [] 0]))))))):ACalls prog 185 [.ag 2] [PV.sv a0 4 e0 c0,PV.dg 9 I,PV.int .i64 n2] N Q:=
  eE Dn h
theorem zX (N:Nat) (a0:Option Addr) (e0:List D) (c0:Nat) (x1:D) (n2:Int) (Q:QT [.ag 2]) (h :
Bel N (D.sl a0 4 e0 c0)->Bel N x1->∃ n:Int,(x1.cell 0)=D.j n/\Br (n==1) (∃ s,(x1.cell 1)=D.t s/\kI 177 [.sv a0 4 e0 c0,.str s] N (fun a b
 => Br (decide (a≥0)) ((0<=a/\a<(e0.length:Int))/\∃ c:Int,(if 0=0 then D.cell (List.getD e0 a.toNat default) 3 else D.sub (List.getD e0
 a.toNat default) 3 0)=D.j c/\Br (c==n2) ((0<=a/\a<(e0.length:Int))/\kA 2 178 [.dg 2 (if 2=0 then D.cell (List.getD e0 a.toNat default)
 1 else D.sub (List.getD e0 a.toNat default) 1 2)] b (fun x a=>uP a (Q x))) (uP b (Q (D.ag [D.j 0,D.sl none 2 [] 0])))) (uP b (Q (D.ag [D.j 0,D.sl
 none 2 [] 0]))))) (Br (n==2) (kA 2 179 [] N (fun a b=>uP b (Q a))) (Br (n==3) (kA 2 180 [] N (fun a b=>uP b (Q a))) (Br (n==4) (∃ a b,
 ∃ c:Nat,(x1.cell 8)=D.sl a 9 b c/\yr Q N 0 0 (b.length:Int) 0 x1 0 none [] 0 a0 e0 c0 n2 [] 0 N) (Br (n==5) (∀ a,ApA (Option.some
 a) [D.sl a0 4 e0 c0]->∀ c,ApA (Option.some c) [x1]->∀ d,ApA (Option.some d) [D.j n2]->∀ e,N<=e->vN e [Option.some a,Option.some
 c,Option.some d]->ACalls prog 176 [.ag 2] [.j 1,.pd a 0 (D.sl a0 4 e0 c0),.pd c 9 x1,.pd d 0 (D.j n2)] e (fun f g=>e<=g->Off
 [Option.some a,Option.some c,Option.some d] f/\(Bel g f->∀ a,ApA (Option.some a) [D.sl a0 4 e0 c0]->∀ c,ApA (Option.some c) [x1]
 -> ∀ d,ApA (Option.some d) [D.j n2]->∀ e,g<=e->vN e [Option.some a,Option.some c,Option.some d]->ACalls prog 176 [.ag 2] [.j 2,
 .pd a 0 (D.sl a0 4 e0 c0),.pd c 9 x1,.pd d 0 (D.j n2)] e (fun g h=>e<=h->Off [Option.some a,Option.some c,Option.some d] g
 /\ (Bel h g->∀ a,ApA (Option.some a) [D.sl a0 4 e0 c0]->∀ c,ApA (Option.some c) [x1]->∀ d,ApA (Option.some d) [D.j n2]->∀ e,h <=
 e->vN e [Option.some a,Option.some c,Option.some d]->ACalls prog 176 [.ag 2] [.j 0,.pd a 0 (D.sl a0 4 e0 c0),.pd c 9 x1,.pd d 0
 (D.j n2)] e (fun h i=>e<=i->Off [Option.some a,Option.some c,Option.some d] h/\(Bel i h->kA 2 180 [] i (fun a c=>kB 182
 [.dg 2 h,.dg 2 a] c (fun b a=>Br b (kB 182 [.dg 2 f,.dg 2 g] a (fun a b=>Br a (uP b (Q f)) (uP b (Q (D.ag [D.j 0,D.sl none 2 []
 0]))))) (uP a (Q (D.ag [D.j 0,D.sl none 2 [] 0])))))))))))) (Br (n==7) (∀ a,ApA (Option.some a) [D.sl a0 4 e0 c0]->∀ b,ApA (Option.some b)
 [x1]->∀ c,ApA (Option.some c) [D.j n2]->∀ d,N<=d->vN d [Option.some a,Option.some b,Option.some c]->ACalls prog 176 [.ag 2]
 [.j 0,.pd a 0 (D.sl a0 4 e0 c0),.pd b 9 x1,.pd c 0 (D.j n2)] d (fun e f=>d<=f->Off [Option.some a,Option.some b,Option.some
 c] e/\(Bel f e->∀ a,ApA (Option.some a) [D.sl a0 4 e0 c0]->∀ b,ApA (Option.some b) [x1]->∀ c,ApA (Option.some c) [D.j
 n2]->∀ d,f<=d->vN d [Option.some a,Option.some b,Option.some c]->ACalls prog 176 [.ag 2] [.j 1,.pd a 0 (D.sl a0 4 e0 c0),.pd
 b 9 x1,.pd c 0 (D.j n2)] d (fun f g=>d<=g->Off [Option.some a,Option.some b,Option.some c] f/\(Bel g f->∃ a :
 Int,(e.cell 0)=D.j a/\Br (a==3) (∃ a b,∃ c:Nat,(e.cell 1)=D.sl a 2 b c/\((0:Int)<=(0:Int)/\0<(b.length:Int)) /\
 kB 182 [.dg 2 (List.getD b 0 default),.dg 2 f] g (fun a b=>Br a (∃ a c,∃ d:Nat,(e.cell 1)=D.sl a 2 c d/\((0:Int)<=(1 :
 Int)/\1<(c.length:Int))/\kA 2 178 [.dg 2 (List.getD c 1 default)] b (fun a b=>uP b (Q a))) (uP b (Q (D.ag [D.j 0,D.sl none 2 []
 0]))))) (uP g (Q (D.ag [D.j 0,D.sl none 2 [] 0])))))))) (Br (n==6) (∃ a,(x1.cell 1)=D.t a/\∃ b c,∃ d:Nat,(x1.cell 8)=D.sl b 9 c
 d/\((0:Int)<=(0:Int)/\0<(c.length:Int))/\(1=([D.ag [D.t a,D.cell (D.sub x1 4 2) 0,D.cell (D.sub x1 4 2) 1,D.j n2]]).length/\1=1)/\∀
 b,ApA b [D.ag [D.t a,D.cell (D.sub x1 4 2) 0,D.cell (D.sub x1 4 2) 1,D.j n2]]->Off [b] (D.sl a0 4 e0 c0)->∀ d,N<=d->vN d [b]->ACalls
 prog 183 [.sl 4] [.sv a0 4 e0 c0,.sv b 4 [D.ag [D.t a,D.cell (D.sub x1 4 2) 0,D.cell (D.sub x1 4 2) 1,D.j n2]] 1] d (fun a e f g=>d<=g
 -> Off [b] (D.sl a 4 e f)/\(Bel g (D.sl a 4 e f)->kA 2 58 [.sv a 4 e f,.dg 9 (List.getD c 0 default),.j n2] g (fun a b=>
 ∃ c:Int,(a.cell 0)=D.j c/\Br (c==0) (uP b (Q (D.ag [D.j 0,D.sl none 2 [] 0]))) (kA 2 184 [.dg 2 (D.sub x1 4 2),.dg 2 a] b (fun a
 b=>uP b (Q a))))))) (Br (n==8) (∀ a,ApA (Option.some a) [D.sl a0 4 e0 c0]->∀ b,ApA (Option.some b) [x1]->∀ c,ApA
 (Option.some c) [D.j n2]->∀ d,N<=d->vN d [Option.some a,Option.some b,Option.some c]->ACalls prog 176 [.ag 2] [.j 0,.pd a 0
 (D.sl a0 4 e0 c0),.pd b 9 x1,.pd c 0 (D.j n2)] d (fun e f=>d<=f->Off [Option.some a,Option.some b,Option.some c] e /\
 (Bel f e->∃ a:Int,(e.cell 0)=D.j a/\Br (a==0) (uP f (Q (D.ag [D.j 0,D.sl none 2 [] 0]))) (∃ a,(x1.cell 1)=D.t a/\∃ b c,∃
 d:Nat,(x1.cell 8)=D.sl b 9 c d/\((0:Int)<=(1:Int)/\1<(c.length:Int))/\(1=([D.ag [D.t a,(e.cell 0),(e.cell 1),D.j
 n2]]).length/\1=1)/\∀ b,ApA b [D.ag [D.t a,(e.cell 0),(e.cell 1),D.j n2]]->Off [b] (D.sl a0 4 e0 c0)->∀ d,f<=d->vN d [b]
 -> ACalls prog 183 [.sl 4] [.sv a0 4 e0 c0,.sv b 4 [D.ag [D.t a,(e.cell 0),(e.cell 1),D.j n2]] 1] d (fun a e f g=>d<=g->Off
 [b] (D.sl a 4 e f)/\(Bel g (D.sl a 4 e f)->kA 2 58 [.sv a 4 e f,.dg 9 (List.getD c 1 default),.j n2] g (fun a b=>uP b
 (Q a)))))))) (Br (n==9) (kA 2 184 [.dg 2 (D.sub x1 4 2),.dg 2 (D.sub x1 6 2)] N (fun a b=>∃ c,(x1.cell 1)=D.t c/\∃ d,(x1.cell 2)=D.t
 d/\∃ e f,∃ g:Nat,(x1.cell 8)=D.sl e 9 f g/\((0:Int)<=(0:Int)/\0<(f.length:Int))/\(2=([D.ag [D.t c,(a.cell 0),
 (a.cell 1),D.j n2],D.ag [D.t d,D.cell (D.sub x1 4 2) 0,D.cell (D.sub x1 4 2) 1,D.j n2]]).length/\2=2)/\∀ e,ApA e [D.ag [D.t c,(a.cell
 0),(a.cell 1),D.j n2],D.ag [D.t d,D.cell (D.sub x1 4 2) 0,D.cell (D.sub x1 4 2) 1,D.j n2]]->Off [e] (D.sl a0 4 e0 c0)->∀ g,b<=g->vN
 g [e]->ACalls prog 183 [.sl 4] [.sv a0 4 e0 c0,.sv e 4 [D.ag [D.t c,(a.cell 0),(a.cell 1),D.j n2],D.ag [D.t d,D.cell (D.sub x1 4 2) 0,
 D.cell (D.sub x1 4 2) 1,D.j n2]] 2] g (fun b c d h=>g<=h->Off [e] (D.sl b 4 c d)/\(Bel h (D.sl b 4 c d)->kA 2 58
 [.sv b 4 c d,.dg 9 (List.getD f 0 default),.j n2] h (fun b c=>kB 182 [.dg 2 b,.dg 2 (D.sub x1 6 2)] c (fun b c=>Br b (uP c
 (Q a)) (uP c (Q (D.ag [D.j 0,D.sl none 2 [] 0]))))))))) (kA 2 185 [.sv a0 4 e0 c0,.dg 9 x1,.j n2] N (fun a b=>uP b (Q a)))))))))))):ACalls prog 120 [.ag 2] [PV.sv a0 4 e0 c0,PV.dg 9 x1,PV.int .i64 n2] N Q:=
  eE r9 h
theorem LZ (N:Nat) (a0:Option Addr) (e0:List D) (c0:Nat) (I:D) (n2:Int) (Q:QT [.ag 2]) (h :
Bel N (D.sl a0 4 e0 c0)->Bel N I->kA 2 120 [.sv a0 4 e0 c0,.dg 9 I,.j n2] N (λx a=>kB 62 [.dg 2 x] a (λb a=>Br (!b) (uP a (Q (D.ag [D.j
 0,D.sl none 2 [] 0]))) (uP a (Q x))))):ACalls prog 58 [.ag 2] [PV.sv a0 4 e0 c0,PV.dg 9 I,PV.int .i64 n2] N Q:=
  eE KG h
theorem Jb (N:Nat) (a0:Option Addr) (e0:List D) (c0:Nat) (I:D) (n2:Int) (Q:QT [.ag 2,.bool]) (h :
Bel N (D.sl a0 4 e0 c0)->Bel N I->kB 56 [.sv a0 4 e0 c0] N (λb a=>Br (!b) (uP a (Q (D.ag [D.j 0,D.sl none 2 [] 0]) false)) (kB 57 [.dg 9 I,.j
 n2] a (λa b=>Br (!a) (uP b (Q (D.ag [D.j 0,D.sl none 2 [] 0]) false)) (kA 2 58 [.sv a0 4 e0 c0,.dg 9 I,.j n2] b (λx a=>∃ n:Int,(x.cell
 0)=D.j n/\uP a (Q x (bne n 0)))))))):ACalls prog 24 [.ag 2,.bool] [PV.sv a0 4 e0 c0,PV.dg 9 I,PV.int .i64 n2] N Q:=
  eE IK h
theorem vv {Q:QT [.int .i64]} {N0:Nat} {a0:Option Addr} {e0:List D} {c0:Nat} {J:ByteArray} {O I:Int} {N:Nat} (h :
Br (decide (I<O)) ((0<=I/\I<(e0.length:Int))/\∃ s,List.getD e0 I.toNat default=D.t s/\Br (ByteArray.toList J==ByteArray.toList s) (uP
 N (Q I)) (yu Q N0 a0 e0 c0 J O (IntKind.i64.wrap (I+1)) N)) (uP N (Q (-1)))):yu Q N0 a0 e0 c0 J O I N:=
  hE uf h
theorem qR {Q:QT [.bool]} {N0:Nat} {J:ByteArray} {O I:Int} {N:Nat} (h :
Br (decide (I<O)) ((0<=I/\I<(J.size:Int))/\Br (decide ((UInt8.toNat (Array.getD (ByteArray.data J) I.toNat (OfNat.ofNat 0)):Int)≥97))
 ((0<=I/\I<(J.size:Int))/\Br (!(decide ((UInt8.toNat (Array.getD (ByteArray.data J) I.toNat (OfNat.ofNat 0)):Int)<=122))) (Br (I==0) (uP N (Q
 false)) ((0<=I/\I<(J.size:Int))/\Br (decide ((UInt8.toNat (Array.getD (ByteArray.data J) I.toNat (OfNat.ofNat 0)):Int)<48)) (uP N (Q false)) ((0
 <= I/\I<(J.size:Int))/\Br (decide ((UInt8.toNat (Array.getD (ByteArray.data J) I.toNat (OfNat.ofNat 0)):Int)>57)) (uP N (Q false))
 (xI Q N0 J O (IntKind.i64.wrap (I+1)) N)))) (xI Q N0 J O (IntKind.i64.wrap (I+1)) N)) (Br (I==0) (uP N (Q false)) ((0 <=
 I/\I<(J.size:Int))/\Br (decide ((UInt8.toNat (Array.getD (ByteArray.data J) I.toNat (OfNat.ofNat 0)):Int)<48)) (uP N (Q false)) ((0<=I/\I <
 (J.size:Int))/\Br (decide ((UInt8.toNat (Array.getD (ByteArray.data J) I.toNat (OfNat.ofNat 0)):Int)>57)) (uP N (Q false)) (xI Q N0 J O
 (IntKind.i64.wrap (I+1)) N))))) (kB 39 [.j (J.size:Int),.j 1,.j 4] N (λb c=>Br b ((5=5/\5=5)/\∀ a,ApA a [D.t (bytes [105,102]),D.t (bytes
 [108,101,116]),D.t (bytes [108,105,102,116]),D.t (bytes [114,101,99]),D.t (bytes [114,117,110])]->∀ b,c<=b->vN b [a]->ACalls prog 174
 [.bool] [.sv a 0 [D.t (bytes [105,102]),D.t (bytes [108,101,116]),D.t (bytes [108,105,102,116]),D.t (bytes [114,101,99]),D.t (bytes [114,117,
 110])] 5,.str J] b (λa c=>b<=c->uP c (Q (!a)))) (uP c (Q false))))):xI Q N0 J O I N:=
  hE Ai h
theorem uq {Q:QT [.int .i64]} {N0:Nat} {n3:Int} {a7:Option Addr} {e7:List D} {c7:Nat} {n8 n9:Int} {N:Nat} (h :
Br (decide (n9<n8)) ((0<=n9/\n9<(e7.length:Int))/\kI 126 [.dg 2 (List.getD e7 n9.toNat default)] N (fun n a=>xS Q N0
 (IntKind.i64.wrap (n3+n)) a7 e7 c7 n8 (IntKind.i64.wrap (n9+1)) a)) (uP N (Q n3))):xS Q N0 n3 a7 e7 c7 n8 n9 N:=
  hE sA h
theorem uK {Q:QT [.int .i64]} {N0:Nat} {J:Int} {Y:Option Addr} {O:List D} {c7:Nat} {U I:Int} {N:Nat} (h :
Br (decide (I<U)) ((0<=I/\I<(O.length:Int))/\kI 127 [.dg 2 (List.getD O I.toNat default)] N (λn a=>xD Q N0 (if n >
 J then n else J) Y O c7 U (IntKind.i64.wrap (I+1)) a)) (uP N (Q (IntKind.i64.wrap (J+1)))) ):xD Q N0 J Y O c7 U I N:=
  hE tM h
theorem CA (N:Nat) (x0:D) (Q:QT [.bool]) (h :
Bel N x0->kB 129 [.dg 2 x0] N (fun b d=>Br b (∃ a b,∃ c:Nat,(x0.cell 1)=D.sl a 2 b c/\∀ e,ApA (Option.some e) [D.fn (OfNat.ofNat 129) []] ->
 Off [Option.some e] (D.sl a 2 b c)->∀ f,d<=f->vN f [Option.some e]->ACalls prog 192 [.bool] [.sv a 2 b c,.fn 193 [.pd e 0 (.fn 129 [])]] f
 (fun a b=>f<=b->uP b (Q (!a)))) (uP d (Q false)))):ACalls prog 128 [.bool] [.dg 2 x0,.fn 129 []] N Q:=
  eE Eo h
theorem ve (N:Nat) (a0:Option Addr) (e0:List D) (c0:Nat) (Q:QT [.bool]) (h :
Bel N (D.sl a0 4 e0 c0)->kI 173 [.sv a0 4 e0 c0,.fn 116 []] N (λn a=>uP a (Q (decide (n≥0))))):ACalls prog 115 [.bool] [.sv a0 4 e0 c0,.fn 116 []] N Q:=
 eE H0 h
theorem tI (N:Nat) (a0:Option Addr) (e0:List D) (c0:Nat) (a1:Option Addr) (e1:List D) (c1:Nat) (Q:QT [.bool]) (h :
Bel N (D.sl a0 2 e0 c0)->Bel N (D.sl a1 2 e1 c1)->Br (bne (e0.length:Int) (e1.length:Int)) (uP N (Q false)) (zW Q N a1 e1 c1
 a0 e0 c0 (e0.length:Int) 0 N)):ACalls prog 223 [.bool] [.sv a0 2 e0 c0,.sv a1 2 e1 c1,.fn 182 []] N Q:=
  eE wg h
theorem B9 (N:Nat) (x0:D) (Q:QT [.bool]) (h :
Bel N x0->kB 131 [.dg 9 x0] N (fun b d=>Br b (∃ a b,∃ c:Nat,(x0.cell 8)=D.sl a 9 b c/\∀ e,ApA (Option.some e) [D.fn (OfNat.ofNat 131) []] ->
 Off [Option.some e] (D.sl a 9 b c)->∀ f,d<=f->vN f [Option.some e]->ACalls prog 194 [.bool] [.sv a 9 b c,.fn 195 [.pd e 0 (.fn 131 [])]] f
 (fun a b=>f<=b->uP b (Q (!a)))) (uP d (Q false)))):ACalls prog 130 [.bool] [.dg 9 x0,.fn 131 []] N Q:=
  eE En h
theorem EF (N:Nat) (I:D) (n1:Int) (Q:QT [.bool]) (h :
Bel N I->kB 119 [.dg 9 I,.j n1] N (λb d=>Br (!b) (uP d (Q false)) (∃ a b,∃ c:Nat,(I.cell 8)=D.sl a 9 b c/\wk Q N n1 a b
 c (b.length:Int) 0 I d))):ACalls prog 118 [.bool] [.dg 9 I,.int .i64 n1,.fn 119 []] N Q:=
  eE Ao h
theorem sP {Q:QT [.int .i64]} {N0:Nat} {a0:Option Addr} {e0:List D} {c0:Nat} {s1:ByteArray} {n5:Int} {N:Nat} (h :
Br (decide (n5≥0)) ((0<=n5/\n5<(e0.length:Int))/\∃ s,(if 0=0 then D.cell (List.getD e0 n5.toNat default) 0 else D.sub (List.getD e0 n5.toNat
 default) 0 0)=D.t s/\Br (ByteArray.toList s==ByteArray.toList s1) (uP N (Q n5)) (xo Q N0 a0 e0 c0 s1 (IntKind.i64.wrap (n5 - 1)) N)) (uP N
 (Q (-1)))):xo Q N0 a0 e0 c0 s1 n5 N:=
  hE rz h
theorem sO {Q:QT [.ag 2]} {N0:Nat} {aj:Option Addr} {aa:List D} {ak:Nat} {ai J ab:Int} {ac:Option Addr} {ae:List D} {ah:Nat} {O:Int} {U:Option Addr} {I:List D} {Y:Nat} {N:Nat} (h :
Br (decide (J<ai)) ((0<=J/\J<(aa.length:Int))/\kA 2 178 [.dg 2 (List.getD aa J.toNat default)] N (λx a=>Vm U I Y [x] /\
 zB I [x] 32/\∀(c:Nat),xF Q N0 aj aa ak ai (IntKind.i64.wrap (J+1)) ab ac ae ah O (I++[x]).length c (I
 ++ [x]) c a)) (uP N (Q (D.ag [D.j O,D.sl U 2 I Y])))):vT Q N0 aj aa ak ai J ab ac ae ah O U I Y N:=
  hE ue h
theorem rW {Q:QT [.ag 2]} {N0:Nat} {a22:Option Addr} {e22:List D} {c22:Nat} {n23 n24 n0_0:Int} {a0_1:Option Addr} {e0_1:List D} {c0_1:Nat} {y1 y2:D} {N:Nat} (h :
Br (decide (n24<n23)) ((0<=n24/\n24<(e22.length:Int))/\kB 182 [.dg 2 (List.getD e22 n24.toNat default),.dg 2 y1] N (fun b a=>Br (!b) (uP a (Q
 (D.ag [D.j 0,D.sl none 2 [] 0]))) (zP Q N0 a22 e22 c22 n23 (IntKind.i64.wrap (n24+1)) n0_0 a0_1 e0_1 c0_1 y1 y2 a))) (uP N (Q y2))):zP Q N0 a22 e22 c22 n23 n24 n0_0 a0_1 e0_1 c0_1 y1 y2 N:=
  hE Ap h
theorem rT {Q:QT [.sl 4]} {N0:Nat} {a0:Option Addr} {e0:List D} {c0:Nat} {n1:Int} {Y c5:Nat} {a9:Option Addr} {O:List D} {c9:Nat} {J I:Int} {r0:List D} {U:Nat} {N:Nat} (h :
Br (decide (I<J)) ((0<=I/\I<(O.length:Int))/\kB 228 [.dg 2 (D.sub (List.getD O I.toNat default) 1 2)] N (λb a=>Br b (∃ n:Int,
 D.cell (List.getD O I.toNat default) 3=D.j n/\Br (decide (n<=n1)) (∃ s,D.cell (List.getD O I.toNat default) 0=D.t s/\kI 177 [.sv a0 4 e0 c0,.str
 s] a (λa b=>Br (a==I) (∃ a,D.cell (List.getD O I.toNat default) 0=D.t a/\∃ d:Int,D.cell (List.getD O I.toNat default) 3=D.j
 d/\kA 2 178 [.dg 2 (D.sub (List.getD O I.toNat default) 1 2)] b (λx b=>(Y=r0.length/\c5=U)/\zB r0 [D.ag [D.t a,(x.cell 0),(x.cell
 1),D.j d]] 56/\∀(c:Nat),yN Q N0 a0 e0 c0 n1 (r0++[D.ag [D.t a,(x.cell 0),(x.cell 1),D.j d]]).length c a9 O c9 J
 (IntKind.i64.wrap (I+1)) (r0++[D.ag [D.t a,(x.cell 0),(x.cell 1),D.j d]]) c b)) (yN Q N0 a0 e0 c0 n1 Y c5 a9 O c9 J
 (IntKind.i64.wrap (I+1)) r0 U b))) (yN Q N0 a0 e0 c0 n1 Y c5 a9 O c9 J (IntKind.i64.wrap (I+1)) r0 U a)) (yN Q N0 a0
 e0 c0 n1 Y c5 a9 O c9 J (IntKind.i64.wrap (I+1)) r0 U a))) (w3 (Y=r0.length/\c5=U) (∀ a b,N<=b->Fresh N0 b a [D.ag r0]->uP b (Q a r0
 U)))):yN Q N0 a0 e0 c0 n1 Y c5 a9 O c9 J I r0 U N:=
  hE p7 h
theorem tX {Q:QT [.ag 2]} {N0:Nat} {m9 c9:Nat} {ah Y:Int} {y0:D} {aa:Int} {ab:Option Addr} {ac:List D} {ae:Nat} {I:Option Addr} {J:List D} {O:Nat} {U:Int} {r4:List D} {q4:Nat} {N:Nat} (h :
Br (decide (Y<ah)) (∀ a,ApA (Option.some a) [D.sl I 4 J O]->∀ b,ApA (Option.some b) [y0]->∀ d,ApA (Option.some d) [D.j
 U]->∀ e,N<=e->vN e [Option.some a,Option.some b,Option.some d]->ACalls prog 176 [.ag 2] [.j Y,.pd a 0 (D.sl I 4 J O),.pd
 b 9 y0,.pd d 0 (D.j U)] e (λx f=>e<=f->Off [Option.some a,Option.some b,Option.some d] x/\(Bel f x->(m9=r4.length/\c9=q4)
 /\ zB r4 [x] 32/\∀(c:Nat),yr Q N0 (r4++[x]).length c ah (IntKind.i64.wrap (Y+1)) y0 aa ab ac ae I J O U (r4
 ++ [x]) c f))) (∃ s,(y0.cell 1)=D.t s/\(m9=r4.length/\c9=q4)/\∀ a,ApA a r4->∀ b,N<=b->vN b [a]->ACalls prog 181 [.ag 2] [.str s,.sv a 2
 r4 c9] b (λc d=>b<=d->Off [a] c/\(Bel d c->uP d (Q c))))):yr Q N0 m9 c9 ah Y y0 aa ab ac ae I J O U r4 q4 N:=
  hE r9 h
theorem p3 (N:Nat) (n0:Int) (a1:Addr) (x1_:D) (a2:Addr) (x2_:D) (a3:Addr) (x3_:D) (Q:QT [.ag 2]) (h :
∃ a b,∃ c:Nat,x1_=D.sl a 4 b c/\∃ d e,∃ f:Nat,(if 0=0 then(x2_.cell 8)else D.sub x2_ 8 0)=D.sl d 9 e f/\(0<=n0/\n0 <
 (e.length:Int))/\∃ n:Int,x3_=D.j n/\kA 2 58 [.sv a 4 b c,.dg 9 (List.getD e n0.toNat default),.j n] N (fun x a=>uP a (Q x))):ACalls prog 176 [.ag 2] [.int .i64 n0,.pd a1 0 x1_,.pd a2 9 x2_,.pd a3 0 x3_] N Q:=
  eE CR h
theorem uJ (N:Nat) (a0:Option Addr) (e0:List D) (c0:Nat) (I:Addr) (Q:QT [.bool]) (h :
Bel N (D.sl a0 2 e0 c0)->kI 234 [.sv a0 2 e0 c0,.fn 193 [.pd I 0 (.fn 129 [])]] N (λn a=>uP a (Q (decide (n≥0))))):ACalls prog 192 [.bool] [.sv a0 2 e0 c0,.fn 193 [.pd I 0 (.fn 129 [])]] N Q:=
 eE H0 h
theorem uX (N:Nat) (a0:Option Addr) (e0:List D) (c0:Nat) (Q:QT [.int .i64]) (h :
Bel N (D.sl a0 4 e0 c0)->zk Q N a0 e0 c0 (e0.length:Int) 0 N):ACalls prog 173 [.int .i64] [.sv a0 4 e0 c0,.fn 116 []] N Q:=
 eE xy h
theorem x3 {Q:QT [.bool]} {N0:Nat} {a1:Option Addr} {e1:List D} {c1:Nat} {U:Option Addr} {J:List D} {Y:Nat} {O I:Int} {N:Nat} (h :
Br (decide (I<O)) ((0<=I/\I<(J.length:Int))/\(0<=I/\I<(e1.length:Int))/\kB 182 [.dg 2 (List.getD J I.toNat default),.dg
 2 (List.getD e1 I.toNat default)] N (λb a=>Br (!b) (uP a (Q false)) (zW Q N0 a1 e1 c1 U J Y O (IntKind.i64.wrap (I +
 1)) a))) (uP N (Q true))):zW Q N0 a1 e1 c1 U J Y O I N:=
  hE wg h
theorem uI (N:Nat) (a0:Option Addr) (e0:List D) (c0:Nat) (I:Addr) (Q:QT [.bool]) (h :
Bel N (D.sl a0 9 e0 c0)->kI 235 [.sv a0 9 e0 c0,.fn 195 [.pd I 0 (.fn 131 [])]] N (λn a=>uP a (Q (decide (n≥0))))):ACalls prog 194 [.bool] [.sv a0 9 e0 c0,.fn 195 [.pd I 0 (.fn 131 [])]] N Q:=
 eE H0 h
theorem qS {Q:QT [.bool]} {N0:Nat} {n1:Int} {U:Option Addr} {J:List D} {Y:Nat} {O I:Int} {y0:D} {N:Nat} (h :
Br (decide (I<O)) ((0<=I/\I<(J.length:Int))/\kI 175 [.dg 9 y0,.j n1] N (λn a=>kB 118 [.dg 9 (List.getD J I.toNat default),.j
 n,.fn 119 []] a (λb a=>Br (!b) (uP a (Q false)) (wk Q N0 n1 U J Y O (IntKind.i64.wrap (I+1)) y0 a)))) (uP N (Q true))):wk Q N0 n1 U J Y O I y0 N:=
  hE Ao h
theorem uM {Q:QT [.ag 2]} {N0:Nat} {a10:Option Addr} {e10:List D} {c10:Nat} {n11 n12 n0_0:Int} {a0_1:Option Addr} {e0_1:List D} {c0_1:Nat} {n1_0:Int} {m1_1 c1_1:Nat} {r2:List D} {q2:Nat} {N:Nat} (h :
Br (decide (n12<n11)) ((0<=n12/\n12<(e10.length:Int))/\kA 2 178 [.dg 2 (List.getD e10 n12.toNat default)] N (fun x a=>(m1_1=r2.length/\c1_1
 = q2)/\zB r2 [x] 32/\∀(c:Nat),xF Q N0 a10 e10 c10 n11 (IntKind.i64.wrap (n12+1)) n0_0 a0_1 e0_1 c0_1 n1_0 (r2++[x]).length c
 (r2++[x]) c a)) (w3 (m1_1=r2.length/\c1_1=q2) (∀ a b,N<=b->Fresh N0 b a [D.ag r2]->uP b (Q (D.ag [D.j n1_0,D.sl a 2 r2 q2]))))):xF Q N0 a10 e10 c10 n11 n12 n0_0 a0_1 e0_1 c0_1 n1_0 m1_1 c1_1 r2 q2 N:=
  hE ue h
theorem tK (N:Nat) (a0:Option Addr) (e0:List D) (c0:Nat) (I:Addr) (Q:QT [.int .i64]) (h :
Bel N (D.sl a0 2 e0 c0)->yE Q N a0 e0 c0 I (e0.length:Int) 0 N):ACalls prog 234 [.int .i64] [.sv a0 2 e0 c0,.fn 193 [.pd I 0 (.fn 129 [])]] N Q:=
 eE wi h
theorem xk {Q:QT [.int .i64]} {N0:Nat} {a0:Option Addr} {e0:List D} {c0:Nat} {n7 n8:Int} {N:Nat} (h :
Br (decide (n8<n7)) ((0<=n8/\n8<(e0.length:Int))/\kB 116 [.dg 4 (List.getD e0 n8.toNat default)] N (fun b a=>Br b (uP a (Q n8))
 (zk Q N0 a0 e0 c0 n7 (IntKind.i64.wrap (n8+1)) a))) (uP N (Q (-1)))):zk Q N0 a0 e0 c0 n7 n8 N:=
  hE xy h
theorem tJ (N:Nat) (a0:Option Addr) (e0:List D) (c0:Nat) (I:Addr) (Q:QT [.int .i64]) (h :
Bel N (D.sl a0 9 e0 c0)->yD Q N a0 e0 c0 I (e0.length:Int) 0 N):ACalls prog 235 [.int .i64] [.sv a0 9 e0 c0,.fn 195 [.pd I 0 (.fn 131 [])]] N Q:=
 eE wh h
theorem wA {Q:QT [.int .i64]} {N0:Nat} {a0:Option Addr} {e0:List D} {c0:Nat} {I:Addr} {O J:Int} {N:Nat} (h :
Br (decide (J<O)) ((0<=J/\J<(e0.length:Int))/\kB 193 [.dg 2 (List.getD e0 J.toNat default),.pd I 0 (.fn 129 [])] N (λb a=>Br b (uP
 a (Q J)) (yE Q N0 a0 e0 c0 I O (IntKind.i64.wrap (J+1)) a))) (uP N (Q (-1)))):yE Q N0 a0 e0 c0 I O J N:=
  hE wi h
theorem x9 {Q:QT [.int .i64]} {N0:Nat} {a0:Option Addr} {e0:List D} {c0:Nat} {I:Addr} {O J:Int} {N:Nat} (h :
Br (decide (J<O)) ((0<=J/\J<(e0.length:Int))/\kB 195 [.dg 9 (List.getD e0 J.toNat default),.pd I 0 (.fn 131 [])] N (λb a=>Br b (uP
 a (Q J)) (yD Q N0 a0 e0 c0 I O (IntKind.i64.wrap (J+1)) a))) (uP N (Q (-1)))):yD Q N0 a0 e0 c0 I O J N:=
  hE wh h
theorem pz (N:Nat) (I:D) (a1:Addr) (Q:QT [.bool]) (h :
Bel N I->kB 128 [.dg 2 I,.fn 129 []] N (λb a=>uP a (Q (!b)))):ACalls prog 193 [.bool] [.dg 2 I,.pd a1 0 (.fn 129 [])] N Q:=
 eE CQ h
theorem px (N:Nat) (I:D) (a1:Addr) (Q:QT [.bool]) (h :
Bel N I->kB 130 [.dg 9 I,.fn 131 []] N (λb a=>uP a (Q (!b)))):ACalls prog 195 [.bool] [.dg 9 I,.pd a1 0 (.fn 131 [])] N Q:=
 eE CP h
end Go.Proofs.YtlaniepnglheoaaGreatDoor
set_option maxRecDepth 100000
namespace Go.Proofs.YtlaniepnglheoaaGreatDoor
open Go Go.Proofs Go.Proofs.Tryz
def p6:Hint:=⟨[hc 3 [3,7,8,9]],[],[(5,hs 5 [ec 2 [14]])]⟩
def Aj:Hint:=⟨[],[],[(1,hs 13 [ec 1 [3],ec 4 [6],ec 9 [11]])]⟩
def Al:Hint:=⟨[hc 3 [3,7,8,9]],[],[(5,hs 5 [ec 2 [14]])]⟩
def AB:Hint:=⟨[hc 3 [1,3,4]],[],[(5,hs 9 [ec 6 [17]])]⟩
def Aw:Hint:=⟨[],[],[(1,hs 13 [ec 1 [3],ec 5 [7],ec 10 [12]])]⟩
def A6:Hint:=⟨[hc 3 [1,2,5]],[],[(5,hs 8 [ec 6 [23]])]⟩
def AC:Hint:=⟨[hc 2 [0,1,5]],[],[]⟩
def wG (Q:QT [.int .i64])(N0:Nat)(I:Int)(J:Option Addr)(O:List D)(U:Nat)(Y n9:Int)(N:Nat):Prop:=AT prog 122 [.int .i64] Q N0 .ord (zF prog 122 3) ⟨an 3 (.int .i64 I::an 3 (.sv J 9 O U::.int .i64 Y::.int .i64 n9::an 10 [])),[],N,none⟩
def xf (Q:QT [.int .i64])(N0:Nat)(I:Int)(J:Option Addr)(O:List D)(U:Nat)(Y n9:Int)(N:Nat):Prop:=AT prog 121 [.int .i64] Q N0 .ord (zF prog 121 3) ⟨an 3 (.int .i64 I::an 3 (.sv J 9 O U::.int .i64 Y::.int .i64 n9::an 9 [])),[],N,none⟩
def wJ (Q:QT [.int .i64])(N0:Nat)(I n4:Int)(J:D)(N:Nat):Prop:=AT prog 86 [.int .i64] Q N0 .ord (zF prog 86 3) ⟨an 1 (.pb 0 0 0 0::an 1 (.int .i64 I::.int .i64 n4::an 17 [])),[.vd J 9],N,none⟩
def wt (Q:QT [.int .i64])(N0:Nat)(n1 I:Int)(J:D)(N:Nat):Prop:=AT prog 85 [.int .i64] Q N0 .ord (zF prog 85 3) ⟨an 1 (.int .i64 n1::.pb 0 0 0 0::an 2 (.int .i64 I::an 21 [])),[.vd J 9],N,none⟩
def wK (Q:QT [.int .i64])(N0:Nat)(a0:Option Addr)(e0:List D)(c0:Nat)(I:ByteArray)(J:Int)(N:Nat):Prop:=AT prog 210 [.int .i64] Q N0 .ord (zF prog 210 2) ⟨.sv a0 0 e0 c0::.str I::an 3 (.int .i64 J::an 13 []),[],N,none⟩
theorem G7 (N:Nat) (I:D) (Q:QT [.int .i64]) (h :
Bel N I->∃ a b,∃ c:Nat,(I.cell 8)=D.sl a 9 b c/\wG Q N 0 a b c (b.length:Int) 0 N):ACalls prog 122 [.int .i64] [PV.dg 9 I] N Q:=
 eE p6 h
theorem B5 (N:Nat) (I:D) (Q:QT [.bool]) (h :
Bel N I->kB 64 [.dg 9 I] N (λb a=>Br b (∀ b,a<=b->ACalls prog 121 [.i] [.dg 9 I] b (λn a=>b<=a->Br (decide (n<=80)) (kI 122
 [.dg 9 I] a (λa b=>uP b (Q (decide (a<=20))))) (uP a (Q false)))) (uP a (Q false)))):ACalls prog 59 [.bool] [PV.dg 9 I] N Q:=
  eE Aj h
theorem B8 (N:Nat) (I:D) (Q:QT [.int .i64]) (h :
Bel N I->∃ a b,∃ c:Nat,(I.cell 8)=D.sl a 9 b c/\xf Q N 1 a b c (b.length:Int) 0 N):ACalls prog 121 [.int .i64] [PV.dg 9 I] N Q:=
 eE Al h
theorem HH (N:Nat) (I:D) (Q:QT [.int .i64]) (h :
Bel N I->wJ Q N 0 0 I N):ACalls prog 86 [.int .i64] [PV.dg 9 I] N Q:=
 eE AB h
theorem CE (N:Nat) (I:D) (Q:QT [.bool]) (h :
Bel N I->kI 85 [.dg 9 I,.j 80] N (λn a=>Br (decide (n≥0)) (kI 86 [.dg 9 I] a (λa c=>Br (decide (a<=20)) (kB 51 [.dg 9 I] c (fun
 b a=>uP a (Q b))) (uP c (Q false)))) (uP a (Q false)))):ACalls prog 40 [.bool] [PV.dg 9 I] N Q:=
  eE Aw h
theorem Jx (N:Nat) (I:D) (n1:Int) (Q:QT [.int .i64]) (h :
Bel N I->wt Q N (IntKind.i64.wrap (n1 - 1)) 0 I N):ACalls prog 85 [.int .i64] [PV.dg 9 I,PV.int .i64 n1] N Q:=
 eE A6 h
theorem HI (N:Nat) (a0:Option Addr) (e0:List D) (c0:Nat) (I:ByteArray) (Q:QT [.int .i64]) (h :
Bel N (D.sl a0 0 e0 c0)->wK Q N a0 e0 c0 I 0 N):ACalls prog 210 [.int .i64] [PV.sv a0 0 e0 c0,PV.str I] N Q:=
 eE AC h
theorem rR {Q:QT [.int .i64]} {N0:Nat} {J:Int} {Y:Option Addr} {O:List D} {c7:Nat} {U I:Int} {N:Nat} (h :
Br (decide (I<U)) ((0<=I/\I<(O.length:Int))/\kI 122 [.dg 9 (List.getD O I.toNat default)] N (λn a=>wG Q N0 (if n>J
 then n else J) Y O c7 U (IntKind.i64.wrap (I+1)) a)) (uP N (Q (IntKind.i64.wrap (J+1))))):wG Q N0 J Y O c7 U I N:=
  hE p6 h
theorem w6 {Q:QT [.int .i64]} {N0:Nat} {O:Int} {Y:Option Addr} {J:List D} {c7:Nat} {U I:Int} {N:Nat} (h :
Br (decide (I<U)) ((0<=I/\I<(J.length:Int))/\∀ a,N<=a->ACalls prog 121 [.i] [.dg 9 (List.getD J I.toNat default)] a (λn b=>a <=
 b->xf Q N0 (IntKind.i64.wrap (O+n)) Y J c7 U (IntKind.i64.wrap (I+1)) b)) (uP N (Q O))):xf Q N0 O Y J c7 U I N:=
  hE Al h
theorem ra {Q:QT [.int .i64]} {N0:Nat} {n3 n4:Int} {y0:D} {N:Nat} (h :
∃ a b,∃ c:Nat,(y0.cell 8)=D.sl a 9 b c/\Br (decide (n4<(b.length:Int))) (∃ a b,∃ c:Nat,(y0.cell 8)=D.sl a 9 b c/\(0<=n4
 /\ n4<(b.length:Int))/\kI 86 [.dg 9 (List.getD b n4.toNat default)] N (fun n a=>kI 150 [.j n3,.j n] a (fun a b=>wJ Q N0 a
 (IntKind.i64.wrap (n4+1)) y0 b))) (uP N (Q (IntKind.i64.wrap (n3+1))))):wJ Q N0 n3 n4 y0 N:=
  hE AB h
theorem qd {Q:QT [.int .i64]} {N0:Nat} {n1 n5:Int} {y0:D} {N:Nat} (h :
∃ a b,∃ c:Nat,(y0.cell 8)=D.sl a 9 b c/\Br (decide (n5<(b.length:Int))) (Br (decide (n1≥0)) (∃ a b,∃ c:Nat,(y0.cell 8)=D.sl
 a 9 b c/\(0<=n5/\n5<(b.length:Int))/\kI 85 [.dg 9 (List.getD b n5.toNat default),.j n1] N (fun n a=>wt Q N0 n
 (IntKind.i64.wrap (n5+1)) y0 a)) (uP N (Q n1))) (uP N (Q n1))):wt Q N0 n1 n5 y0 N:=
  hE A6 h
theorem rc {Q:QT [.int .i64]} {N0:Nat} {a0:Option Addr} {e0:List D} {c0:Nat} {J:ByteArray} {I:Int} {N:Nat} (h :
Br (decide (I<(e0.length:Int))) ((0<=I/\I<(e0.length:Int))/\∃ s,List.getD e0 I.toNat default=D.t s/\Br (ByteArray.toList s ==
 ByteArray.toList J) (uP N (Q I)) (wK Q N0 a0 e0 c0 J (IntKind.i64.wrap (I+1)) N)) (uP N (Q (-1)))):wK Q N0 a0 e0 c0 J I N:=
  hE AC h
end Go.Proofs.YtlaniepnglheoaaGreatDoor
set_option maxRecDepth 100000
namespace Go.Proofs.YtlaniepnglheoaaGreatDoor
open Go Go.Proofs Go.Proofs.Tryz
def wj:Hint:=⟨[hc 2 [0,1,7,8]],[],[]⟩
def wS:Hint:=⟨[hc 5 [0,1,5,6]],[],[(12,hs 4 [{ i:=2,hard:=true,tr:=true }])]⟩
def ry:Hint:=⟨[hc 6 [3,4,5,22,23,24]],[],[(3,hs 8 [ec 1 [16]]),(8,hs 3 [ec 1 [29]])]⟩
def As:Hint:=⟨[],[],[(5,hs 10 [{ i:=8,hard:=true,tr:=true }])]⟩
def xv:Hint:=⟨[hc 3 [0,3,9,10,11],hc 11 [6,25,26,27] [(6,9,0)]],[],[]⟩
def sB:Hint:=⟨[hc 3 [5,12,13,14] [(5,9,0)]],[],[]⟩
def DQ:Hint:=⟨[hc 3 [0,1,5]],[],[]⟩
def tP:Hint:=⟨[hc 3 [0,1,5,6] [(5,9,0)]],[],[]⟩
def vS:Hint:=⟨[hc 3 [0,1,5,6] [(5,9,0)],hc 8 [1,5,7] [(5,9,0)]],[],[]⟩
def uh:Hint:=⟨[hc 6 [1,3,4,5,6],hc 10 [1,3,4,5,6,7,8]],[],[(8,hs 7 [ec 5 [32]])]⟩
def rM:Hint:=⟨[hc 5 [0,3,4]],[],[]⟩
def rN:Hint:=⟨[hc 3 [0,3]],[],[]⟩
def xH (Q:QT [.row 9 0])(N0:Nat)(n4:Int)(m5 c5:Nat)(U:Option Addr)(Y:List D)(aa:Nat)(ab ac:Int)(I:Option Addr)(J:List D)(O:Nat)(r1:List D)(q1:Nat)(N:Nat):Prop:=AT prog 256 [.row 9 0] Q N0 .ord (zF prog 256 6) ⟨an 3 (.pb 0 0 0 0::.int .i64 n4::.sb 1 0 0 m5 c5::an 16 (.sv U 9 Y aa::.int .i64 ab::.int .i64 ac::an 17 [])),[.var [.sv I 0 J O],.arr 9 0 r1 q1],N,none⟩
def yi (Q:QT [.sl 0])(N0:Nat)(a0:Option Addr)(e0:List D)(c0:Nat)(O:Int)(a9:Option Addr)(U:List D)(c9:Nat)(I J:Int)(N:Nat):Prop:=AT prog 277 [.sl 0] Q N0 .ord (zF prog 277 3) ⟨.sv a0 0 e0 c0::an 2 (.int .i64 O::an 5 (.sv a9 0 U c9::.int .i64 I::.int .i64 J::an 24 [])),[],N,none⟩
def yb (Q:QT [.row 9 0])(N0:Nat)(m5 c5:Nat)(I:Option Addr)(J:List D)(O:Nat)(U Y:Int)(r0:List D)(q0:Nat)(N:Nat):Prop:=AT prog 275 [.row 9 0] Q N0 .ord (zF prog 275 3) ⟨an 5 (.sb 0 0 0 m5 c5::an 6 (.sv I 0 J O::.int .i64 U::.int .i64 Y::an 13 [])),[.arr 9 0 r0 q0],N,none⟩
def vh (Q:QT [.str])(N0:Nat)(I:ByteArray)(a1:Option Addr)(e1:List D)(c1:Nat)(J:Int)(N:Nat):Prop:=AT prog 286 [.str] Q N0 .ord (zF prog 286 3) ⟨.str I::.sv a1 0 e1 c1::an 3 (.int .i64 J::an 12 []),[],N,none⟩
def yP (Q:QT [.sl 0])(N0:Nat)(a0:Option Addr)(e0:List D)(c0:Nat)(I:ByteArray)(J c5:Nat)(O:Int)(r0:List D)(U:Nat)(N:Nat):Prop:=AT prog 244 [.sl 0] Q N0 .ord (zF prog 244 3) ⟨.sv a0 0 e0 c0::.str I::an 3 (.sb 0 0 0 J c5::.int .i64 O::an 21 []),[.arr 9 0 r0 U],N,none⟩
def yc (Q:QT [.row 9 0])(N0:Nat)(a0:Option Addr)(e0:List D)(c0:Nat)(a1:Option Addr)(e1:List D)(c1 I c5:Nat)(J:Int)(r0:List D)(O:Nat)(N:Nat):Prop:=AT prog 245 [.row 9 0] Q N0 .ord (zF prog 245 3) ⟨.sv a0 0 e0 c0::.sv a1 0 e1 c1::an 3 (.sb 0 0 0 I c5::.int .i64 J::an 43 []),[.arr 9 0 r0 O],N,none⟩
def yA (Q:QT [.sl 0])(N0:Nat)(a3:Option Addr)(I:List D)(c3:Nat)(n4:Int)(J c5:Nat)(O:Int)(U:D)(r1:List D)(Y:Nat)(N:Nat):Prop:=AT prog 211 [.sl 0] Q N0 .ord (zF prog 211 6) ⟨an 1 (.pb 0 0 0 0::an 1 (.sv a3 0 I c3::.int .i64 n4::.sb 1 0 0 J c5::.int .i64 O::an 48 [])),[.vd U 9,.arr 9 0 r1 Y],N,none⟩
def zl (Q:QT [.str])(N0:Nat)(n0:Int)(I:Bool)(J:ByteArray)(N:Nat):Prop:=AT prog 22 [.str] Q N0 .ord (zF prog 22 5) ⟨.int .i64 n0::an 2 (.bool I::.str J::an 26 []),[],N,none⟩
def xd (Q:QT [.str])(N0:Nat)(a0:Option Addr)(e0:List D)(c0:Nat)(I:Int)(N:Nat):Prop:=AT prog 246 [.str] Q N0 .ord (zF prog 246 3) ⟨.sv a0 0 e0 c0::an 2 (.int .i64 I::an 11 []),[],N,none⟩
def zj (Q:QT [.sl 0])(N0:Nat)(m6 c6:Nat)(I:Option Addr)(J:List D)(O:Nat)(U Y:Int)(r0:List D)(q0:Nat)(N:Nat):Prop:=AT prog 277 [.sl 0] Q N0 .ord (zF prog 277 11) ⟨an 6 (.sb 0 0 0 m6 c6::an 18 (.sv I 0 J O::.int .i64 U::.int .i64 Y::an 8 [])),[.arr 9 0 r0 q0],N,none⟩
def yB (Q:QT [.row 9 0])(N0:Nat)(a1:Option Addr)(e1:List D)(c1 I c5:Nat)(J:Int)(r0:List D)(O:Nat)(N:Nat):Prop:=AT prog 245 [.row 9 0] Q N0 .ord (zF prog 245 8) ⟨an 1 (.sv a1 0 e1 c1::an 3 (.sb 0 0 0 I c5::an 1 (.int .i64 J::an 42 []))),[.arr 9 0 r0 O],N,none⟩
def yw (Q:QT [.sl 0])(N0:Nat)(a3:Option Addr)(I:List D)(c3:Nat)(n4:Int)(J c5:Nat)(O:Int)(U:Option Addr)(Y:List D)(c7:Nat)(n8:Int)(y0:D)(r1:List D)(q1:Nat)(N:Nat):Prop:=AT prog 211 [.sl 0] Q N0 .ord (zF prog 211 10) ⟨an 1 (.pb 0 0 0 0::an 1 (.sv a3 0 I c3::.int .i64 n4::.sb 1 0 0 J c5::.int .i64 O::.sv U 0 Y c7::.int .i64 n8::an 46 [])),[.vd y0 9,.arr 9 0 r1 q1],N,none⟩
def zR (E:Env)(Q:QT [.bk 0,.sl 0,.sl 0])(N0:Nat)(U c0:Nat)(Y n6:Int)(r0:List D)(q0:Nat)(I:Option Addr)(J:List D)(O:Nat)(N:Nat):Prop:=AT prog 273 [.bk 0,.sl 0,.sl 0] Q N0 (.io E [.arr 9 0 [] 0,.var [.sv none 0 [] 0]]) (zF prog 273 5) ⟨.sb 0 0 0 U c0::.fn 274 [.pb 1 0 0 0]::an 3 (.int .i64 Y::.int .i64 n6::an 35 []),[.arr 9 0 r0 q0,.var [.sv I 0 J O]],N,some (we E 0 [.arr 9 0 [] 0,.var [.sv none 0 [] 0]],[])⟩
def yF (Q:QT [.int .i64])(N0:Nat)(a0:Option Addr)(e0:List D)(c0:Nat)(J:Addr)(I:D)(O U:Int)(N:Nat):Prop:=AT prog 285 [.int .i64] Q N0 .ord (zF prog 285 2) ⟨.sv a0 0 e0 c0::.fn 274 [.pd J 0 I]::an 5 (.int .i64 O::.int .i64 U::an 10 []),[],N,none⟩
theorem LV (N:Nat) (x0:D) (Q:QT [.sl 0,.int .i64]) (h :
Bel N x0->∃ n:Int,(x0.cell 0)=D.j n/\Br (n==6) (∃ a b,∃ c:Nat,(x0.cell 8)=D.sl a 9 b c/\Br ((b.length:Int)==1) (∃ s,(x0.cell 1) =
 D.t s/\w2 (1=([D.t s]).length/\1=1) (∀ a b,N<=b->Fresh N b a [D.ag [D.t s]]->uP b (Q a [D.t s] 1 0))) (∃ a:Int,(x0.cell 0)=D.j a /\
 Br (a==8) (∃ a b,∃ c:Nat,(x0.cell 8)=D.sl a 9 b c/\Br ((b.length:Int)==2) (∃ a,(x0.cell 1)=D.t a/\w2 (1=([D.t
 a]).length/\1=1) (∀ b c,N<=c->Fresh N c b [D.ag [D.t a]]->uP c (Q b [D.t a] 1 1))) (∃ a:Int,(x0.cell 0)=D.j a/\Br (a==9) (∃
 a b,∃ c:Nat,(x0.cell 8)=D.sl a 9 b c/\Br ((b.length:Int)==1) (∃ a,(x0.cell 1)=D.t a/\∃ b,(x0.cell 2)=D.t b/\w2 (2 =
 ([D.t a,D.t b]).length/\2=2) (∀ c d,N<=d->Fresh N d c [D.ag [D.t a,D.t b]]->uP d (Q c [D.t a,D.t b] 2 0))) (uP N (Q none [] 0
 (-1)))) (uP N (Q none [] 0 (-1))))) (∃ a:Int,(x0.cell 0)=D.j a/\Br (a==9) (∃ a b,∃ c:Nat,(x0.cell 8)=D.sl a 9 b c/\Br
 ((b.length:Int)==1) (∃ a,(x0.cell 1)=D.t a/\∃ b,(x0.cell 2)=D.t b/\w2 (2=([D.t a,D.t b]).length/\2=2) (∀ c d,N<=d->Fresh
 N d c [D.ag [D.t a,D.t b]]->uP d (Q c [D.t a,D.t b] 2 0))) (uP N (Q none [] 0 (-1)))) (uP N (Q none [] 0 (-1)))))) (∃ a:Int,(x0.cell 0) =
 D.j a/\Br (a==8) (∃ a b,∃ c:Nat,(x0.cell 8)=D.sl a 9 b c/\Br ((b.length:Int)==2) (∃ a,(x0.cell 1)=D.t a/\w2 (1 =
 ([D.t a]).length/\1=1) (∀ b c,N<=c->Fresh N c b [D.ag [D.t a]]->uP c (Q b [D.t a] 1 1))) (∃ a:Int,(x0.cell 0)=D.j a/\Br
 (a==9) (∃ a b,∃ c:Nat,(x0.cell 8)=D.sl a 9 b c/\Br ((b.length:Int)==1) (∃ a,(x0.cell 1)=D.t a/\∃ b,(x0.cell 2) =
 D.t b/\w2 (2=([D.t a,D.t b]).length/\2=2) (∀ c d,N<=d->Fresh N d c [D.ag [D.t a,D.t b]]->uP d (Q c [D.t a,D.t b] 2
 0))) (uP N (Q none [] 0 (-1)))) (uP N (Q none [] 0 (-1))))) (∃ a:Int,(x0.cell 0)=D.j a/\Br (a==9) (∃ a b,∃ c:Nat,(x0.cell 8)=D.sl
 a 9 b c/\Br ((b.length:Int)==1) (∃ a,(x0.cell 1)=D.t a/\∃ b,(x0.cell 2)=D.t b/\w2 (2=([D.t a,D.t b]).length/\2=2)
 (∀ c d,N<=d->Fresh N d c [D.ag [D.t a,D.t b]]->uP d (Q c [D.t a,D.t b] 2 0))) (uP N (Q none [] 0 (-1)))) (uP N (Q none [] 0
 (-1)))))):ACalls prog 254 [.sl 0,.int .i64] [PV.dg 9 x0] N Q:=
  eE H0 h
theorem GG (N:Nat) (I:D) (Q:QT [.row 9 0]) (h :
Bel N I->∃ n:Int,(I.cell 0)=D.j n/\Br (n==1) (∃ s,(I.cell 1)=D.t s/\(1=([D.t s]).length/\1=1)/\uP N (Q [D.t s] 1)) (∀ b,N<=b ->
 ACalls prog 254 [.sl 0,.i] [.dg 9 I] b (λa c d e f=>b<=f->Bel f (D.sl a 0 c d)->∃ b g,∃ h:Nat,(I.cell 8)=D.sl b 9 g h /\
 xH Q N e 0 0 b g h (g.length:Int) 0 a c d [] 0 f))):ACalls prog 256 [.row 9 0] [PV.dg 9 I] N Q:=
  eE ry h
theorem CB (N:Nat) (n1:Int) (Q:QT [.row 9 0]) (h :
Bel N (D.sl none 0 [] 0)->Br (decide (n1<0)) False (Br (decide (IntKind.i64.wrap (n1 - 0)>0)) (((0:Int)<=(0:Int)/\(0:Int)<=(0:Int)/\(0 :
 Int)<=(0:Int))/\(0<=IntKind.i64.wrap (n1 - 0)/\(IntKind.i64.wrap (n1 - 0)*16)<=140737488355328/\IntKind.i64.wrap (n1 - 0)<=140737488355328)/\∀(c :
 Nat),((0:Int)<=(0:Int)/\0<=(c:Int))/\0<=(List.replicate (IntKind.i64.wrap (n1 - 0)).toNat (D.t b0)).length/\(0=(List.take 0 (List.replicate
 (IntKind.i64.wrap (n1 - 0)).toNat (D.t b0))).length/\c=c)/\∀ a,N<=a->Q (List.take 0 (List.replicate (IntKind.i64.wrap (n1 - 0)).toNat (D.t b0))) c a)
 (uP N (Q [] 0)))):ACalls prog 287 [.row 9 0] [PV.sv none 0 [] 0,PV.int .i64 n1] N Q:=
  eE As h
theorem p5 (N:Nat) (a0:Option Addr) (e0:List D) (c0:Nat) (Q:QT [.sl 0]) (h :
Bel N (D.sl a0 0 e0 c0)->yi Q N a0 e0 c0 0 a0 e0 c0 (e0.length:Int) 0 N):ACalls prog 277 [.sl 0] [PV.sv a0 0 e0 c0] N Q:=
 eE xv h
theorem DI (N:Nat) (a0:Option Addr) (e0:List D) (c0:Nat) (a1:Option Addr) (e1:List D) (c1:Nat) (Q:QT [.row 9 0]) (h :
Bel N (D.sl a0 0 e0 c0)->Bel N (D.sl a1 0 e1 c1)->(2=([D.sl a0 0 e0 c0,D.sl a1 0 e1 c1]).length/\2=2)/\∀ a,ApA a [D.sl a0 0 e0 c0,D.sl a1 0 e1
 c1]->∀ b,N<=b->vN b [a]->ACalls prog 277 [.sl 0] [.sv a 0 [D.sl a0 0 e0 c0,D.sl a1 0 e1 c1] 2] b (λc d e f=>b<=f->Off [a] (D.sl c 0
 d e)/\(Bel f (D.sl c 0 d e)->yb Q N 0 0 c d e (d.length:Int) 0 [] 0 f))):ACalls prog 275 [.row 9 0] [PV.sv a0 0 e0 c0,PV.sv a1 0 e1 c1] N Q:=
  eE sB h
theorem LW (N:Nat) (I:ByteArray) (a1:Option Addr) (e1:List D) (c1:Nat) (Q:QT [.str]) (h :
Bel N (D.sl a1 0 e1 c1)->vh Q N I a1 e1 c1 1 N):ACalls prog 286 [.str] [PV.str I,PV.sv a1 0 e1 c1] N Q:=
 eE DQ h
theorem D7 (N:Nat) (a0:Option Addr) (e0:List D) (c0:Nat) (Q:QT [.str]) (h :
Bel N (D.sl a0 0 e0 c0)->kS 286 [.str (bytes [118]),.sv a0 0 e0 c0] N (λs a=>uP a (Q s)) ):ACalls prog 276 [.str] [PV.sv a0 0 e0 c0] N Q:=
 eE H0 h
theorem D6 (N:Nat) (n0:Int) (Q:QT [.str]) (h :
kS 66 [.j n0] N (λs a=>uP a (Q s))):ACalls prog 30 [.str] [PV.int .i64 n0] N Q:=
 eE H0 h
theorem Df (N:Nat) (I:ByteArray) (Q:QT [.ag 9]) (h :
∀ a,N<=a->Q (D.ag [D.j 1,D.t I,D.t b0,D.j 0,D.j 0,D.sl none 2 [] 0,D.j 0,D.sl none 2 [] 0,D.sl none 9 [] 0]) a):ACalls prog 111 [.ag 9] [PV.str I] N Q:=
  eE H0 h
theorem HS (N:Nat) (x0:D) (Q:QT [.sl 0,.int .i64]) (h :
Bel N x0->∃ n:Int,(x0.cell 0)=D.j n/\Br (n==6) (∃ a b,∃ c:Nat,(x0.cell 8)=D.sl a 9 b c/\Br ((b.length:Int)==1) (∃ s,(x0.cell 1) =
 D.t s/\w2 (1=([D.t s]).length/\1=1) (∀ a b,N<=b->Fresh N b a [D.ag [D.t s]]->uP b (Q a [D.t s] 1 0))) (∃ a:Int,(x0.cell 0)=D.j a /\
 Br (a==8) (∃ a b,∃ c:Nat,(x0.cell 8)=D.sl a 9 b c/\Br ((b.length:Int)==2) (∃ a,(x0.cell 1)=D.t a/\w2 (1=([D.t
 a]).length/\1=1) (∀ b c,N<=c->Fresh N c b [D.ag [D.t a]]->uP c (Q b [D.t a] 1 1))) (∃ a:Int,(x0.cell 0)=D.j a/\Br (a==9) (∃
 a b,∃ c:Nat,(x0.cell 8)=D.sl a 9 b c/\Br ((b.length:Int)==1) (∃ a,(x0.cell 1)=D.t a/\∃ b,(x0.cell 2)=D.t b/\w2 (2 =
 ([D.t a,D.t b]).length/\2=2) (∀ c d,N<=d->Fresh N d c [D.ag [D.t a,D.t b]]->uP d (Q c [D.t a,D.t b] 2 0))) (w2 (0=0/\0=0)
 (∀ a b,N<=b->Fresh N b a [D.ag []]->uP b (Q a [] 0 (-1))))) (w2 (0=0/\0=0) (∀ a b,N<=b->Fresh N b a [D.ag []]->uP b (Q a [] 0
 (-1)))))) (∃ a:Int,(x0.cell 0)=D.j a/\Br (a==9) (∃ a b,∃ c:Nat,(x0.cell 8)=D.sl a 9 b c/\Br ((b.length:Int)==1) (∃
 a,(x0.cell 1)=D.t a/\∃ b,(x0.cell 2)=D.t b/\w2 (2=([D.t a,D.t b]).length/\2=2) (∀ c d,N<=d->Fresh N d c [D.ag [D.t a,
 D.t b]]->uP d (Q c [D.t a,D.t b] 2 0))) (w2 (0=0/\0=0) (∀ a b,N<=b->Fresh N b a [D.ag []]->uP b (Q a [] 0 (-1))))) (w2 (0
 = 0/\0=0) (∀ a b,N<=b->Fresh N b a [D.ag []]->uP b (Q a [] 0 (-1))))))) (∃ a:Int,(x0.cell 0)=D.j a/\Br (a==8) (∃ a
 b,∃ c:Nat,(x0.cell 8)=D.sl a 9 b c/\Br ((b.length:Int)==2) (∃ a,(x0.cell 1)=D.t a/\w2 (1=([D.t a]).length/\1=1) (∀
 b c,N<=c->Fresh N c b [D.ag [D.t a]]->uP c (Q b [D.t a] 1 1))) (∃ a:Int,(x0.cell 0)=D.j a/\Br (a==9) (∃ a b,∃ c
 : Nat,(x0.cell 8)=D.sl a 9 b c/\Br ((b.length:Int)==1) (∃ a,(x0.cell 1)=D.t a/\∃ b,(x0.cell 2)=D.t b/\w2 (2=([D.t a,D.t
 b]).length/\2=2) (∀ c d,N<=d->Fresh N d c [D.ag [D.t a,D.t b]]->uP d (Q c [D.t a,D.t b] 2 0))) (w2 (0=0/\0=0) (∀ a
 b,N<=b->Fresh N b a [D.ag []]->uP b (Q a [] 0 (-1))))) (w2 (0=0/\0=0) (∀ a b,N<=b->Fresh N b a [D.ag []]->uP b (Q a
 [] 0 (-1)))))) (∃ a:Int,(x0.cell 0)=D.j a/\Br (a==9) (∃ a b,∃ c:Nat,(x0.cell 8)=D.sl a 9 b c/\Br ((b.length:Int)==1)
 (∃ a,(x0.cell 1)=D.t a/\∃ b,(x0.cell 2)=D.t b/\w2 (2=([D.t a,D.t b]).length/\2=2) (∀ c d,N<=d->Fresh N d c [D.ag
 [D.t a,D.t b]]->uP d (Q c [D.t a,D.t b] 2 0))) (w2 (0=0/\0=0) (∀ a b,N<=b->Fresh N b a [D.ag []]->uP b (Q a [] 0
 (-1))))) (w2 (0=0/\0=0) (∀ a b,N<=b->Fresh N b a [D.ag []]->uP b (Q a [] 0 (-1))))))):ACalls prog 209 [.sl 0,.int .i64] [PV.dg 9 x0] N Q:=
  eE H0 h
theorem CH (N:Nat) (a0:Option Addr) (e0:List D) (c0:Nat) (I:ByteArray) (Q:QT [.sl 0]) (h :
Bel N (D.sl a0 0 e0 c0)->yP Q N a0 e0 c0 I 0 0 0 [] 0 N):ACalls prog 244 [.sl 0] [PV.sv a0 0 e0 c0,PV.str I] N Q:=
 eE tP h
theorem DP (N:Nat) (a0:Option Addr) (e0:List D) (c0:Nat) (a1:Option Addr) (e1:List D) (c1:Nat) (Q:QT [.row 9 0]) (h :
Bel N (D.sl a0 0 e0 c0)->Bel N (D.sl a1 0 e1 c1)->yc Q N a0 e0 c0 a1 e1 c1 0 0 0 [] 0 N):ACalls prog 245 [.row 9 0] [PV.sv a0 0 e0 c0,PV.sv a1 0 e1 c1] N Q:=
 eE vS h
theorem GQ (N:Nat) (I:D) (Q:QT [.sl 0]) (h :
Bel N I->∃ n:Int,(I.cell 0)=D.j n/\Br (n==1) (∃ s,(I.cell 1)=D.t s/\w2 (1=([D.t s]).length/\1=1) (∀ a b,N<=b->Fresh N b a [D.ag
 [D.t s]]->uP b (Q a [D.t s] 1))) (∀ a,N<=a->ACalls prog 209 [.sl 0,.i] [.dg 9 I] a (λb c d e f=>a<=f->Bel f (D.sl b 0 c d) ->
 yA Q N b c d e 0 0 0 I [] 0 f))):ACalls prog 211 [.sl 0] [PV.dg 9 I] N Q:=
  eE uh h
theorem rk (N:Nat) (n0:Int) (Q:QT [.str]) (h :
Br (n0==0) (uP N (Q (bytes [48]))) (zl Q N n0 (decide (n0<0)) b0 N)):ACalls prog 22 [.str] [PV.int .i64 n0] N Q:=
 eE rM h
theorem EJ (N:Nat) (a0:Option Addr) (e0:List D) (c0:Nat) (Q:QT [.str]) (h :
Bel N (D.sl a0 0 e0 c0)->xd Q N a0 e0 c0 1 N):ACalls prog 246 [.str] [PV.sv a0 0 e0 c0] N Q:=
 eE rN h
theorem Dg (N:Nat) (I:ByteArray) (Q:QT [.ag 9]) (h :
∀ a,N<=a->Q (D.ag [D.j 1,D.t I,D.t b0,D.j 0,D.j 0,D.sl none 2 [] 0,D.j 0,D.sl none 2 [] 0,D.sl none 9 [] 0]) a):ACalls prog 77 [.ag 9] [PV.str I] N Q:=
  eE H0 h
theorem sN {Q:QT [.row 9 0]} {N0:Nat} {n4:Int} {m5 c5:Nat} {ab:Option Addr} {J:List D} {ac:Nat} {aa I:Int} {O:Option Addr} {U:List D} {Y:Nat} {r1:List D} {q1:Nat} {N:Nat} (h :
Br (decide (I<aa)) ((0<=I/\I<(J.length:Int))/\∀ b,N<=b->ACalls prog 256 [.row 9 0] [.dg 9 (List.getD J I.toNat default)] b (fun
 c d e=>b<=e->Bel e (D.ag c)->Br (I==n4) (∀ b,e<=b->BCalls prog 273 [Sh.bk 0,.sl 0,.sl 0] [.sb 0 0 0 c.length d,.fn 274 [.pb 1 0 0 0]]
 [Bx.arr 9 0 c d,Bx.var [.sv O 0 U Y]] b (λ_ a c d e f g h=>b<=h->Bel h (D.sl a 0 c d)->Bel h (D.sl e 0 f g) ->
 (m5=r1.length/\c5=q1)/\∀ a,ApA a r1->(c.length=c.length/\d=d)/\∀ b,ApA b c->∀ i,h<=i->vN i [a,b]->ACalls
 prog 275 [.row 9 0] [.sv a 0 r1 c5,.sv b 0 c d] i (λc d h=>i<=h->Off [a,b] (D.ag c)/\(Bel h (D.ag c)->xH
 Q N0 n4 c.length d ab J ac aa (IntKind.i64.wrap (I+1)) e f g c d h)))) ((m5=r1.length/\c5=q1)/\∀ a,ApA a r1->(c.length =
 c.length/\d=d)/\∀ b,ApA b c->∀ f,e<=f->vN f [a,b]->ACalls prog 275 [.row 9 0] [.sv a 0 r1 c5,.sv b 0 c d] f (λc d e
 => f<=e->Off [a,b] (D.ag c)/\(Bel e (D.ag c)->xH Q N0 n4 c.length d ab J ac aa (IntKind.i64.wrap (I+1)) O U
 Y c d e))))) ((m5=r1.length/\c5=q1)/\uP N (Q r1 c5))):xH Q N0 n4 m5 c5 ab J ac aa I O U Y r1 q1 N:=
  hE ry h
theorem vR {Q:QT [.sl 0]} {N0:Nat} {a0:Option Addr} {e0:List D} {c0:Nat} {O:Int} {a9:Option Addr} {U:List D} {c9:Nat} {J I:Int} {N:Nat} (h :
Br (decide (I<J)) ((0<=I/\I<(U.length:Int))/\∃ a b,∃ c:Nat,List.getD U I.toNat default=D.sl a 0 b c/\Br (decide
 (IntKind.i64.wrap (O+(b.length:Int))<0)) False (yi Q N0 a0 e0 c0 (IntKind.i64.wrap (O+(b.length:Int))) a9 U c9 J
 (IntKind.i64.wrap (I+1)) N)) (∀ a,N<=a->ACalls prog 287 [.row 9 0] [.sv none 0 [] 0,.j O] a (λb c d=>a<=d->Bel d (D.ag b) ->
 zj Q N0 b.length c a0 e0 c0 (e0.length:Int) 0 b c d))):yi Q N0 a0 e0 c0 O a9 U c9 J I N:=
  hE xv h
theorem uu {Q:QT [.row 9 0]} {N0:Nat} {m5 c5:Nat} {U:Option Addr} {J:List D} {Y:Nat} {O I:Int} {r0:List D} {q0:Nat} {N:Nat} (h :
Br (decide (I<O)) ((0<=I/\I<(J.length:Int))/\∃ s,List.getD J I.toNat default=D.t s/\(m5=r0.length/\c5=q0)/\∀ a,ApA a r0 ->
 ∀ d,N<=d->vN d [a]->ACalls prog 174 [.bool] [.sv a 0 r0 c5,.str s] d (λb a=>d<=a->Br (!b) ((m5=r0.length/\c5=q0)/\zB r0 [D.t s]
 16/\∀(c:Nat),yb Q N0 (r0++[D.t s]).length c U J Y O (IntKind.i64.wrap (I+1)) (r0++[D.t s]) c a) (yb Q N0
 m5 c5 U J Y O (IntKind.i64.wrap (I+1)) r0 q0 a))) ((m5=r0.length/\c5=q0)/\uP N (Q r0 c5))):yb Q N0 m5 c5 U J Y O I r0 q0 N:=
  hE sB h
theorem Gy {Q:QT [.str]} {N0:Nat} {I:ByteArray} {a1:Option Addr} {e1:List D} {c1:Nat} {J:Int} {N:Nat} (h :
kS 30 [.j J] N (λs a=>(I.size+s.size:Nat)<=9223372036854775807/\kB 174 [.sv a1 0 e1 c1,.str (I++s)] a (λb a=>Br (!b) (uP a (Q (I
 ++ s))) (vh Q N0 I a1 e1 c1 (IntKind.i64.wrap (J+1)) a)))):vh Q N0 I a1 e1 c1 J N:=
  hE DQ h
theorem uO {Q:QT [.sl 0]} {N0:Nat} {a0:Option Addr} {e0:List D} {c0:Nat} {O:ByteArray} {U c5:Nat} {I:Int} {r0:List D} {J:Nat} {N:Nat} (h :
Br (decide (I<(e0.length:Int))) ((0<=I/\I<(e0.length:Int))/\∃ s,List.getD e0 I.toNat default=D.t s/\Br (!(ByteArray.toList s ==
 ByteArray.toList O)) ((0<=I/\I<(e0.length:Int))/\∃ a,List.getD e0 I.toNat default=D.t a/\(U=r0.length/\c5=J)/\zB r0 [D.t a] 16
 /\ ∀(c:Nat),yP Q N0 a0 e0 c0 O (r0++[D.t a]).length c (IntKind.i64.wrap (I+1)) (r0++[D.t a]) c N) (yP Q N0 a0
 e0 c0 O U c5 (IntKind.i64.wrap (I+1)) r0 J N)) (w3 (U=r0.length/\c5=J) (∀ a b,N<=b->Fresh N0 b a [D.ag r0]->uP b (Q a r0 J)))):yP Q N0 a0 e0 c0 O U c5 I r0 J N:=
  hE tP h
theorem uw {Q:QT [.row 9 0]} {N0:Nat} {a0:Option Addr} {e0:List D} {c0:Nat} {a1:Option Addr} {e1:List D} {c1 J c5:Nat} {I:Int} {r0:List D} {O:Nat} {N:Nat} (h :
Br (decide (I<(e0.length:Int))) ((0<=I/\I<(e0.length:Int))/\∃ s,List.getD e0 I.toNat default=D.t s/\(J=r0.length/\c5=O)/\∀ a,
 ApA a r0->∀ b,N<=b->vN b [a]->ACalls prog 210 [.i] [.sv a 0 r0 c5,.str s] b (λn a=>b<=a->Br (decide (n<0)) ((0<=I/\I<(e0.length :
 Int))/\∃ b,List.getD e0 I.toNat default=D.t b/\(J=r0.length/\c5=O)/\zB r0 [D.t b] 16/\∀(c:Nat),yc Q N0 a0 e0 c0
 a1 e1 c1 (r0++[D.t b]).length c (IntKind.i64.wrap (I+1)) (r0++[D.t b]) c a) (yc Q N0 a0 e0 c0 a1 e1 c1 J c5 (IntKind.i64.wrap (I
 + 1)) r0 O a))) (yB Q N0 a1 e1 c1 J c5 0 r0 O N)):yc Q N0 a0 e0 c0 a1 e1 c1 J c5 I r0 O N:=
  hE vS h
theorem sQ {Q:QT [.sl 0]} {N0:Nat} {a3:Option Addr} {Y:List D} {c3:Nat} {n4:Int} {U c5:Nat} {I:Int} {J:D} {r1:List D} {O:Nat} {N:Nat} (h :
∃ a b,∃ c:Nat,(J.cell 8)=D.sl a 9 b c/\Br (decide (I<(b.length:Int))) (∃ a b,∃ c:Nat,(J.cell 8)=D.sl a 9 b c/\(0<=I
 /\ I<(b.length:Int))/\kL 0 211 [.dg 9 (List.getD b I.toNat default)] N (λa b c d=>yw Q N0 a3 Y c3 n4 U c5 I a b
 c 0 J r1 O d)) (w3 (U=r1.length/\c5=O) (∀ a b,N<=b->Fresh N0 b a [D.ag r1]->uP b (Q a r1 O)))):yA Q N0 a3 Y c3 n4 U c5 I J r1 O N:=
  hE uh h
theorem w8 {Q:QT [.str]} {N0:Nat} {n0:Int} {J:Bool} {I:ByteArray} {N:Nat} (h :
Br (bne n0 0) ((10:Int)≠(0:Int)/\Br (decide (Int.tmod n0 10<0)) (1<=([D.lit (.int IntKind.u8 (IntKind.u8.wrap (IntKind.i64.wrap (48 +
 IntKind.i64.wrap (0 - Int.tmod n0 10)))))]).length/\∃ a:List Int,List.take 1 [D.lit (.int IntKind.u8 (IntKind.u8.wrap (IntKind.i64.wrap (48 +
 IntKind.i64.wrap (0 - Int.tmod n0 10)))))]=List.map (λn=>D.lit (.int IntKind.u8 n)) a/\(ByteArray.size (yS a)+I.size:Nat) <=
 9223372036854775807/\(10:Int)≠(0:Int)/\zl Q N0 (IntKind.i64.wrap (Int.tdiv n0 10)) J (yS a++I) N) (1<=([D.lit (.int
 IntKind.u8 (IntKind.u8.wrap (IntKind.i64.wrap (48+Int.tmod n0 10))))]).length/\∃ a:List Int,List.take 1 [D.lit (.int IntKind.u8 (IntKind.u8.wrap
 (IntKind.i64.wrap (48+Int.tmod n0 10))))]=List.map (λa=>D.lit (.int IntKind.u8 a)) a/\(ByteArray.size (yS a)+I.size:Nat) <=
 9223372036854775807/\(10:Int)≠(0:Int)/\zl Q N0 (IntKind.i64.wrap (Int.tdiv n0 10)) J (yS a++I) N)) (Br J ((1+I.size :
 Nat)<=9223372036854775807/\uP N (Q (bytes [45]++I))) (uP N (Q I)))):zl Q N0 n0 J I N:=
  hE rM h
theorem Bb {Q:QT [.str]} {N0:Nat} {a0:Option Addr} {e0:List D} {c0:Nat} {n3:Int} {N:Nat} (h :
kS 22 [.j n3] N (fun s a=>(1+s.size:Nat)<=9223372036854775807/\∀ b,a<=b->ACalls prog 210 [.i] [.sv a0 0 e0 c0,.str (bytes [118]++s)] b
 (fun n a=>b<=a->Br (decide (n<0)) (uP a (Q (bytes [118]++s))) (xd Q N0 a0 e0 c0 (IntKind.i64.wrap (n3+1)) a)))):xd Q N0 a0 e0 c0 n3 N:=
  hE rN h
theorem tF (N:Nat) (m0 c0:Nat) (U:List D) (Y:Nat) (I:Option Addr) (J:List D) (O:Nat) (Q:QT [(Sh.bk 0),(Sh.sl 0),(Sh.sl 0)]) (h:∀ E:Env,
Bel N (D.sl none 0 U Y)->Bel N (D.sl I 0 J O)->(m0=U.length/\c0=Y)/\∀ a,ApA a U->∀ b,ApA (Option.some b)
 [D.sl I 0 J O]->∀ c,N<=c->vN c [a,Option.some b]->ACalls prog 285 [.i] [.sv a 0 U c0,.fn 274 [.pd b 0 (D.sl I 0 J O)]]
 c (λn a=>c<=a->Br (n==(-1)) (zZ E [.arr 9 0 [] 0,.var [.sv none 0 [] 0]]/\(m0=U.length/\c0=Y)/\uP a (Q (D.j 0) none U Y I
 J O)) (zR E Q N m0 c0 n (IntKind.i64.wrap (n+1)) U Y I J O a))):BCalls prog 273 [(Sh.bk 0),(Sh.sl 0),(Sh.sl 0)] [.sb 0 0 0 m0 c0,.fn 274 [.pb 1 0 0 0]] [.arr 9 0 U Y,.var [.sv I 0 J O]] N Q:=
  bE wS h
theorem w7 {Q:QT [.sl 0]} {N0:Nat} {m6 c6:Nat} {a25:Option Addr} {e25:List D} {c25:Nat} {n26 n27:Int} {r0:List D} {q0:Nat} {N:Nat} (h :
Br (decide (n27<n26)) ((0<=n27/\n27<(e25.length:Int))/\∃ a b,∃ c:Nat,List.getD e25 n27.toNat default=D.sl a 0 b c/\(m6=r0.length/\c6 =
 q0)/\zB r0 b 16/\∀(a:Nat),zj Q N0 (r0++b).length a a25 e25 c25 n26 (IntKind.i64.wrap (n27+1)) (r0++b) a N) (w3
 (m6=r0.length/\c6=q0) (∀ a b,N<=b->Fresh N0 b a [D.ag r0]->uP b (Q a r0 q0)))):zj Q N0 m6 c6 a25 e25 c25 n26 n27 r0 q0 N:=
  hE xv h
theorem ux {Q:QT [.row 9 0]} {N0:Nat} {a1:Option Addr} {e1:List D} {c1 m5 c5:Nat} {n7:Int} {r0:List D} {q0:Nat} {N:Nat} (h :
Br (decide (n7<(e1.length:Int))) ((0<=n7/\n7<(e1.length:Int))/\∃ s,List.getD e1 n7.toNat default=D.t s/\(m5=r0.length/\c5=q0)/\∀ a,
 ApA a r0->∀ b,N<=b->vN b [a]->ACalls prog 210 [.i] [.sv a 0 r0 c5,.str s] b (fun n a=>b<=a->Br (decide (n<0)) ((0<=n7/\n7<(e1.length :
 Int))/\∃ b,List.getD e1 n7.toNat default=D.t b/\(m5=r0.length/\c5=q0)/\zB r0 [D.t b] 16/\∀(c:Nat),yB Q N0 a1 e1 c1
 (r0++[D.t b]).length c (IntKind.i64.wrap (n7+1)) (r0++[D.t b]) c a) (yB Q N0 a1 e1 c1 m5 c5 (IntKind.i64.wrap (n7+1)) r0 q0 a)))
 ((m5=r0.length/\c5=q0)/\uP N (Q r0 c5))):yB Q N0 a1 e1 c1 m5 c5 n7 r0 q0 N:=
  hE vS h
theorem tZ {Q:QT [.sl 0]} {N0:Nat} {a3:Option Addr} {e3:List D} {c3:Nat} {n4:Int} {m5 c5:Nat} {n6:Int} {a7:Option Addr} {e7:List D} {c7:Nat} {n8:Int} {y0:D} {r1:List D} {q1:Nat} {N:Nat} (h :
Br (decide (n8<(e3.length:Int))) (Br (n6==n4) ((0<=n8/\n8<(e3.length:Int))/\∃ s,List.getD e3 n8.toNat default=D.t s/\kL 0 244 [.sv a7 0 e7
 c7,.str s] N (fun a b c d=>yw Q N0 a3 e3 c3 n4 m5 c5 n6 a b c (IntKind.i64.wrap (n8+1)) y0 r1 q1 d)) ((m5=r1.length/\c5=q1)/\∀
 a,ApA a r1->Off [a] (D.sl a7 0 e7 c7)->∀ b,N<=b->vN b [a]->ACalls prog 245 [.row 9 0] [.sv a 0 r1 c5,.sv a7 0 e7 c7] b (fun c d e
 => b<=e->Off [a] (D.ag c)/\(Bel e (D.ag c)->yA Q N0 a3 e3 c3 n4 c.length d (IntKind.i64.wrap (n6+1)) y0 c d e))))
 ((m5=r1.length/\c5=q1)/\∀ a,ApA a r1->Off [a] (D.sl a7 0 e7 c7)->∀ b,N<=b->vN b [a]->ACalls prog 245 [.row 9 0] [.sv a 0 r1 c5,.sv
 a7 0 e7 c7] b (fun c d e=>b<=e->Off [a] (D.ag c)/\(Bel e (D.ag c)->yA Q N0 a3 e3 c3 n4 c.length d (IntKind.i64.wrap
 (n6+1)) y0 c d e)))):yw Q N0 a3 e3 c3 n4 m5 c5 n6 a7 e7 c7 n8 y0 r1 q1 N:=
  hE uh h
theorem tL (N:Nat) (a0:Option Addr) (e0:List D) (c0:Nat) (J:Addr) (I:D) (Q:QT [.int .i64]) (h :
Bel N (D.sl a0 0 e0 c0)->yF Q N a0 e0 c0 J I (e0.length:Int) 0 N):ACalls prog 285 [.int .i64] [.sv a0 0 e0 c0,.fn 274 [.pd J 0 I]] N Q:=
 eE wj h
theorem xu (E:Env) (Q:QT [(Sh.bk 0),(Sh.sl 0),(Sh.sl 0)]) (N0:Nat) (m0 c0:Nat) (n5 n6:Int) (r0:List D) (q0:Nat) (a1_0:Option Addr) (e1_0:List D) (c1_0:Nat) (N:Nat) (h :
Br (decide (n6<(m0:Int))) ((0<=n6/\n6<(m0:Int)/\(0+n6.toNat:Nat)<r0.length)/\(0+n6.toNat:Nat)<r0.length/\∃ s,List.getD r0 (0 +
 n6.toNat:Nat) default=D.t s/\∀ a,ApA (Option.some a) [D.sl a1_0 0 e1_0 c1_0]->∀ c,N<=c->vN c [Option.some a]->ACalls prog 274 [.bool] [.str
 s,.pd a 0 (D.sl a1_0 0 e1_0 c1_0)] c (fun b a=>c<=a->Br (!b) ((0<=n5/\n5<(m0:Int)/\(0+n5.toNat:Nat)<r0.length)/\(0+n5.toNat:Nat) <
 r0.length/\zR E Q N0 m0 c0 (IntKind.i64.wrap (n5+1)) (IntKind.i64.wrap (n6+1)) (List.set r0 (0+n5.toNat:Nat) (D.t s)) q0 a1_0
 e1_0 c1_0 a) (zR E Q N0 m0 c0 n5 (IntKind.i64.wrap (n6+1)) r0 q0 a1_0 e1_0 c1_0 a))) ((0<=n5/\n5<=(m0:Int)/\(m0:Int)<=(c0 :
 Int)/\n5<(c0))/\((0+n5.toNat:Nat)+(((m0:Int)).toNat - n5.toNat:Nat):Nat)<=r0.length/\(0<=n5/\n5<=(c0:Int))/\n5.toNat<=(List.take (0 +
 n5.toNat:Nat) r0++(List.replicate (((m0:Int)).toNat - n5.toNat:Nat) (D.t b0)++List.drop ((0+n5.toNat:Nat)+(((m0:Int)).toNat - n5.toNat:Nat)
 : Nat) r0)).length/\zZ E [.arr 9 0 [] 0,.var [.sv none 0 [] 0]]/\(n5.toNat=(List.take n5.toNat (List.take (0+n5.toNat:Nat) r0++(List.replicate
 (((m0:Int)).toNat - n5.toNat:Nat) (D.t b0)++List.drop ((0+n5.toNat:Nat)+(((m0:Int)).toNat - n5.toNat:Nat):Nat) r0))).length/\c0=q0)/\∀ a,
 N<=a->Q (D.j 0) none (List.take n5.toNat (List.take (0+n5.toNat:Nat) r0++(List.replicate (((m0:Int)).toNat - n5.toNat:Nat) (D.t b0)++List.drop
 ((0+n5.toNat:Nat)+(((m0:Int)).toNat - n5.toNat:Nat):Nat) r0))) q0 a1_0 e1_0 c1_0 a)):zR E Q N0 m0 c0 n5 n6 r0 q0 a1_0 e1_0 c1_0 N:=
  hE wS h
theorem wB {Q:QT [.int .i64]} {N0:Nat} {a0:Option Addr} {e0:List D} {c0:Nat} {J:Addr} {I:D} {U O:Int} {N:Nat} (h :
Br (decide (O<U)) ((0<=O/\O<(e0.length:Int))/\∃ s,List.getD e0 O.toNat default=D.t s/\kB 274 [.str s,.pd J 0 I] N (λb a=>Br
 b (uP a (Q O)) (yF Q N0 a0 e0 c0 J I U (IntKind.i64.wrap (O+1)) a))) (uP N (Q (-1)))):yF Q N0 a0 e0 c0 J I U O N:=
  hE wj h
theorem pq (N:Nat) (J:ByteArray) (a1:Addr) (I:D) (Q:QT [.bool]) (h :
∃ a d,∃ c:Nat,I=D.sl a 0 d c/\kB 174 [.sv a 0 d c,.str J] N (λb a=>uP a (Q b)) ):ACalls prog 274 [.bool] [.str J,.pd a1 0 I] N Q:=
  eE H0 h
end Go.Proofs.YtlaniepnglheoaaGreatDoor
set_option maxRecDepth 100000
namespace Go.Proofs.YtlaniepnglheoaaGreatDoor
open Go Go.Proofs Go.Proofs.Tryz
def A5:Hint:=⟨[hc 3 [1,2,3,4] [] [(3,8,35,9)]],[],[(1,[en 0,en 1,en 2,en 3,en 4,en 5,en 6,en 7,en 8,en 9,en 11,en 12,en 15,{ i:=10,hard:=true,cl:=[14],fs:=[3,14] },{ i:=13,hard:=true,cl:=[17],fs:=[3,17] },en 14,eh 16]),(5,[en 0,en 1,en 2,en 3,en 4,en 5,en 6,{ i:=7,hard:=true,cl:=[33],fs:=[3,33] },{ i:=8,hard:=true,cl:=[34],fs:=[3,34] },eh 9,en 10,eh 11])]⟩
def A7:Hint:=⟨[hc 3 [1,4,5,6] [] [(5,8,35,9)]],[],[(5,[en 0,en 1,en 2,en 3,en 4,en 5,{ i:=6,hard:=true,cl:=[20],fs:=[5,20] },{ i:=7,hard:=true,cl:=[21],fs:=[5,21] },eh 8,en 9,eh 10])]⟩
def Dl:Hint:=⟨[],[],[(1,[en 0,en 1,en 2,en 3,en 4,en 5,en 6,en 7,en 8,en 9,en 11,en 12,en 14,ec 10 [14],ec 13 [17],en 15,eh 16])]⟩
def tN:Hint:=⟨[hc 3 [1,2,4,5,10,11,12] [(5,35,9)]],[],[(5,hs 7 [{ i:=3,hard:=true,cl:=[18],fs:=[5,18] },{ i:=4,hard:=true,cl:=[19],fs:=[5,19] }]),(7,hs 4 [{ i:=2,hard:=true,cl:=[23],fs:=[5,23] }])]⟩
def Em:Hint:=⟨[],[],[(1,hs 3 [ec 1 [3]])]⟩
def xg (Q:QT [.pk,.int .i64,.str,.str,.int .i64,.dc,.dc,.dc,.dc,.row 35 9])(N0:Nat)(n4:Int)(y0:D)(I:Int)(J O:ByteArray)(U Y:Int)(aa:Option Addr)(ab:List D)(ac:Nat)(ae:Int)(ah:Option Addr)(ai:List D)(aj:Nat)(ak:Option Addr)(al:List D)(ao:Nat)(aq:Int)(au aw:ByteArray)(ax:Int)(ay az a6 a7:D)(a8 ba:Nat)(r3:List D)(q3:Nat)(N:Nat):Prop:=AT prog 45 [.pk,.int .i64,.str,.str,.int .i64,.dc,.dc,.dc,.dc,.row 35 9] Q N0 .ord (zF prog 45 3) ⟨an 1 (.pb 0 0 0 0::.pb 1 0 0 0::.pb 2 0 0 0::.int .i64 n4::an 34 []),[.vd y0 9,.var [.int .i64 I,.str J,.str O,.int .i64 U,.int .i64 Y,.sv aa 2 ab ac,.int .i64 ae,.sv ah 2 ai aj,.sv ak 9 al ao],.var [.int .i64 aq,.str au,.str aw,.int .i64 ax,.dc ay,.dc az,.dc a6,.dc a7,.sb 3 9 0 a8 ba],.arr 35 9 r3 q3],N,none⟩
def wu (Q:QT [.ag 9])(N0:Nat)(a1:Option Addr)(e1:List D)(c1:Nat)(n6 I:Int)(J O:ByteArray)(U Y:Int)(aa:Option Addr)(ab:List D)(ac:Nat)(ae:Int)(ah:Option Addr)(ai:List D)(aj:Nat)(ak:Option Addr)(al:List D)(ao:Nat)(aq:Int)(au aw:ByteArray)(ax ay:Int)(az:Option Addr)(a6:List D)(a7:Nat)(a8:Int)(ba:Option Addr)(bb:List D)(bc bd bg:Nat)(r2:List D)(q2:Nat)(N:Nat):Prop:=AT prog 141 [.ag 9] Q N0 .ord (zF prog 141 3) ⟨an 1 (.sv a1 9 e1 c1::an 2 (.pb 0 0 0 0::.pb 1 0 0 0::.int .i64 n6::an 19 [])),[.var [.int .i64 I,.str J,.str O,.int .i64 U,.int .i64 Y,.sv aa 2 ab ac,.int .i64 ae,.sv ah 2 ai aj,.sv ak 9 al ao],.var [.int .i64 aq,.str au,.str aw,.int .i64 ax,.int .i64 ay,.sv az 2 a6 a7,.int .i64 a8,.sv ba 2 bb bc,.sb 2 9 0 bd bg],.arr 35 9 r2 q2],N,none⟩
def xE (Q:QT [.pk,.int .i64,.str,.str,.int .i64,.dc,.dc,.dc,.dc,.row 35 9])(N0:Nat)(m5 c5:Nat)(aq:Option Addr)(au:List D)(aw:Nat)(ax ay:Int)(y0:D)(I:Int)(J O:ByteArray)(U Y:Int)(aa:Option Addr)(ab:List D)(ac:Nat)(ae:Int)(ah:Option Addr)(ai:List D)(aj:Nat)(ak:Option Addr)(al:List D)(ao:Nat)(r2:List D)(q2:Nat)(N:Nat):Prop:=AT prog 186 [.pk,.int .i64,.str,.str,.int .i64,.dc,.dc,.dc,.dc,.row 35 9] Q N0 .ord (zF prog 186 3) ⟨an 1 (.fn 123 []::.pb 0 0 0 0::an 1 (.pb 1 0 0 0::.sb 2 9 0 m5 c5::an 4 (.sv aq 9 au aw::.int .i64 ax::.int .i64 ay::an 13 []))),[.vd y0 9,.var [.int .i64 I,.str J,.str O,.int .i64 U,.int .i64 Y,.sv aa 2 ab ac,.int .i64 ae,.sv ah 2 ai aj,.sv ak 9 al ao],.arr 35 9 r2 q2],N,none⟩
theorem CI (N:Nat) (x0:D) (Q:QT [.pk,.int .i64,.str,.str,.int .i64,.dc,.dc,.dc,.dc,.row 35 9]) (h :
Bel N x0->∃ n:Int,(x0.cell 0)=D.j n/\∃ s,(x0.cell 1)=D.t s/\∃ a,(x0.cell 2)=D.t a/\∃ b:Int,(x0.cell 3)=D.j b/\kA 2 90 [.dg 2
 (D.sub x0 4 2)] N (fun x c=>kA 2 90 [.dg 2 (D.sub x0 6 2)] c (fun c d=>xg Q N 0 x0 0 b0 b0 0 0 none [] 0 0 none [] 0 none [] 0 n s a b
 (x.cell 0) (x.cell 1) (c.cell 0) (c.cell 1) 0 0 [] 0 d))):ACalls prog 45 [.pk,.int .i64,.str,.str,.int .i64,.dc,.dc,.dc,.dc,.row 35 9] [PV.dg 9 x0] N Q:=
  eE A5 h
theorem Jy (N:Nat) (n0:Int) (a1:Option Addr) (e1:List D) (c1:Nat) (Q:QT [.ag 9]) (h :
Bel N (D.sl a1 9 e1 c1)->wu Q N a1 e1 c1 0 0 b0 b0 0 0 none [] 0 0 none [] 0 none [] 0 n0 b0 b0 0 0 none [] 0 0 none [] 0 0 0 [] 0 N):ACalls prog 141 [.ag 9] [PV.int .i64 n0,PV.sv a1 9 e1 c1] N Q:=
 eE A7 h
theorem EC (N:Nat) (I:D) (a1:Option Addr) (e1:List D) (c1:Nat) (Q:QT [.pk,.int .i64,.str,.str,.int .i64,.dc,.dc,.dc,.dc,.bk 1]) (h :
Bel N I->Bel N (D.sl a1 9 e1 c1)->∃ n:Int,(I.cell 0)=D.j n/\∃ s,(I.cell 1)=D.t s/\∃ a,(I.cell 2)=D.t a/\∃ b:Int,(I.cell 3) =
 D.j b/\kA 2 178 [.dg 2 (D.sub I 4 2)] N (λx c=>kA 2 178 [.dg 2 (D.sub I 6 2)] c (λc d=>uP d (Q n s a b (x.cell 0) (x.cell 1) (c.cell
 0) (c.cell 1) (D.sl a1 9 e1 c1))))):ACalls prog 189 [.pk,.int .i64,.str,.str,.int .i64,.dc,.dc,.dc,.dc,.bk 1] [PV.dg 9 I,PV.sv a1 9 e1 c1] N Q:=
  eE Dl h
theorem GK (N:Nat) (I:D) (Q:QT [.pk,.int .i64,.str,.str,.int .i64,.dc,.dc,.dc,.dc,.row 35 9]) (h :
Bel N I->∀ a,N<=a->ACalls prog 186 [.pk,.i,.str,.str,.i,.dc,.dc,.dc,.dc,.row 35 9] [.dg 9 I,.fn 123 []] a (λn s b c x d e f
 g h i=>a<=i->Bel i (D.ag g)->(g.length=g.length/\h=h)/\uP i (Q n s b c x d e f g h))):ACalls prog 123 [.pk,.int .i64,.str,.str,.int .i64,.dc,.dc,.dc,.dc,.row 35 9] [PV.dg 9 I] N Q:=
  eE Em h
theorem Jf (N:Nat) (n0:Int) (a1:Option Addr) (e1:List D) (c1:Nat) (Q:QT [.ag 9]) (h :
Bel N (D.sl a1 9 e1 c1)->∀ a,N<=a->Q (D.ag [D.j n0,D.t b0,D.t b0,D.j 0,D.j 0,D.sl none 2 [] 0,D.j 0,D.sl none 2 [] 0,D.sl a1 9 e1 c1]) a):ACalls prog 258 [.ag 9] [PV.int .i64 n0,PV.sv a1 9 e1 c1] N Q:=
 eE H0 h
theorem w9 {Q:QT [.pk,.int .i64,.str,.str,.int .i64,.dc,.dc,.dc,.dc,.row 35 9]} {N0:Nat} {n4:Int} {y0:D} {ai:Int} {aj ak:ByteArray} {al ao:Int} {aq:Option Addr} {au:List D} {aw:Nat} {ax:Int} {ay:Option Addr} {az:List D} {a6:Nat} {a7:Option Addr} {a8:List D} {ba:Nat} {aa:Int} {ab ac:ByteArray} {ae:Int} {I J O U:D} {ah Y:Nat} {r3:List D} {q3:Nat} {N:Nat} (h :
∃ a b,∃ c:Nat,(y0.cell 8)=D.sl a 9 b c/\Br (decide (n4<(b.length:Int))) (∃ a b,∃ c:Nat,(y0.cell 8)=D.sl a 9 b c/\(0<=n4
 /\ n4<(b.length:Int))/\∀ a,N<=a->ACalls prog 45 [.pk,.i,.str,.str,.i,.dc,.dc,.dc,.dc,.row 35 9] [.dg 9 (List.getD b n4.toNat default)]
 a (λn s b c x d e f g h i=>a<=i->Bel i (D.ag g)->(g.length=g.length/\h=h)/\∀ a j,i<=j->Fresh N0 j a
 [D.ag g,x,d,e,f,I,J,O,U,D.ag r3]->(ah=r3.length/\Y=q3)/\zB r3 [D.ag [D.j n,D.t s,D.t b,D.j c,x,d,e,
 f,D.sl a 9 g h]] 136/\∀(i:Nat),xg Q N0 (IntKind.i64.wrap (n4+1)) y0 ai aj ak al ao aq au aw ax ay az a6
 a7 a8 ba aa ab ac ae I J O U (r3++[D.ag [D.j n,D.t s,D.t b,D.j c,x,d,e,f,D.sl a 9 g h]]).length i (r3 ++
 [D.ag [D.j n,D.t s,D.t b,D.j c,x,d,e,f,D.sl a 9 g h]]) i j)) ((ah=r3.length/\Y=q3)/\uP N (Q aa ab ac ae I J
 O U r3 Y))):xg Q N0 n4 y0 ai aj ak al ao aq au aw ax ay az a6 a7 a8 ba aa ab ac ae I J O U ah Y r3 q3 N:=
  hE A5 h
theorem qe {Q:QT [.ag 9]} {N0:Nat} {a1:Option Addr} {e1:List D} {c1:Nat} {n6 ao:Int} {aq au:ByteArray} {aw ax:Int} {ay:Option Addr} {az:List D} {a6:Nat} {a7:Int} {a8:Option Addr} {ba:List D} {bb:Nat} {bc:Option Addr} {bd:List D} {bg:Nat} {ab:Int} {ac ae:ByteArray} {ah ai:Int} {I:Option Addr} {J:List D} {O:Nat} {aj:Int} {U:Option Addr} {Y:List D} {aa ak al:Nat} {r2:List D} {q2:Nat} {N:Nat} (h :
Br (decide (n6<(e1.length:Int))) ((0<=n6/\n6<(e1.length:Int))/\∀ b,N<=b->ACalls prog 45 [.pk,.i,.str,.str,.i,.dc,.dc,.dc,.dc,.row
 35 9] [.dg 9 (List.getD e1 n6.toNat default)] b (λn s c d x e f g h i j=>b<=j->Bel j (D.ag h)->(h.length=h.length/\i=i)/\∀ a
 b,j<=b->Fresh N0 b a [D.ag h,x,e,f,g,D.sl I 2 J O,D.sl U 2 Y aa,D.ag r2]->(ak=r2.length/\al=q2)/\zB r2
 [D.ag [D.j n,D.t s,D.t c,D.j d,x,e,f,g,D.sl a 9 h i]] 136/\∀(j:Nat),wu Q N0 a1 e1 c1 (IntKind.i64.wrap (n6+1)) ao
 aq au aw ax ay az a6 a7 a8 ba bb bc bd bg ab ac ae ah ai I J O aj U Y aa (r2++[D.ag [D.j n,D.t s,
 D.t c,D.j d,x,e,f,g,D.sl a 9 h i]]).length j (r2++[D.ag [D.j n,D.t s,D.t c,D.j d,x,e,f,g,D.sl a 9 h i]]) j b)) (w3
 (ak=r2.length/\al=q2) (∀ a b,N<=b->Fresh N0 b a [D.ag r2,D.sl I 2 J O,D.sl U 2 Y aa]->uP b (Q (D.ag [D.j ab,D.t ac,
 D.t ae,D.j ah,D.j ai,D.sl I 2 J O,D.j aj,D.sl U 2 Y aa,D.sl a 9 r2 q2]))))):wu Q N0 a1 e1 c1 n6 ao aq au aw ax ay az a6 a7 a8 ba bb bc bd bg ab ac ae ah ai I J O aj U Y aa ak al r2 q2 N:=
  hE A7 h
theorem q8 (N:Nat) (I:D) (Q:QT [.pk,.int .i64,.str,.str,.int .i64,.dc,.dc,.dc,.dc,.row 35 9]) (h :
Bel N I->∃ a b,∃ c:Nat,(I.cell 8)=D.sl a 9 b c/\xE Q N 0 0 a b c (b.length:Int) 0 I 0 b0 b0 0 0 none [] 0 0 none [] 0
 none [] 0 [] 0 N):ACalls prog 186 [.pk,.int .i64,.str,.str,.int .i64,.dc,.dc,.dc,.dc,.row 35 9] [.dg 9 I,.fn 123 []] N Q:=
  eE tN h
theorem uL {Q:QT [.pk,.int .i64,.str,.str,.int .i64,.dc,.dc,.dc,.dc,.row 35 9]} {N0:Nat} {m5 c5:Nat} {ay:Option Addr} {O:List D} {az:Nat} {ax I:Int} {y0:D} {U:Int} {Y aa:ByteArray} {ab ac:Int} {ae:Option Addr} {ah:List D} {ai:Nat} {aj:Int} {ak:Option Addr} {al:List D} {ao:Nat} {aq:Option Addr} {au:List D} {aw:Nat} {J:List D} {q2:Nat} {N:Nat} (h :
Br (decide (I<ax)) ((0<=I/\I<(O.length:Int))/\∀ b,N<=b->ACalls prog 123 [.pk,.i,.str,.str,.i,.dc,.dc,.dc,.dc,.row 35 9]
 [.dg 9 (List.getD O I.toNat default)] b (λn s c d x e f g h i j=>b<=j->Bel j (D.ag h)->(h.length=h.length/\i=i)/\∀ a b,j
 <= b->Fresh N0 b a [D.ag h,x,e,f,g,D.ag J]->(m5=J.length/\c5=q2)/\zB J [D.ag [D.j n,D.t s,D.t c,D.j d,x,e,f,g,
 D.sl a 9 h i]] 136/\∀(j:Nat),xE Q N0 (J++[D.ag [D.j n,D.t s,D.t c,D.j d,x,e,f,g,D.sl a 9 h i]]).length j ay
 O az ax (IntKind.i64.wrap (I+1)) y0 U Y aa ab ac ae ah ai aj ak al ao aq au aw (J++[D.ag [D.j n,D.t s,D.t c,D.j
 d,x,e,f,g,D.sl a 9 h i]]) j b)) ((m5=J.length/\c5=q2)/\∀ a,ApA a J->Off [a] y0->∀ b,N<=b->vN b [a]->ACalls prog 189
 [.pk,.i,.str,.str,.i,.dc,.dc,.dc,.dc,Sh.bk 1] [.dg 9 y0,.sv a 9 J c5] b (λc d e f g h i j k l=>b<=l->k=D.sl a 9
 J c5/\Off [a] g/\Off [a] h/\Off [a] i/\Off [a] j/\(m5=J.length/\c5=q2)/\uP l (Q c d e f g h i j J c5)))):xE Q N0 m5 c5 ay O az ax I y0 U Y aa ab ac ae ah ai aj ak al ao aq au aw J q2 N:=
  hE tN h
end Go.Proofs.YtlaniepnglheoaaGreatDoor
set_option maxRecDepth 100000
namespace Go.Proofs.YtlaniepnglheoaaGreatDoor
open Go Go.Proofs Go.Proofs.Tryz
def Dm:Hint:=⟨[],[],[(7,[en 0,en 1,en 2,en 3,en 7,en 8,en 9,en 10,ec 4 [14],en 5,en 6,ec 11 [21],en 12,en 13,en 14]),(8,hs 8 [ec 4 [28]])]⟩
def CO:Hint:=⟨[],[],[(1,hs 3 [ec 1 [3]]),(3,hs 3 [ec 1 [6]])]⟩
def rK:Hint:=⟨[hc 3 [1,3,8,9,10] [(3,9,0)]],[],[(5,hs 6 [ec 2 [15]]),(17,[en 0,en 1,en 2,en 3,en 4,en 5,en 6,en 7,en 8,en 9,en 10,en 11,en 12]),(21,[en 0,en 1,en 2,en 3,en 4,en 5,en 9,en 10,en 11,ec 6 [75],en 7,en 8,en 12,en 13,en 14]),(25,[en 0,en 1,en 2,en 3,en 4,eh 5,en 6,en 7,en 8]),(27,[en 0,en 1,en 2,en 3,en 4,en 5,en 6,en 7,en 8,en 9,en 13,en 14,en 18,en 19,en 20,ec 10 [111],en 11,en 12,ec 15 [116],en 16,en 17,en 21,en 22,en 23])]⟩
def El:Hint:=⟨[],[],[(1,hs 3 [ec 1 [3]]),(3,hs 3 [ec 1 [6]])]⟩
def CN:Hint:=⟨[],[],[(1,hs 3 [ec 1 [3]]),(3,hs 3 [ec 1 [6]])]⟩
def xc (Q:QT [.str])(N0:Nat)(J c3:Nat)(O:Option Addr)(U:List D)(Y:Nat)(n9 I:Int)(y0:D)(r1:List D)(q1:Nat)(N:Nat):Prop:=AT prog 65 [.str] Q N0 .ord (zF prog 65 3) ⟨an 1 (.pb 0 0 0 0::an 1 (.sb 1 0 0 J c3::an 4 (.sv O 9 U Y::.int .i64 n9::.int .i64 I::an 139 []))),[.vd y0 9,.arr 9 0 r1 q1],N,none⟩
theorem Mq (N:Nat) (a0:Option Addr) (e0:List D) (c0:Nat) (I:ByteArray) (Q:QT [.str]) (h :
Bel N (D.sl a0 0 e0 c0)->kS 197 [.sv a0 0 e0 c0,.str I] N (λs a=>uP a (Q s))):ACalls prog 132 [.str] [PV.sv a0 0 e0 c0,PV.str I] N Q:=
 eE H0 h
theorem wN (N:Nat) (I:D) (Q:QT [.str]) (h :
Bel N I->∃ n:Int,(I.cell 0)=D.j n/\Br (n==1) (uP N (Q (bytes [73]))) (Br (n==2) (uP N (Q (bytes [66]))) (Br (n==3) (∃ a b,∃ c:Nat,
 (I.cell 1)=D.sl a 2 b c/\((0:Int)<=(0:Int)/\0<(b.length:Int))/\∃ a c,∃ d:Nat,(I.cell 1)=D.sl a 2 c d/\((0:Int)<=(1 :
 Int)/\1<(c.length:Int))/\kS 63 [.dg 2 (List.getD b 0 default)] N (λs a=>(1+s.size:Nat)<=9223372036854775807/\(ByteArray.size (bytes [40]
 ++ s)+1:Nat)<=9223372036854775807/\kS 63 [.dg 2 (List.getD c 1 default)] a (λa b=>(ByteArray.size (bytes [40]++s++bytes [62])+a.size :
 Nat)<=9223372036854775807/\(ByteArray.size (bytes [40]++s++bytes [62]++a)+1:Nat)<=9223372036854775807/\uP b (Q (bytes [40]++s++bytes [62]
 ++ a++bytes [41]))))) (∃ a b,∃ c:Nat,(I.cell 1)=D.sl a 2 b c/\((0:Int)<=(0:Int)/\0<(b.length:Int))/\kS 63 [.dg 2
 (List.getD b 0 default)] N (λa b=>(1+a.size:Nat)<=9223372036854775807/\(ByteArray.size (bytes [60]++a)+1:Nat)<=9223372036854775807 /\
 uP b (Q (bytes [60]++a++bytes [62]))))))):ACalls prog 63 [.str] [PV.dg 2 I] N Q:=
  eE Dm h
theorem DD (N:Nat) (I:D) (Q:QT [.str]) (h :
Bel N I->kB 62 [.dg 2 I] N (λb a=>Br (!b) (uP a (Q b0)) (kS 63 [.dg 2 I] a (λs a=>uP a (Q s))))):ACalls prog 27 [.str] [PV.dg 2 I] N Q:=
 eE CO h
theorem ED (N:Nat) (I:D) (Q:QT [.str]) (h :
Bel N I->∃ a b,∃ c:Nat,(I.cell 8)=D.sl a 9 b c/\xc Q N 0 0 a b c (b.length:Int) 0 I [] 0 N):ACalls prog 65 [.str] [PV.dg 9 I] N Q:=
 eE rK h
theorem GJ (N:Nat) (I:D) (Q:QT [.str]) (h :
Bel N I->kB 64 [.dg 9 I] N (λb a=>Br (!b) (uP a (Q b0)) (kS 65 [.dg 9 I] a (λs a=>uP a (Q s))))):ACalls prog 29 [.str] [PV.dg 9 I] N Q:=
 eE El h
theorem DC (N:Nat) (I:D) (Q:QT [.str]) (h :
Bel N I->kB 59 [.dg 9 I] N (λb a=>Br (!b) (uP a (Q b0)) (kS 65 [.dg 9 I] a (λs a=>uP a (Q s))))):ACalls prog 54 [.str] [PV.dg 9 I] N Q:=
 eE CN h
theorem tW {Q:QT [.str]} {N0:Nat} {I c3:Nat} {a8:Option Addr} {Y:List D} {c8:Nat} {n9 O:Int} {J:D} {r1:List D} {U:Nat} {N:Nat} (h :
Br (decide (O<n9)) ((0<=O/\O<(Y.length:Int))/\kS 65 [.dg 9 (List.getD Y O.toNat default)] N (λs a=>(I=r1.length/\c3=U) /\
 zB r1 [D.t s] 16/\∀(c:Nat),xc Q N0 (r1++[D.t s]).length c a8 Y c8 n9 (IntKind.i64.wrap (O+1)) J (r1++[D.t s]) c a)) (∃ n :
 Int,(J.cell 0)=D.j n/\Br (n==1) (∃ a,(J.cell 1)=D.t a/\uP N (Q a)) (Br (n==2) (∃ a:Int,(J.cell 3)=D.j a/\kS 30 [.j a] N (fun
 a b=>uP b (Q a))) (Br (n==3) (∃ a:Int,(J.cell 3)=D.j a/\∃ b:Int,(J.cell 3)=D.j b/\(0<=a/\a<=IntKind.i64.wrap (b+1) /\
 IntKind.i64.wrap (b+1)<=2)/\(1+ByteArray.size (ByteArray.extract (bytes [102,116]) a.toNat (IntKind.i64.wrap (b+1)).toNat):Nat) <=
 9223372036854775807/\∀ c,N<=c->Q (bytes [35]++ByteArray.extract (bytes [102,116]) a.toNat (IntKind.i64.wrap (b+1)).toNat) c) (Br (n==4) (Br
 ((I:Int)==1) (((0:Int)<=(0:Int)/\0<(I:Int)/\0<r1.length)/\0<r1.length/\∃ a,List.getD r1 0 default=D.t a/\(2+a.size:Nat) <=
 9223372036854775807/\(ByteArray.size (bytes [40,33]++a)+1:Nat)<=9223372036854775807/\uP N (Q (bytes [40,33]++a++bytes [41]))) (((0:Int) <=
 (0:Int)/\0<(I:Int)/\0<r1.length)/\0<r1.length/\∃ a,List.getD r1 0 default=D.t a/\(1+a.size:Nat)<=9223372036854775807/\∃ b,
 (J.cell 1)=D.t b/\(ByteArray.size (bytes [40]++a)+b.size:Nat)<=9223372036854775807/\((0:Int)<=(1:Int)/\1<(I:Int)/\1<r1.length) /\
 1<r1.length/\∃ c,List.getD r1 1 default=D.t c/\(ByteArray.size (bytes [40]++a++b)+c.size:Nat)<=9223372036854775807/\(ByteArray.size
 (bytes [40]++a++b++c)+1:Nat)<=9223372036854775807/\uP N (Q (bytes [40]++a++b++c++bytes [41])))) (Br (n==5) ((I=r1.length /\
 c3=U)/\∀ a,ApA a r1->∀ b,N<=b->vN b [a]->ACalls prog 132 [.str] [.sv a 0 r1 c3,.str (bytes [32])] b (λa c=>b<=c->(4 +
 a.size:Nat)<=9223372036854775807/\(ByteArray.size (bytes [40,105,102,32]++a)+1:Nat)<=9223372036854775807/\uP c (Q (bytes [40,105,102,32]
 ++ a++bytes [41])))) (Br (n==6) (∃ a,(J.cell 1)=D.t a/\(2+a.size:Nat)<=9223372036854775807/\(ByteArray.size (bytes [40,92]++a)+1 :
 Nat)<=9223372036854775807/\((0:Int)<=(0:Int)/\0<(I:Int)/\0<r1.length)/\0<r1.length/\∃ b,List.getD r1 0 default=D.t b/\kS 27 [.dg 2
 (D.sub J 4 2)] N (λc d=>(ByteArray.size (bytes [40,92]++a++bytes [58])+c.size:Nat)<=9223372036854775807/\(ByteArray.size (bytes [40,
 92]++a++bytes [58]++c)+1:Nat)<=9223372036854775807/\(ByteArray.size (bytes [40,92]++a++bytes [58]++c++bytes [46])+b.size :
 Nat)<=9223372036854775807/\(ByteArray.size (bytes [40,92]++a++bytes [58]++c++bytes [46]++b)+1:Nat)<=9223372036854775807/\uP d (Q
 (bytes [40,92]++a++bytes [58]++c++bytes [46]++b++bytes [41])))) (Br (n==7) ((I=r1.length/\c3=U)/\∀ a,ApA a r1->∀ b,N <=
 b->vN b [a]->ACalls prog 132 [.str] [.sv a 0 r1 c3,.str (bytes [32])] b (λa c=>b<=c->(1+a.size:Nat)<=9223372036854775807
 /\ (ByteArray.size (bytes [40]++a)+1:Nat)<=9223372036854775807/\uP c (Q (bytes [40]++a++bytes [41])))) (Br (n==8) (∃ a,(J.cell 1) =
 D.t a/\(5+a.size:Nat)<=9223372036854775807/\(ByteArray.size (bytes [40,108,101,116,32]++a)+1:Nat)<=9223372036854775807/\(I =
 r1.length/\c3=U)/\∀ b,ApA b r1->∀ c,N<=c->vN c [b]->ACalls prog 132 [.str] [.sv b 0 r1 c3,.str (bytes [32])] c (λb d=>
 c<=d->(ByteArray.size (bytes [40,108,101,116,32]++a++bytes [61])+b.size:Nat)<=9223372036854775807/\(ByteArray.size (bytes [40,108,
 101,116,32]++a++bytes [61]++b)+1:Nat)<=9223372036854775807/\uP d (Q (bytes [40,108,101,116,32]++a++bytes [61]++b++bytes
 [41])))) (Br (n==9) (∃ a,(J.cell 1)=D.t a/\(5+a.size:Nat)<=9223372036854775807/\(ByteArray.size (bytes [40,114,101,99,32]++a)+1
 : Nat)<=9223372036854775807/\∃ b,(J.cell 2)=D.t b/\(ByteArray.size (bytes [40,114,101,99,32]++a++bytes [32])+b.size:Nat) <=
 9223372036854775807/\(ByteArray.size (bytes [40,114,101,99,32]++a++bytes [32]++b)+1:Nat)<=9223372036854775807/\((0:Int)<=(0:Int)/\0
 < (I:Int)/\0<r1.length)/\0<r1.length/\∃ c,List.getD r1 0 default=D.t c/\kS 27 [.dg 2 (D.sub J 4 2)] N (λd e=>(ByteArray.size
 (bytes [40,114,101,99,32]++a++bytes [32]++b++bytes [58])+d.size:Nat)<=9223372036854775807/\(ByteArray.size (bytes [40,114,101,99,
 32]++a++bytes [32]++b++bytes [58]++d)+1:Nat)<=9223372036854775807/\kS 27 [.dg 2 (D.sub J 6 2)] e (λe f=>(ByteArray.size
 (bytes [40,114,101,99,32]++a++bytes [32]++b++bytes [58]++d++bytes [62])+e.size:Nat)<=9223372036854775807/\(ByteArray.size
 (bytes [40,114,101,99,32]++a++bytes [32]++b++bytes [58]++d++bytes [62]++e)+1:Nat)<=9223372036854775807/\(ByteArray.size
 (bytes [40,114,101,99,32]++a++bytes [32]++b++bytes [58]++d++bytes [62]++e++bytes [46])+c.size:Nat)<=9223372036854775807
 /\ (ByteArray.size (bytes [40,114,101,99,32]++a++bytes [32]++b++bytes [58]++d++bytes [62]++e++bytes [46]++c)+1:Nat) <=
 9223372036854775807/\uP f (Q (bytes [40,114,101,99,32]++a++bytes [32]++b++bytes [58]++d++bytes [62]++e++bytes [46]++c ++
 bytes [41]))))) (Br (n==10) (((0:Int)<=(0:Int)/\0<(I:Int)/\0<r1.length)/\0<r1.length/\∃ a,List.getD r1 0 default=D.t a/\(1 +
 a.size:Nat)<=9223372036854775807/\(ByteArray.size (bytes [60]++a)+1:Nat)<=9223372036854775807/\uP N (Q (bytes [60]++a++bytes [62])))
 (Br (n==11) (((0:Int)<=(0:Int)/\0<(I:Int)/\0<r1.length)/\0<r1.length/\∃ a,List.getD r1 0 default=D.t a/\(1+a.size:Nat) <=
 9223372036854775807/\uP N (Q (bytes [126]++a))) (Br (n==12) (((0:Int)<=(0:Int)/\0<(I:Int)/\0<r1.length)/\0<r1.length/\∃ a,
 List.getD r1 0 default=D.t a/\(5+a.size:Nat)<=9223372036854775807/\(ByteArray.size (bytes [40,114,117,110,32]++a)+1:Nat) <=
 9223372036854775807/\uP N (Q (bytes [40,114,117,110,32]++a++bytes [41]))) (((0:Int)<=(0:Int)/\0<(I:Int)/\0<r1.length)/\0<r1.length
 /\ ∃ a,List.getD r1 0 default=D.t a/\(6+a.size:Nat)<=9223372036854775807/\(ByteArray.size (bytes [40,108,105,102,116,32]++a)+1 :
 Nat)<=9223372036854775807/\uP N (Q (bytes [40,108,105,102,116,32]++a++bytes [41])))))))))))))))):xc Q N0 I c3 a8 Y c8 n9 O J r1 U N:=
  hE rK h
end Go.Proofs.YtlaniepnglheoaaGreatDoor
set_option maxRecDepth 100000
namespace Go.Proofs.YtlaniepnglheoaaGreatDoor
open Go Go.Proofs Go.Proofs.Tryz
def Er:Hint:=⟨[hc 3 [0,1,5,6] [(5,5,0)]],[],[]⟩
def IS:Hint:=⟨[],[],[(7,[en 0,en 1,en 2,en 3,en 7,en 8,en 9,en 10,ec 4 [14],en 5,en 6,ec 11 [21],en 12,en 13,en 14]),(8,hs 8 [ec 4 [28]])]⟩
def IT:Hint:=⟨[],[],[(5,[en 0,en 1,en 2,en 3,en 4,en 5,en 9,en 10,en 11,ec 6 [20],en 7,en 8,en 12,en 13,en 14]),(9,[en 0,en 1,en 2,en 3,en 4,eh 5,en 6,en 7,en 8]),(11,[en 0,en 1,en 2,en 3,en 4,en 5,en 6,en 7,en 8,en 9,en 13,en 14,en 18,en 19,en 20,ec 10 [56],en 11,en 12,ec 15 [61],en 16,en 17,en 21,en 22,en 23])]⟩
def A8:Hint:=⟨[hc 3 [1,3,4] [(3,9,0)]],[],[(5,hs 10 [ec 6 [18]]),(16,[en 0,en 1,en 2,en 3,en 4,en 5,en 6,en 7,en 8,en 9,en 10,en 11,en 12]),(21,hs 4 [ec 2 [77]])]⟩
def CS:Hint:=⟨[],[],[(1,hs 3 [ec 1 [3]]),(3,hs 3 [ec 1 [6]])]⟩
def Et:Hint:=⟨[],[],[(1,hs 3 [ec 1 [3]]),(3,hs 3 [ec 1 [6]])]⟩
def A0:Hint:=⟨[hc 9 [0,6,7,8,9]],[],[]⟩
def IR:Hint:=⟨[],[],[(1,[en 0,en 1,en 2,en 3,en 4,en 5,en 6,en 7,en 8,en 9,en 10,en 11,en 12,en 13,en 14,en 15,en 16,en 17,en 18,en 19,en 20,en 21,en 22,en 23,en 24,en 25,en 26,en 27,en 28,en 29,en 30,en 31,en 32,en 33,en 34,en 35,en 36,en 37,en 38])]⟩
def A4:Hint:=⟨[hc 2 [0,3]],[],[(2,[en 0,en 1,en 2,en 3,en 4,en 5,en 6,en 7,en 8,en 9,en 10,en 11,en 12,en 13,en 14,en 15,en 16,en 17,en 18,en 19,en 20,en 21,en 22,en 23,en 24,en 25,en 26,en 27,en 28,en 29,en 30,en 31,en 32,en 33,en 34,en 35,en 36,en 37,en 38,en 39,en 40,en 41,en 42,en 43,en 44,en 45,en 46,en 47,en 48,en 49,en 50,en 51,en 52,en 53,en 54,en 55,en 56,en 57]),(4,[en 0,en 1,en 2,en 3,en 4,en 5,en 6,en 7,en 8,en 9,en 10])]⟩
def sg:Hint:=⟨[hc 2 [0,2,3,5,8,9]],[],[(6,[en 0,en 1,en 2,en 3,eh 4,en 5,eh 6,en 7,eh 8])]⟩
def KJ:Hint:=⟨[],[],[(9,hs 5 [ec 3 [27]])]⟩
def IV:Hint:=⟨[],[],[(3,hs 5 [ec 3 [14]]),(4,[en 0,en 1,en 2,en 3,en 4,en 5,en 6,en 7,en 8,en 9,en 10,en 11,en 12,en 13,en 14,en 15,en 16,en 17,en 18,eh 19]),(5,[en 0,en 1,en 2,en 3,en 4,en 5,en 6,en 7,en 8,en 9,en 10,en 11,en 12,en 13,en 14,en 15,en 16,en 17,en 18,eh 19,en 20,en 21]),(9,[en 0,en 1,en 2,en 3,en 4,en 5,en 6,en 7,en 8,en 9,en 10,en 11,en 12,en 13,en 14,eh 15]),(11,hs 5 [ec 3 [87]])]⟩
def IU:Hint:=⟨[],[],[(7,hs 5 [ec 3 [21]]),(11,hs 5 [ec 3 [33]]),(15,hs 5 [ec 3 [46]]),(17,hs 5 [ec 3 [53]]),(19,hs 5 [ec 3 [60]]),(21,hs 5 [ec 3 [67]]),(22,hs 7 [ec 5 [73]])]⟩
def IW:Hint:=⟨[],[],[(1,[en 0,en 1,en 2,en 3,en 4,en 5,en 6,en 7,en 8,en 9,en 10,en 11,en 12,en 13,en 14,en 15,en 16,en 17,en 18,en 19,en 20,en 21,en 22,eh 23]),(16,[en 0,en 1,en 2,en 3,en 4,en 5,en 6,en 7,en 8,en 9,en 10,en 11,en 12,en 13,en 14,en 15,en 16,en 17,en 18,en 19,en 20,en 21,en 22])]⟩
def Dp:Hint:=⟨[],[],[(3,hs 19 [ec 15 [25]])]⟩
def wm (Q:QT [.str])(N0:Nat)(a0:Option Addr)(e0:List D)(c0:Nat)(I:ByteArray)(J c5:Nat)(O:Int)(r0:List D)(U:Nat)(N:Nat):Prop:=AT prog 162 [.str] Q N0 .ord (zF prog 162 3) ⟨.sv a0 0 e0 c0::.str I::an 3 (.sb 0 0 0 J c5::.int .i64 O::an 20 []),[.arr 5 0 r0 U],N,none⟩
def wv (Q:QT [.str])(N0:Nat)(I c3:Nat)(n4:Int)(J:D)(r1:List D)(O:Nat)(N:Nat):Prop:=AT prog 52 [.str] Q N0 .ord (zF prog 52 3) ⟨an 1 (.pb 0 0 0 0::an 1 (.sb 1 0 0 I c3::.int .i64 n4::an 75 [])),[.vd J 9,.arr 9 0 r1 O],N,none⟩
def yd (Q:QT [.int .i64,.bool])(N0:Nat)(I:ByteArray)(b6:Bool)(J:ByteArray)(O U:Int)(N:Nat):Prop:=AT prog 205 [.int .i64,.bool] Q N0 .ord (zF prog 205 9) ⟨.str I::an 5 (.bool b6::.str J::.int .i64 O::.int .i64 U::an 53 []),[],N,none⟩
def ye (E:Env)(Q:QT [.str,.str,.i,.bool])(N0:Nat)(U:Int)(I:ByteArray)(J:Int)(O:Bool)(N:Nat):Prop:=AT prog 84 [.str,.str,.i,.bool] Q N0 (.io E [.var [.str b0,.int .i64 0,.bool false]]) (zF prog 84 2) ⟨.pb 0 0 0 0::an 2 (.int .i64 U::an 80 []),[.var [.str I,.int .i64 J,.bool O]],N,some (we E 0 [.var [.str b0,.int .i64 0,.bool false]],[])⟩
def qB (E:Env)(Q:QT [.ag 9,.str,.i,.bool])(N0:Nat)(n2 n3 n9:Int)(I:ByteArray)(J:Int)(O:Bool)(y1:D)(U:Int)(Y aa:ByteArray)(ab ac:Int)(ae:Option Addr)(ah:List D)(ai:Nat)(aj:Int)(ak:Option Addr)(al:List D)(ao:Nat)(aq:Option Addr)(au:List D)(aw:Nat)(N:Nat):Prop:=AT prog 145 [.ag 9,.str,.i,.bool] Q N0 (.io E [.var [.str b0,.int .i64 0,.bool false]]) (zF prog 145 2) ⟨.pb 0 0 0 0::an 1 (.int .i64 n2::.int .i64 n3::an 1 (.pb 1 0 0 0::an 2 (.pb 2 0 0 0::.int .i64 n9::an 27 []))),[.var [.str I,.int .i64 J,.bool O],.vd y1 9,.var [.int .i64 U,.str Y,.str aa,.int .i64 ab,.int .i64 ac,.sv ae 2 ah ai,.int .i64 aj,.sv ak 2 al ao,.sv aq 9 au aw]],N,some (we E 0 [.var [.str b0,.int .i64 0,.bool false]],[])⟩
def zm (E:Env)(Q:QT [.ag 9,.str,.i,.bool])(N0:Nat)(n2 n3 n9:Int)(I:ByteArray)(J:Int)(O:Bool)(U Y aa ab ac ae ah ai:D)(aj ak:Nat)(al:Int)(ao aq:ByteArray)(au aw:Int)(ax:Option Addr)(ay:List D)(az:Nat)(a6:Int)(a7:Option Addr)(a8:List D)(ba:Nat)(bb:Option Addr)(bc:List D)(bd:Nat)(r3:List D)(q3:Nat)(N:Nat):Prop:=AT prog 145 [.ag 9,.str,.i,.bool] Q N0 (.io E [.var [.str b0,.int .i64 0,.bool false]]) (zF prog 145 2) ⟨.pb 0 0 0 0::an 1 (.int .i64 n2::.int .i64 n3::an 1 (.pb 1 0 0 0::an 2 (.pb 2 0 0 0::.int .i64 n9::an 27 []))),[.var [.str I,.int .i64 J,.bool O],.var [.dc U,.dc Y,.dc aa,.dc ab,.dc ac,.dc ae,.dc ah,.dc ai,.sb 3 9 0 aj ak],.var [.int .i64 al,.str ao,.str aq,.int .i64 au,.int .i64 aw,.sv ax 2 ay az,.int .i64 a6,.sv a7 2 a8 ba,.sv bb 9 bc bd],.arr 35 9 r3 q3],N,some (we E 0 [.var [.str b0,.int .i64 0,.bool false]],[])⟩
theorem Mu (N:Nat) (a0:Option Addr) (e0:List D) (c0:Nat) (I:ByteArray) (Q:QT [.str]) (h :
Bel N (D.sl a0 0 e0 c0)->wm Q N a0 e0 c0 I 0 0 0 [] 0 N):ACalls prog 162 [.str] [PV.sv a0 0 e0 c0,PV.str I] N Q:=
 eE Er h
theorem uY (N:Nat) (I:D) (Q:QT [.str]) (h :
Bel N I->∃ n:Int,(I.cell 0)=D.j n/\Br (n==1) (uP N (Q (bytes [73]))) (Br (n==2) (uP N (Q (bytes [66]))) (Br (n==3) (∃ a b,∃ c:Nat,
 (I.cell 1)=D.sl a 2 b c/\((0:Int)<=(0:Int)/\0<(b.length:Int))/\∃ a c,∃ d:Nat,(I.cell 1)=D.sl a 2 c d/\((0:Int)<=(1 :
 Int)/\1<(c.length:Int))/\kS 50 [.dg 2 (List.getD b 0 default)] N (λs a=>(1+s.size:Nat)<=9223372036854775807/\(ByteArray.size (bytes [40]
 ++ s)+1:Nat)<=9223372036854775807/\kS 50 [.dg 2 (List.getD c 1 default)] a (λa b=>(ByteArray.size (bytes [40]++s++bytes [62])+a.size :
 Nat)<=9223372036854775807/\(ByteArray.size (bytes [40]++s++bytes [62]++a)+1:Nat)<=9223372036854775807/\uP b (Q (bytes [40]++s++bytes [62]
 ++ a++bytes [41]))))) (∃ a b,∃ c:Nat,(I.cell 1)=D.sl a 2 b c/\((0:Int)<=(0:Int)/\0<(b.length:Int))/\kS 50 [.dg 2
 (List.getD b 0 default)] N (λa b=>(1+a.size:Nat)<=9223372036854775807/\(ByteArray.size (bytes [60]++a)+1:Nat)<=9223372036854775807 /\
 uP b (Q (bytes [60]++a++bytes [62]))))))):ACalls prog 50 [.str] [PV.dg 2 I] N Q:=
  eE IS h
theorem J0 (N:Nat) (I:D) (a1:Option Addr) (e1:List D) (c1:Nat) (Q:QT [.str]) (h :
Bel N I->Bel N (D.sl a1 0 e1 c1)->∃ n:Int,(I.cell 0)=D.j n/\Br (n==5) (kS 162 [.sv a1 0 e1 c1,.str (bytes [32])] N (λs a=>(4+s.size :
 Nat)<=9223372036854775807/\(ByteArray.size (bytes [40,105,102,32]++s)+1:Nat)<=9223372036854775807/\uP a (Q (bytes [40,105,102,32]++s++bytes
 [41])))) (Br (n==6) (∃ a,(I.cell 1)=D.t a/\(2+a.size:Nat)<=9223372036854775807/\(ByteArray.size (bytes [40,92]++a)+1:Nat) <=
 9223372036854775807/\((0:Int)<=(0:Int)/\0<(e1.length:Int))/\∃ b,List.getD e1 0 default=D.t b/\kS 50 [.dg 2 (D.sub I 4 2)] N (λc d=>
 (ByteArray.size (bytes [40,92]++a++bytes [58])+c.size:Nat)<=9223372036854775807/\(ByteArray.size (bytes [40,92]++a++bytes [58]++c)+1
 : Nat)<=9223372036854775807/\(ByteArray.size (bytes [40,92]++a++bytes [58]++c++bytes [46])+b.size:Nat)<=9223372036854775807 /\
 (ByteArray.size (bytes [40,92]++a++bytes [58]++c++bytes [46]++b)+1:Nat)<=9223372036854775807/\uP d (Q (bytes [40,92]++a++bytes
 [58]++c++bytes [46]++b++bytes [41])))) (Br (n==7) (kS 162 [.sv a1 0 e1 c1,.str (bytes [32])] N (λa b=>(1+a.size:Nat) <=
 9223372036854775807/\(ByteArray.size (bytes [40]++a)+1:Nat)<=9223372036854775807/\uP b (Q (bytes [40]++a++bytes [41])))) (Br (n==8) (∃ a,
 (I.cell 1)=D.t a/\(5+a.size:Nat)<=9223372036854775807/\(ByteArray.size (bytes [40,108,101,116,32]++a)+1:Nat)<=9223372036854775807 /\
 kS 162 [.sv a1 0 e1 c1,.str (bytes [32])] N (λb c=>(ByteArray.size (bytes [40,108,101,116,32]++a++bytes [61])+b.size:Nat) <=
 9223372036854775807/\(ByteArray.size (bytes [40,108,101,116,32]++a++bytes [61]++b)+1:Nat)<=9223372036854775807/\uP c (Q (bytes [40,108,
 101,116,32]++a++bytes [61]++b++bytes [41])))) (Br (n==9) (∃ a,(I.cell 1)=D.t a/\(5+a.size:Nat)<=9223372036854775807 /\
 (ByteArray.size (bytes [40,114,101,99,32]++a)+1:Nat)<=9223372036854775807/\∃ b,(I.cell 2)=D.t b/\(ByteArray.size (bytes [40,114,101,
 99,32]++a++bytes [32])+b.size:Nat)<=9223372036854775807/\(ByteArray.size (bytes [40,114,101,99,32]++a++bytes [32]++b)+1:Nat) <=
 9223372036854775807/\((0:Int)<=(0:Int)/\0<(e1.length:Int))/\∃ c,List.getD e1 0 default=D.t c/\kS 50 [.dg 2 (D.sub I 4 2)] N (λd e
 => (ByteArray.size (bytes [40,114,101,99,32]++a++bytes [32]++b++bytes [58])+d.size:Nat)<=9223372036854775807/\(ByteArray.size (bytes
 [40,114,101,99,32]++a++bytes [32]++b++bytes [58]++d)+1:Nat)<=9223372036854775807/\kS 50 [.dg 2 (D.sub I 6 2)] e (λe f=>
 (ByteArray.size (bytes [40,114,101,99,32]++a++bytes [32]++b++bytes [58]++d++bytes [62])+e.size:Nat)<=9223372036854775807 /\
 (ByteArray.size (bytes [40,114,101,99,32]++a++bytes [32]++b++bytes [58]++d++bytes [62]++e)+1:Nat)<=9223372036854775807 /\
 (ByteArray.size (bytes [40,114,101,99,32]++a++bytes [32]++b++bytes [58]++d++bytes [62]++e++bytes [46])+c.size:Nat) <=
 9223372036854775807/\(ByteArray.size (bytes [40,114,101,99,32]++a++bytes [32]++b++bytes [58]++d++bytes [62]++e++bytes [46] ++
 c)+1:Nat)<=9223372036854775807/\uP f (Q (bytes [40,114,101,99,32]++a++bytes [32]++b++bytes [58]++d++bytes [62]++e++bytes
 [46]++c++bytes [41]))))) (Br (n==12) (((0:Int)<=(0:Int)/\0<(e1.length:Int))/\∃ a,List.getD e1 0 default=D.t a/\(5+a.size :
 Nat)<=9223372036854775807/\(ByteArray.size (bytes [40,114,117,110,32]++a)+1:Nat)<=9223372036854775807/\uP N (Q (bytes [40,114,117,110,32]
 ++ a++bytes [41]))) (((0:Int)<=(0:Int)/\0<(e1.length:Int))/\∃ a,List.getD e1 0 default=D.t a/\(6+a.size:Nat) <=
 9223372036854775807/\(ByteArray.size (bytes [40,108,105,102,116,32]++a)+1:Nat)<=9223372036854775807/\uP N (Q (bytes [40,108,105,102,116,
 32]++a++bytes [41]))))))))):ACalls prog 102 [.str] [PV.dg 9 I,PV.sv a1 0 e1 c1] N Q:=
  eE IT h
theorem J1 (N:Nat) (I:D) (Q:QT [.str]) (h :
Bel N I->wv Q N 0 0 0 I [] 0 N):ACalls prog 52 [.str] [PV.dg 9 I] N Q:=
 eE A8 h
theorem DL (N:Nat) (I:D) (Q:QT [.str]) (h :
Bel N I->kB 40 [.dg 9 I] N (λb a=>Br (!b) (uP a (Q b0)) (kS 52 [.dg 9 I] a (λs a=>uP a (Q s))))):ACalls prog 34 [.str] [PV.dg 9 I] N Q:=
 eE CS h
theorem GS (N:Nat) (I:D) (Q:QT [.str]) (h :
Bel N I->kB 51 [.dg 9 I] N (λb a=>Br (!b) (uP a (Q b0)) (kS 52 [.dg 9 I] a (λs a=>uP a (Q s))))):ACalls prog 21 [.str] [PV.dg 9 I] N Q:=
 eE Et h
theorem Jr (N:Nat) (I:ByteArray) (n1:Int) (Q:QT [.int .i64,.bool]) (h :
Br (decide ((I.size:Int)>0)) (((0:Int)<=(0:Int)/\0<(I.size:Int))/\Br ((UInt8.toNat (Array.getD (ByteArray.data I) 0 (OfNat.ofNat 0)) :
 Int)==45) (((0:Int)<=(1:Int)/\1<=(I.size:Int)/\(I.size:Int)<=(I.size:Int))/\Br (decide ((ByteArray.size (ByteArray.extract I 1 ((I.size :
 Int)).toNat):Int)<1)) (uP N (Q 0 false)) (Br (decide ((ByteArray.size (ByteArray.extract I 1 ((I.size:Int)).toNat):Int)>n1)) (uP N (Q 0 false))
 (yd Q N I ((UInt8.toNat (Array.getD (ByteArray.data I) 0 (OfNat.ofNat 0)):Int)==45) (ByteArray.extract I 1 ((I.size:Int)).toNat) 0 0 N)))
 (Br (decide ((I.size:Int)<1)) (uP N (Q 0 false)) (Br (decide ((I.size:Int)>n1)) (uP N (Q 0 false)) (yd Q N I ((UInt8.toNat (Array.getD
 (ByteArray.data I) 0 (OfNat.ofNat 0)):Int)==45) I 0 0 N)))) (Br (decide ((I.size:Int)<1)) (uP N (Q 0 false)) (Br (decide ((I.size:Int)>n1)) (uP
 N (Q 0 false)) (yd Q N I false I 0 0 N)))):ACalls prog 205 [.int .i64,.bool] [PV.str I,PV.int .i64 n1] N Q:=
  eE A0 h
theorem CG (N:Nat) (I:ByteArray) (Q:QT [.int .i64,.bool]) (h :
kIB 205 [.str I,.j 6] N (λn b a=>Br (!b) (uP a (Q 0 false)) (Br (decide (n<0)) (uP a (Q 0 false)) (uP a (Q n true))))):ACalls prog 148 [.int .i64,.bool] [PV.str I] N Q:=
 eE H0 h
theorem EL (N:Nat) (I:ByteArray) (Q:QT [.ag 9,.bool]) (h :
rA 9 38 [.j 1] I 0 false N (λx _ n b a=>Br b (∀ b,a<=b->Q (D.ag [D.j 0,D.t b0,D.t b0,D.j 0,D.j 0,D.sl none 2 [] 0,D.j 0,D.sl none 2 []
 0,D.sl none 9 [] 0]) false b) (Br (bne n (I.size:Int)) (∀ b,a<=b->Q (D.ag [D.j 0,D.t b0,D.t b0,D.j 0,D.j 0,D.sl none 2 [] 0,D.j 0,D.sl none 2
 [] 0,D.sl none 9 [] 0]) false b) (kS 34 [.dg 9 x] a (λa b=>Br (!(ByteArray.toList a==ByteArray.toList I)) (∀ a,b<=a->Q (D.ag [D.j 0,D.t
 b0,D.t b0,D.j 0,D.j 0,D.sl none 2 [] 0,D.j 0,D.sl none 2 [] 0,D.sl none 9 [] 0]) false a) (uP b (Q x true))))))):ACalls prog 13 [.ag 9,.bool] [PV.str I] N Q:=
  eE Dp h
theorem Bc {Q:QT [.str]} {N0:Nat} {a0:Option Addr} {e0:List D} {c0:Nat} {J:ByteArray} {O c5:Nat} {I:Int} {r0:List D} {U:Nat} {N:Nat} (h :
Br (decide (I<(e0.length:Int))) (Br (decide (I>0)) ((O=r0.length/\c5=U)/\zB r0 (xC J) 1/\∀(c:Nat),(0<=I/\I<(e0.length
 : Int))/\∃ s,List.getD e0 I.toNat default=D.t s/\((r0++xC J).length=(r0++xC J).length/\c=c)/\zB (r0++xC J) (xC s) 1 /\
 ∀(a:Nat),wm Q N0 a0 e0 c0 J (r0++xC J++xC s).length a (IntKind.i64.wrap (I+1)) (r0++xC J++xC s) a N) ((0<=I
 /\ I<(e0.length:Int))/\∃ a,List.getD e0 I.toNat default=D.t a/\(O=r0.length/\c5=U)/\zB r0 (xC a) 1/\∀(b:Nat),
 wm Q N0 a0 e0 c0 J (r0++xC a).length b (IntKind.i64.wrap (I+1)) (r0++xC a) b N)) (O<=r0.length/\∃ a:List Int,List.take
 O r0=List.map (λn=>D.lit (.int IntKind.u8 n)) a/\uP N (Q (yS a)))):wm Q N0 a0 e0 c0 J O c5 I r0 U N:=
  hE Er h
theorem qg {Q:QT [.str]} {N0:Nat} {J c3:Nat} {n4:Int} {I:D} {r1:List D} {O:Nat} {N:Nat} (h :
∃ a b,∃ c:Nat,(I.cell 8)=D.sl a 9 b c/\Br (decide (n4<(b.length:Int))) (∃ a b,∃ c:Nat,(I.cell 8)=D.sl a 9 b c/\(0<=n4
 /\ n4<(b.length:Int))/\kS 52 [.dg 9 (List.getD b n4.toNat default)] N (λs a=>(J=r1.length/\c3=O)/\zB r1 [D.t s] 16/\∀(b:Nat),
 wv Q N0 (r1++[D.t s]).length b (IntKind.i64.wrap (n4+1)) I (r1++[D.t s]) b a)) (∃ n:Int,(I.cell 0)=D.j n/\Br (n==1) (∃ a,
 (I.cell 1)=D.t a/\uP N (Q a)) (Br (n==2) (∃ a:Int,(I.cell 3)=D.j a/\kS 22 [.j a] N (λa b=>uP b (Q a))) (Br (n==3) (∃ a :
 Int,(I.cell 3)=D.j a/\∃ b:Int,(I.cell 3)=D.j b/\(0<=a/\a<=IntKind.i64.wrap (b+1)/\IntKind.i64.wrap (b+1)<=2)/\(1 +
 ByteArray.size (ByteArray.extract (bytes [102,116]) a.toNat (IntKind.i64.wrap (b+1)).toNat):Nat)<=9223372036854775807/\∀ c,N<=c->Q (bytes [35]
 ++ ByteArray.extract (bytes [102,116]) a.toNat (IntKind.i64.wrap (b+1)).toNat) c) (Br (n==4) (Br ((J:Int)==1) (((0:Int)<=(0:Int)/\0<(J :
 Int)/\0<r1.length)/\0<r1.length/\∃ a,List.getD r1 0 default=D.t a/\(2+a.size:Nat)<=9223372036854775807/\(ByteArray.size (bytes [40,33]
 ++ a)+1:Nat)<=9223372036854775807/\uP N (Q (bytes [40,33]++a++bytes [41]))) (((0:Int)<=(0:Int)/\0<(J:Int)/\0<r1.length)/\0 <
 r1.length/\∃ a,List.getD r1 0 default=D.t a/\(1+a.size:Nat)<=9223372036854775807/\∃ b,(I.cell 1)=D.t b/\(ByteArray.size (bytes [40] ++
 a)+b.size:Nat)<=9223372036854775807/\((0:Int)<=(1:Int)/\1<(J:Int)/\1<r1.length)/\1<r1.length/\∃ c,List.getD r1 1 default=D.t
 c/\(ByteArray.size (bytes [40]++a++b)+c.size:Nat)<=9223372036854775807/\(ByteArray.size (bytes [40]++a++b++c)+1:Nat) <=
 9223372036854775807/\uP N (Q (bytes [40]++a++b++c++bytes [41])))) (Br (n==10) (((0:Int)<=(0:Int)/\0<(J:Int)/\0<r1.length)/\0 <
 r1.length/\∃ a,List.getD r1 0 default=D.t a/\(1+a.size:Nat)<=9223372036854775807/\(ByteArray.size (bytes [60]++a)+1:Nat) <=
 9223372036854775807/\uP N (Q (bytes [60]++a++bytes [62]))) (Br (n==11) (((0:Int)<=(0:Int)/\0<(J:Int)/\0<r1.length)/\0<r1.length/\∃
 a,List.getD r1 0 default=D.t a/\(1+a.size:Nat)<=9223372036854775807/\uP N (Q (bytes [126]++a))) ((J=r1.length/\c3=O)/\∀ a,ApA a
 r1->Off [a] I->∀ b,N<=b->vN b [a]->ACalls prog 102 [.str] [.dg 9 I,.sv a 0 r1 c3] b (λa c=>b<=c->uP c (Q a)))))))))):wv Q N0 J c3 n4 I r1 O N:=
  hE A8 h
theorem qY {Q:QT [.int .i64,.bool]} {N0:Nat} {s0:ByteArray} {b6:Bool} {s7:ByteArray} {n8 n9:Int} {N:Nat} (h :
Br (decide (n9<(s7.size:Int))) ((0<=n9/\n9<(s7.size:Int))/\Br (decide ((UInt8.toNat (Array.getD (ByteArray.data s7) n9.toNat (OfNat.ofNat 0)) :
 Int)<48)) (uP N (Q 0 false)) ((0<=n9/\n9<(s7.size:Int))/\Br (decide ((UInt8.toNat (Array.getD (ByteArray.data s7) n9.toNat (OfNat.ofNat 0)):Int) >
 57)) (uP N (Q 0 false)) ((0<=n9/\n9<(s7.size:Int))/\yd Q N0 s0 b6 s7 (IntKind.i64.wrap (IntKind.i64.wrap (10*n8)+IntKind.i64.wrap
 (IntKind.u8.wrap ((UInt8.toNat (Array.getD (ByteArray.data s7) n9.toNat (OfNat.ofNat 0)):Int) - 48)))) (IntKind.i64.wrap (n9+1)) N))) (Br b6 (kS 22 [.j
 (IntKind.i64.wrap (0 - n8))] N (fun s a=>Br (!(ByteArray.toList s==ByteArray.toList s0)) (uP a (Q 0 false)) (uP a (Q (IntKind.i64.wrap (0 - n8)) true))))
 (kS 22 [.j n8] N (fun a b=>Br (!(ByteArray.toList a==ByteArray.toList s0)) (uP b (Q 0 false)) (uP b (Q n8 true)))))):yd Q N0 s0 b6 s7 n8 n9 N:=
  hE A0 h
theorem rn (N:Nat) (n1:Int) (I:ByteArray) (J:Int) (O:Bool) (Q:QT [(Sh.ag 9),Sh.str,(Sh.int IntKind.i64),Sh.bool]) (h:∀ E:Env,
Br O (zZ E [.var [.str b0,.j 0,.bool false]]/\∀ a,N<=a->Q (D.ag [D.j 0,D.t b0,D.t b0,D.j 0,D.j 0,D.sl none 2 [] 0,D.j 0,
 D.sl none 2 [] 0,D.sl none 9 [] 0]) I J true a) (Br (decide (n1>20)) (zZ E [.var [.str b0,.j 0,.bool false]]/\∀ a,N<=a->Q (D.ag [D.j 0,
 D.t b0,D.t b0,D.j 0,D.j 0,D.sl none 2 [] 0,D.j 0,D.sl none 2 [] 0,D.sl none 9 [] 0]) I J true a) (Br (decide (J≥(I.size:Int))) (zZ
 E [.var [.str b0,.j 0,.bool false]]/\∀ a,N<=a->Q (D.ag [D.j 0,D.t b0,D.t b0,D.j 0,D.j 0,D.sl none 2 [] 0,D.j 0,D.sl none 2 [] 0,D.sl none 9 []
 0]) I J (decide (J≥(I.size:Int))) a) (rB 79 [.str (bytes [35,116])] I J (decide (J≥(I.size:Int))) N (λb s n c d
 => Br b (kA 9 80 [.j 1] d (λx a=>zZ E [.var [.str b0,.j 0,.bool false]]/\uP a (Q x s n c))) (rB 79 [.str (bytes [35,102])] s n c d (λb
 c d e f=>Br b (kA 9 80 [.j 0] f (λa b=>zZ E [.var [.str b0,.j 0,.bool false]]/\uP b (Q a c d e))) (rB 79 [.str (bytes
 [126])] c d e f (λb c d e f=>Br b (rA 9 38 [.j (IntKind.i64.wrap (n1+1))] c d e f (λb c d e f=>w3 (1 =
 ([b]).length/\1=1) (∀ a g,f<=g->Fresh N g a [D.ag [b],D.sl none 2 [] 0,D.sl none 2 [] 0]->zZ E [.var [.str b0,.j 0,.bool false]]/\∀
 f,g<=f->Q (D.ag [D.j 11,D.t b0,D.t b0,D.j 0,D.j 0,D.sl none 2 [] 0,D.j 0,D.sl none 2 [] 0,D.sl a 9 [b] 1]) c d e f))) (rB 79 [.str
 (bytes [60])] c d e f (λa b c d e=>Br a (rA 9 38 [.j (IntKind.i64.wrap (n1+1))] b c d e (λa b c d e=>rU 81
 [.str (bytes [62])] b c d e (λb c d e=>w5 (1=([a]).length/\1=1) (∀ f g,e<=g->Fresh N g f [D.ag [a],D.sl none 2 []
 0,D.sl none 2 [] 0]->zZ E [.var [.str b0,.j 0,.bool false]]/\∀ e,g<=e->Q (D.ag [D.j 10,D.t b0,D.t b0,D.j 0,D.j 0,D.sl none 2 [] 0,D.j 0,
 D.sl none 2 [] 0,D.sl f 9 [a] 1]) b c d e)))) (rB 79 [.str (bytes [40])] b c d e (λa b c d e=>Br a (rA 9 82 [.j
 (IntKind.i64.wrap (n1+1))] b c d e (λa b c d e=>zZ E [.var [.str b0,.j 0,.bool false]]/\uP e (Q a b c d))) ((0<=c
 /\ c<(b.size:Int))/\Br (decide ((UInt8.toNat (Array.getD (ByteArray.data b) c.toNat (OfNat.ofNat 0)):Int)≥48)) ((0<=c/\c<(b.size :
 Int))/\Br (decide ((UInt8.toNat (Array.getD (ByteArray.data b) c.toNat (OfNat.ofNat 0)):Int)<=57)) (rA 9 83 [] b c d e (λa b c d
 e=>zZ E [.var [.str b0,.j 0,.bool false]]/\uP e (Q a b c d))) (rS 84 [] b c d e (λa b c d e=>kA 9 77 [.str a]
 e (λa e=>zZ E [.var [.str b0,.j 0,.bool false]]/\uP e (Q a b c d))))) (rS 84 [] b c d e (λa b c d e=>kA
 9 77 [.str a] e (λa e=>zZ E [.var [.str b0,.j 0,.bool false]]/\uP e (Q a b c d)))))))))))))))))):BCalls prog 38 [(Sh.ag 9),Sh.str,(Sh.int IntKind.i64),Sh.bool] [.pb 0 0 0 0,.int .i64 n1] [.var [.str I,.int .i64 J,.bool O]] N Q:=
  bE IW h
theorem EP (N:Nat) (U J:ByteArray) (I:Int) (O:Bool) (Q:QT [Sh.bool,Sh.str,(Sh.int IntKind.i64),Sh.bool]) (h:∀ E:Env,
Br O (zZ E [.var [.str b0,.j 0,.bool false]]/\uP N (Q false J I O)) (Br (decide (IntKind.i64.wrap (I+(U.size:Int))
 > (J.size:Int))) (zZ E [.var [.str b0,.j 0,.bool false]]/\uP N (Q false J I O)) ((0<=I/\I<=IntKind.i64.wrap (I+(U.size
 : Int))/\IntKind.i64.wrap (I+(U.size:Int))<=(J.size:Int))/\Br (!(ByteArray.toList (ByteArray.extract J I.toNat (IntKind.i64.wrap
 (I+(U.size:Int))).toNat)==ByteArray.toList U)) (zZ E [.var [.str b0,.j 0,.bool false]]/\uP N (Q false J I O)) (zZ E [.var [.str
 b0,.j 0,.bool false]]/\∀ a,N<=a->Q true J (IntKind.i64.wrap (I+(U.size:Int))) O a)))):BCalls prog 79 [Sh.bool,Sh.str,(Sh.int IntKind.i64),Sh.bool] [.pb 0 0 0 0,.str U] [.var [.str J,.int .i64 I,.bool O]] N Q:=
  bE IR h
theorem EO (N:Nat) (U I:ByteArray) (J:Int) (O:Bool) (Q:QT [Sh.str,(Sh.int IntKind.i64),Sh.bool]) (h:∀ E:Env,
Br O (zZ E [.var [.str b0,.j 0,.bool false]]/\uP N (Q I J true)) (rB 79 [.str U] I J O N (λb s n _ a=>zZ
 E [.var [.str b0,.j 0,.bool false]]/\uP a (Q s n (!b))))):BCalls prog 81 [Sh.str,(Sh.int IntKind.i64),Sh.bool] [.pb 0 0 0 0,.str U] [.var [.str I,.int .i64 J,.bool O]] N Q:=
  bE H0 h
theorem ER (N:Nat) (n1:Int) (I:ByteArray) (J:Int) (O:Bool) (Q:QT [(Sh.ag 9),Sh.str,(Sh.int IntKind.i64),Sh.bool]) (h:∀ E:Env,
rB 79 [.str (bytes [92])] I J O N (λb s n a c=>Br b (rS 84 [] s n a c (λa b c d e=>rU 81 [.str (bytes
 [58])] b c d e (λb c d e=>rA 2 144 [.j 1] b c d e (λx b c d e=>rU 81 [.str (bytes [46])] b c d e (λb c d
 e=>rA 9 145 [.dg 9 (D.ag [D.j 6,D.t a,D.t b0,D.j 0,(x.cell 0),(x.cell 1),D.j 0,D.sl none 2 [] 0,D.sl none 9 [] 0]),.j 1,.j n1] b c d e
 (λa b c d e=>zZ E [.var [.str b0,.j 0,.bool false]]/\uP e (Q a b c d))))))) (rB 79 [.str (bytes [108,101,116,32])] s n a c
 (λa b c d e=>Br a (rS 84 [] b c d e (λa b c d e=>rU 81 [.str (bytes [61])] b c d e (λb c d e=>rA
 9 145 [.dg 9 (D.ag [D.j 8,D.t a,D.t b0,D.j 0,D.j 0,D.sl none 2 [] 0,D.j 0,D.sl none 2 [] 0,D.sl none 9 [] 0]),.j 2,.j n1] b c d e (λa
 b c d e=>zZ E [.var [.str b0,.j 0,.bool false]]/\uP e (Q a b c d))))) (rB 79 [.str (bytes [114,101,99,32])] b c d e (fun
 a b c d e=>Br a (rA 9 146 [.j n1] b c d e (λa b c d e=>zZ E [.var [.str b0,.j 0,.bool false]]/\uP e (Q
 a b c d))) (rB 79 [.str (bytes [105,102,32])] b c d e (λa b c d e=>Br a (rA 9 145 [.dg 9 (D.ag [D.j 5,D.t b0,D.t
 b0,D.j 0,D.j 0,D.sl none 2 [] 0,D.j 0,D.sl none 2 [] 0,D.sl none 9 [] 0]),.j 3,.j n1] b c d e (λa b c d e=>zZ E [.var
 [.str b0,.j 0,.bool false]]/\uP e (Q a b c d))) (rB 79 [.str (bytes [114,117,110,32])] b c d e (λa b c d e=>Br
 a (rA 9 145 [.dg 9 (D.ag [D.j 12,D.t b0,D.t b0,D.j 0,D.j 0,D.sl none 2 [] 0,D.j 0,D.sl none 2 [] 0,D.sl none 9 [] 0]),.j 1,.j n1] b c d
 e (λa b c d e=>zZ E [.var [.str b0,.j 0,.bool false]]/\uP e (Q a b c d))) (rB 79 [.str (bytes [108,105,102,116,32])]
 b c d e (λa b c d e=>Br a (rA 9 145 [.dg 9 (D.ag [D.j 13,D.t b0,D.t b0,D.j 0,D.j 0,D.sl none 2 [] 0,D.j 0,D.sl none 2 []
 0,D.sl none 9 [] 0]),.j 1,.j n1] b c d e (λa b c d e=>zZ E [.var [.str b0,.j 0,.bool false]]/\uP e (Q a b c
 d))) (rB 79 [.str (bytes [33])] b c d e (λa b c d e=>Br a (rA 9 145 [.dg 9 (D.ag [D.j 4,D.t (bytes [33]),D.t b0,D.j 0,
 D.j 0,D.sl none 2 [] 0,D.j 0,D.sl none 2 [] 0,D.sl none 9 [] 0]),.j 1,.j n1] b c d e (λa b c d e=>zZ E [.var [.str b0,.j
 0,.bool false]]/\uP e (Q a b c d))) (rA 9 38 [.j n1] b c d e (λa b c d e=>rA 9 147 [.dg 9 a,.j n1] b c d
 e (λa b c d e=>zZ E [.var [.str b0,.j 0,.bool false]]/\uP e (Q a b c d)))))))))))))))))):BCalls prog 82 [(Sh.ag 9),Sh.str,(Sh.int IntKind.i64),Sh.bool] [.pb 0 0 0 0,.int .i64 n1] [.var [.str I,.int .i64 J,.bool O]] N Q:=
  bE IU h
theorem CJ (N:Nat) (sB0_0:ByteArray) (nB0_1:Int) (bB0_2:Bool) (Q:QT [(Sh.ag 9),Sh.str,(Sh.int IntKind.i64),Sh.bool]) (h:∀ E:Env,
rS 84 [] sB0_0 nB0_1 bB0_2 N (fun s a n b c=>kIB 148 [.str s] c (fun c d e=>Br b (kA 9 149 [.j c] e (fun x b=>zZ E [.var
 [.str b0,.j 0,.bool false]]/\uP b (Q x a n true))) (kA 9 149 [.j c] e (fun b c=>zZ E [.var [.str b0,.j 0,.bool false]]/\uP c (Q b a n
 (!d))))))):BCalls prog 83 [(Sh.ag 9),Sh.str,(Sh.int IntKind.i64),Sh.bool] [.pb 0 0 0 0] [.var [.str sB0_0,.int .i64 nB0_1,.bool bB0_2]] N Q:=
  bE H0 h
theorem EQ (N:Nat) (J:ByteArray) (I:Int) (O:Bool) (Q:QT [Sh.str,Sh.str,(Sh.int IntKind.i64),Sh.bool]) (h:∀ E:Env,
ye E Q N I J I O N):BCalls prog 84 [Sh.str,Sh.str,(Sh.int IntKind.i64),Sh.bool] [.pb 0 0 0 0] [.var [.str J,.int .i64 I,.bool O]] N Q:=
 bE A4 h
theorem rl (N:Nat) (n1:Int) (I:ByteArray) (J:Int) (O:Bool) (Q:QT [(Sh.ag 2),Sh.str,(Sh.int IntKind.i64),Sh.bool]) (h:∀ E:Env,
Br O (zZ E [.var [.str b0,.j 0,.bool false]]/\uP N (Q (D.ag [D.j 0,D.sl none 2 [] 0]) I J true)) (Br (decide (n1>8)) (zZ E
 [.var [.str b0,.j 0,.bool false]]/\uP N (Q (D.ag [D.j 0,D.sl none 2 [] 0]) I J (decide (n1>8)))) (rB 79 [.str (bytes [73])] I J (decide
 (n1>8)) N (λb s n c d=>Br b (kA 2 69 [] d (λx a=>zZ E [.var [.str b0,.j 0,.bool false]]/\uP a (Q x s n c))) (rB 79 [.str (bytes [66])]
 s n c d (λb c d e f=>Br b (kA 2 70 [] f (λa b=>zZ E [.var [.str b0,.j 0,.bool false]]/\uP b (Q a c d e))) (rB 79
 [.str (bytes [60])] c d e f (λb c d e f=>Br b (rA 2 144 [.j (IntKind.i64.wrap (n1+1))] c d e f (λb c d e f=>rU
 81 [.str (bytes [62])] c d e f (λc d e f=>w5 (1=([b]).length/\1=1) (∀ a g,f<=g->Fresh N g a [D.ag [b]]->zZ E [.var
 [.str b0,.j 0,.bool false]]/\uP g (Q (D.ag [D.j 4,D.sl a 2 [b] 1]) c d e))))) (rU 81 [.str (bytes [40])] c d e f (λa b c d=>
 Br c (zZ E [.var [.str b0,.j 0,.bool false]]/\uP d (Q (D.ag [D.j 0,D.sl none 2 [] 0]) a b c)) (rA 2 144 [.j (IntKind.i64.wrap (n1+1))] a b
 c d (λa b c d e=>rU 81 [.str (bytes [62])] b c d e (λb c d e=>Br d (zZ E [.var [.str b0,.j 0,.bool false]]/\uP
 e (Q (D.ag [D.j 0,D.sl none 2 [] 0]) b c d)) (rA 2 144 [.j (IntKind.i64.wrap (n1+1))] b c d e (λb c d e f=>rU 81 [.str
 (bytes [41])] c d e f (λc d e f=>w3 (2=([a,b]).length/\2=2) (∀ g h,f<=h->Fresh N h g [D.ag [a,b]]->zZ E
 [.var [.str b0,.j 0,.bool false]]/\uP h (Q (D.ag [D.j 3,D.sl g 2 [a,b] 2]) c d e)))))))))))))))))):BCalls prog 144 [(Sh.ag 2),Sh.str,(Sh.int IntKind.i64),Sh.bool] [.pb 0 0 0 0,.int .i64 n1] [.var [.str I,.int .i64 J,.bool O]] N Q:=
  bE H0 h
theorem rm (N:Nat) (U:D) (n2 Y:Int) (I:ByteArray) (J:Int) (O:Bool) (Q:QT [(Sh.ag 9),Sh.str,(Sh.int IntKind.i64),Sh.bool]) (h:∀ E:Env,
Bel N U->qB E Q N n2 Y 0 I J O U 0 b0 b0 0 0 none [] 0 0 none [] 0 none [] 0 N):BCalls prog 145 [(Sh.ag 9),Sh.str,(Sh.int IntKind.i64),Sh.bool] [.pb 0 0 0 0,.dg 9 U,.int .i64 n2,.int .i64 Y] [.var [.str I,.int .i64 J,.bool O]] N Q:=
 bE sg h
theorem GU (N:Nat) (n1:Int) (I:ByteArray) (J:Int) (O:Bool) (Q:QT [(Sh.ag 9),Sh.str,(Sh.int IntKind.i64),Sh.bool]) (h:∀ E:Env,
rS 84 [] I J O N (λs a n b c=>rU 81 [.str (bytes [32])] a n b c (λa b c d=>rS 84 [] a b c d (λa
 b c d e=>rU 81 [.str (bytes [58])] b c d e (λb c d e=>rA 2 144 [.j 1] b c d e (λx b c d e=>rU 81 [.str (bytes
 [62])] b c d e (λb c d e=>rA 2 144 [.j 1] b c d e (λb c d e f=>rU 81 [.str (bytes [46])] c d e f (λc
 d e f=>rA 9 145 [.dg 9 (D.ag [D.j 9,D.t s,D.t a,D.j 0,(x.cell 0),(x.cell 1),(b.cell 0),(b.cell 1),D.sl none 9 [] 0]),.j 1,.j n1] c d
 e f (λa b c d e=>zZ E [.var [.str b0,.j 0,.bool false]]/\uP e (Q a b c d))))))))))):BCalls prog 146 [(Sh.ag 9),Sh.str,(Sh.int IntKind.i64),Sh.bool] [.pb 0 0 0 0,.int .i64 n1] [.var [.str I,.int .i64 J,.bool O]] N Q:=
  bE KJ h
theorem ES (N:Nat) (I:D) (n2:Int) (J:ByteArray) (O:Int) (U:Bool) (Q:QT [(Sh.ag 9),Sh.str,(Sh.int IntKind.i64),Sh.bool]) (h:∀ E:Env,
Bel N I->rB 79 [.str (bytes [32])] J O U N (λb s n c d=>Br b (w4 (1=([I]).length/\1=1) (∀ a b,d<=b->Fresh N b
 a [D.ag [I]]->rA 9 145 [.dg 9 (D.ag [D.j 7,D.t b0,D.t b0,D.j 0,D.j 0,D.sl none 2 [] 0,D.j 0,D.sl none 2 [] 0,D.sl a 9 [I] 1]),.j 1,.j n2] s n c
 b (λx a b c d=>zZ E [.var [.str b0,.j 0,.bool false]]/\uP d (Q x a b c)))) (Br c (w5 (1=([I]).length/\1=1) (∀ a b,d<=b ->
 Fresh N b a [D.ag [I],D.sl none 2 [] 0,D.sl none 2 [] 0]->zZ E [.var [.str b0,.j 0,.bool false]]/\∀ c,b<=c->Q (D.ag [D.j 7,D.t b0,D.t b0,
 D.j 0,D.j 0,D.sl none 2 [] 0,D.j 0,D.sl none 2 [] 0,D.sl a 9 [I] 1]) s n true c)) (Br (decide (n≥(s.size:Int))) (w5 (1=([I]).length/\1=1) (∀
 a b,d<=b->Fresh N b a [D.ag [I],D.sl none 2 [] 0,D.sl none 2 [] 0]->zZ E [.var [.str b0,.j 0,.bool false]]/\∀ c,b<=c->Q (D.ag [D.j
 7,D.t b0,D.t b0,D.j 0,D.j 0,D.sl none 2 [] 0,D.j 0,D.sl none 2 [] 0,D.sl a 9 [I] 1]) s n true c)) ((0<=n/\n<=IntKind.i64.wrap (n+1) /\
 IntKind.i64.wrap (n+1)<=(s.size:Int))/\kI 161 [.str (ByteArray.extract s n.toNat (IntKind.i64.wrap (n+1)).toNat)] d (λa b=>Br (bne a 2) (w5
 (1=([I]).length/\1=1) (∀ a c,b<=c->Fresh N c a [D.ag [I],D.sl none 2 [] 0,D.sl none 2 [] 0]->zZ E [.var [.str b0,.j 0,.bool false]]
 /\ ∀ b,c<=b->Q (D.ag [D.j 7,D.t b0,D.t b0,D.j 0,D.j 0,D.sl none 2 [] 0,D.j 0,D.sl none 2 [] 0,D.sl a 9 [I] 1]) s n true b)) ((0<=n/\n <=
 IntKind.i64.wrap (n+1)/\IntKind.i64.wrap (n+1)<=(s.size:Int))/\w4 (1=([I]).length/\1=1) (∀ a c,b<=c->Fresh N c a [D.ag [I]]->rA
 9 145 [.dg 9 (D.ag [D.j 4,D.t (ByteArray.extract s n.toNat (IntKind.i64.wrap (n+1)).toNat),D.t b0,D.j 0,D.j 0,D.sl none 2 [] 0,D.j 0,D.sl none 2 [] 0,
 D.sl a 9 [I] 1]),.j 1,.j n2] s (IntKind.i64.wrap (n+1)) (decide (n≥(s.size:Int))) c (λa b c d e=>zZ E [.var [.str b0,.j 0,.bool
 false]]/\uP e (Q a b c d)))))))))):BCalls prog 147 [(Sh.ag 9),Sh.str,(Sh.int IntKind.i64),Sh.bool] [.pb 0 0 0 0,.dg 9 I,.int .i64 n2] [.var [.str J,.int .i64 O,.bool U]] N Q:=
  bE IV h
theorem qc (E:Env) (Q:QT [Sh.str,Sh.str,(Sh.int IntKind.i64),Sh.bool]) (N0:Nat) (n3:Int) (s0_0:ByteArray) (n0_1:Int) (b0_2:Bool) (N:Nat) (h :
Br (decide (n0_1<(s0_0.size:Int))) ((0<=n0_1/\n0_1<(s0_0.size:Int))/\Br (decide ((UInt8.toNat (Array.getD (ByteArray.data s0_0) n0_1.toNat
 (OfNat.ofNat 0)):Int)≥48)) ((0<=n0_1/\n0_1<(s0_0.size:Int))/\Br (decide ((UInt8.toNat (Array.getD (ByteArray.data s0_0) n0_1.toNat (OfNat.ofNat 0)) :
 Int)<=57)) (ye E Q N0 n3 s0_0 (IntKind.i64.wrap (n0_1+1)) b0_2 N) ((0<=n0_1/\n0_1<(s0_0.size:Int))/\Br (decide ((UInt8.toNat (Array.getD
 (ByteArray.data s0_0) n0_1.toNat (OfNat.ofNat 0)):Int)≥97)) ((0<=n0_1/\n0_1<(s0_0.size:Int))/\Br (decide ((UInt8.toNat (Array.getD (ByteArray.data
 s0_0) n0_1.toNat (OfNat.ofNat 0)):Int)<=122)) (ye E Q N0 n3 s0_0 (IntKind.i64.wrap (n0_1+1)) b0_2 N) ((0<=n3/\n3<=n0_1/\n0_1<=(s0_0.size
 : Int))/\zZ E [.var [.str b0,.j 0,.bool false]]/\uP N (Q (ByteArray.extract s0_0 n3.toNat n0_1.toNat) s0_0 n0_1 b0_2))) ((0<=n3/\n3<=n0_1/\n0_1 <=
 (s0_0.size:Int))/\zZ E [.var [.str b0,.j 0,.bool false]]/\uP N (Q (ByteArray.extract s0_0 n3.toNat n0_1.toNat) s0_0 n0_1 b0_2)))) ((0<=n0_1/\n0_1 <
 (s0_0.size:Int))/\Br (decide ((UInt8.toNat (Array.getD (ByteArray.data s0_0) n0_1.toNat (OfNat.ofNat 0)):Int)≥97)) ((0<=n0_1/\n0_1<(s0_0.size:Int))
 /\ Br (decide ((UInt8.toNat (Array.getD (ByteArray.data s0_0) n0_1.toNat (OfNat.ofNat 0)):Int)<=122)) (ye E Q N0 n3 s0_0 (IntKind.i64.wrap (n0_1
 + 1)) b0_2 N) ((0<=n3/\n3<=n0_1/\n0_1<=(s0_0.size:Int))/\zZ E [.var [.str b0,.j 0,.bool false]]/\uP N (Q (ByteArray.extract s0_0 n3.toNat
 n0_1.toNat) s0_0 n0_1 b0_2))) ((0<=n3/\n3<=n0_1/\n0_1<=(s0_0.size:Int))/\zZ E [.var [.str b0,.j 0,.bool false]]/\uP N (Q (ByteArray.extract s0_0
 n3.toNat n0_1.toNat) s0_0 n0_1 b0_2)))) ((0<=n3/\n3<=n0_1/\n0_1<=(s0_0.size:Int))/\zZ E [.var [.str b0,.j 0,.bool false]]/\uP N (Q
 (ByteArray.extract s0_0 n3.toNat n0_1.toNat) s0_0 n0_1 b0_2))):ye E Q N0 n3 s0_0 n0_1 b0_2 N:=
  hE A4 h
theorem qf (E:Env) (Q:QT [(Sh.ag 9),Sh.str,(Sh.int IntKind.i64),Sh.bool]) (N0:Nat) (n2 n3 n9:Int) (O:ByteArray) (U:Int) (J:Bool) (I:D) (Y:Int) (aa ab:ByteArray) (ac ae:Int) (ah:Option Addr) (ai:List D) (aj:Nat) (ak:Int) (al:Option Addr) (ao:List D) (aq:Nat) (au:Option Addr) (aw:List D) (ax:Nat) (N:Nat) (h :
Br (decide (n9<n2)) (Br (!J) (Br (decide (n9>0)) (rU 81 [.str (bytes [32])] O U J N (λs n b d=>∃ a e,∃ c:Nat,(I.cell 8)=D.sl
 a 9 e c/\rA 9 38 [.j n3] s n b d (λx b d f g=>Vm a e c [x]/\zB e [x] 136/\∀(a:Nat),zm E Q N0 n2 n3
 (IntKind.i64.wrap (n9+1)) b d f (I.cell 0) (I.cell 1) (I.cell 2) (I.cell 3) (I.cell 4) (I.cell 5) (I.cell 6) (I.cell 7) (e++[x]).length a
 Y aa ab ac ae ah ai aj ak al ao aq au aw ax (e++[x]) a g))) (∃ a b,∃ c:Nat,(I.cell 8)=D.sl a 9 b c /\
 rA 9 38 [.j n3] O U J N (λd e f g h=>Vm a b c [d]/\zB b [d] 136/\∀(a:Nat),zm E Q N0 n2 n3
 (IntKind.i64.wrap (n9+1)) e f g (I.cell 0) (I.cell 1) (I.cell 2) (I.cell 3) (I.cell 4) (I.cell 5) (I.cell 6) (I.cell 7) (b++[d]).length
 a Y aa ab ac ae ah ai aj ak al ao aq au aw ax (b++[d]) a h))) (rU 81 [.str (bytes [41])] O U J N (λa
 b c d=>zZ E [.var [.str b0,.j 0,.bool false]]/\uP d (Q I a b c)))) (rU 81 [.str (bytes [41])] O U J N (λa b c d=>zZ
 E [.var [.str b0,.j 0,.bool false]]/\uP d (Q I a b c)))):qB E Q N0 n2 n3 n9 O U J I Y aa ab ac ae ah ai aj ak al ao aq au aw ax N:=
  hE sg h
theorem vB (E:Env) (Q:QT [(Sh.ag 9),Sh.str,(Sh.int IntKind.i64),Sh.bool]) (N0:Nat) (n2 n3 n9:Int) (s0_0:ByteArray) (n0_1:Int) (b0_2:Bool) (x1_0 x1_1 x1_2 x1_3 x1_4 x1_5 x1_6 x1_7:D) (m1_8 c1_8:Nat) (n2_0:Int) (s2_1 s2_2:ByteArray) (n2_3 n2_4:Int) (a2_5:Option Addr) (e2_5:List D) (c2_5:Nat) (n2_6:Int) (a2_7:Option Addr) (e2_7:List D) (c2_7:Nat) (a2_8:Option Addr) (e2_8:List D) (c2_8:Nat) (r3:List D) (q3:Nat) (N:Nat) (h :
Br (decide (n9<n2)) (Br (!b0_2) (Br (decide (n9>0)) (rU 81 [.str (bytes [32])] s0_0 n0_1 b0_2 N (fun s n b a=>rA 9 38 [.j n3] s n b a (fun x a
 b d e=>(m1_8=r3.length/\c1_8=q3)/\zB r3 [x] 136/\∀(c:Nat),zm E Q N0 n2 n3 (IntKind.i64.wrap (n9+1)) a b d x1_0
 x1_1 x1_2 x1_3 x1_4 x1_5 x1_6 x1_7 (r3++[x]).length c n2_0 s2_1 s2_2 n2_3 n2_4 a2_5 e2_5 c2_5 n2_6 a2_7 e2_7 c2_7 a2_8 e2_8 c2_8 (r3++[x]) c e))) (rA 9 38
 [.j n3] s0_0 n0_1 b0_2 N (fun a b c d e=>(m1_8=r3.length/\c1_8=q3)/\zB r3 [a] 136/\∀(f:Nat),zm E Q N0 n2 n3
 (IntKind.i64.wrap (n9+1)) b c d x1_0 x1_1 x1_2 x1_3 x1_4 x1_5 x1_6 x1_7 (r3++[a]).length f n2_0 s2_1 s2_2 n2_3 n2_4 a2_5 e2_5 c2_5 n2_6 a2_7 e2_7
 c2_7 a2_8 e2_8 c2_8 (r3++[a]) f e))) (rU 81 [.str (bytes [41])] s0_0 n0_1 b0_2 N (fun b c d e=>w3 (m1_8=r3.length/\c1_8=q3) (∀ a f,e <=
 f->Fresh N0 f a [D.ag r3,x1_0,x1_1,x1_2,x1_3,x1_4,x1_5,x1_6,x1_7]->zZ E [.var [.str b0,.j 0,.bool false]]/\uP f (Q (D.ag [x1_0,x1_1,x1_2,
 x1_3,x1_4,x1_5,x1_6,x1_7,D.sl a 9 r3 q3]) b c d))))) (rU 81 [.str (bytes [41])] s0_0 n0_1 b0_2 N (fun a b c d=>w3 (m1_8=r3.length/\c1_8
 = q3) (∀ e f,d<=f->Fresh N0 f e [D.ag r3,x1_0,x1_1,x1_2,x1_3,x1_4,x1_5,x1_6,x1_7]->zZ E [.var [.str b0,.j 0,.bool false]]/\uP f
 (Q (D.ag [x1_0,x1_1,x1_2,x1_3,x1_4,x1_5,x1_6,x1_7,D.sl e 9 r3 q3]) a b c))))):zm E Q N0 n2 n3 n9 s0_0 n0_1 b0_2 x1_0 x1_1 x1_2 x1_3 x1_4 x1_5 x1_6 x1_7 m1_8 c1_8 n2_0 s2_1 s2_2 n2_3 n2_4 a2_5 e2_5 c2_5 n2_6 a2_7 e2_7 c2_7 a2_8 e2_8 c2_8 r3 q3 N:=
  hE sg h
end Go.Proofs.YtlaniepnglheoaaGreatDoor
