/- Printed by gen.py: what the functions come to. -/
import Derived.Test.YtnmnahkkcfghjaaGreatJh
set_option linter.unusedVariables false
set_option maxRecDepth 100000
namespace Go.Proofs.YtnmnahkkcfghjaaGreat
open Go Go.Proofs Go.Proofs.Tryz
def qz:Hint:=⟨[hc 2 [0,3]],[],[]⟩
def pV:Hint:=⟨[hc 3 [1,2,5]],[],[(5,hs 8 [ec 6 [23]])]⟩
def uY:Hint:=⟨[hc 3 [1,3,4]],[],[(5,hs 9 [ec 6 [17]])]⟩
def qX:Hint:=⟨[hc 2 [1,3]],[],[(4,hs 7 [ec 5 [15]])]⟩
def ql:Hint:=⟨[],[],[(1,hs 13 [ec 1 [3],ec 5 [7],ec 10 [12]])]⟩
def zBD:Hint:=⟨[hc 2 [0,3]],[],[(4,hs 25 [ec 13 [22]])]⟩
def zCz:Hint:=⟨[],[],[(2,hs 15 [ec 3 [15],ec 11 [23]]),(4,[en 0,en 1,en 2,en 3,en 4,ec 5 [32],en 6,en 7,en 8,en 9,en 10,en 11,en 12,en 13,ec 14 [41],en 15,en 16,en 17]),(12,hs 9 [ec 6 [57]])]⟩
def qW:Hint:=⟨[hc 2 [1,3]],[],[(4,hs 7 [ec 5 [15]]),(6,[en 0,ec 1 [18],en 2,en 3,en 4,en 5,en 6,ec 7 [24],en 8,en 9,en 10])]⟩
def zCA:Hint:=⟨[hc 4 [1,2,5]],[],[(6,[en 0,en 1,en 2,en 3,en 4,en 5,en 6,ec 7 [21],ec 8 [20],en 9])]⟩
def zCx:Hint:=⟨[],[],[(1,hs 8 [ec 1 [5],ec 5 [8]])]⟩
def qr:Hint:=⟨[hc 2 [0,1,5]],[],[]⟩
def te:Hint:=⟨[hc 3 [1,2,3,4]],[],[(5,[en 0,en 1,en 2,en 3,en 4,en 5,en 6,ec 7 [21],en 8,eh 9,en 10,eh 11])]⟩
def zHX:Hint:=⟨[],[],[(1,[en 0,en 2,ec 1 [5],ec 3 [7],en 4,en 5,eh 6])]⟩
def tk:Hint:=⟨[hc 4 [2,3,5]],[],[(6,[en 0,en 1,en 2,en 3,en 4,en 5,en 6,en 7,en 8,en 9,ec 10 [31,36],en 11])]⟩
def zF5:Hint:=⟨[],[],[(3,[en 0,en 1,en 2,en 3,en 4,en 5,en 7,en 8,en 9,en 10,en 11,en 16,ec 6 [26],ec 12 [32],en 13,en 14,en 15,eh 17,en 18]),(4,hs 7 [ec 3 [38,39]]),(6,hs 13 [ec 6 [49]]),(9,[en 0,en 1,en 2,en 3,en 4,en 6,en 7,en 8,en 9,en 10,en 15,ec 5 [61],ec 11 [67],en 12,en 13,en 14,eh 16,en 17]),(11,hs 7 [ec 4 [75,77]]),(12,[en 0,en 1,en 2,en 3,en 4,en 6,en 7,en 8,en 9,en 10,en 12,en 13,en 14,en 15,en 16,en 21,ec 5 [83],ec 11 [89],ec 17 [95],en 18,en 19,en 20,eh 22,en 23]),(13,[en 0,en 1,en 2,en 3,en 4,en 5,ec 6 [103,105],en 7,eh 8,en 9])]⟩
def qD:Hint:=⟨[hc 3 [0,1,5,6] [(5,57,4)]],[],[(5,hs 26 [ec 5 [18]]),(6,[en 0,en 1,en 2,en 3,en 4,en 5,en 6,en 7,en 8,en 9,en 10,en 12,en 13,en 14,en 15,en 16,ec 11 [50],en 17,en 18,eh 19,eh 20])]⟩
def zFv:Hint:=⟨[],[],[(1,hs 5 [ec 1 [3]])]⟩
def zDg:Hint:=⟨[],[],[(3,[en 0,en 1,en 2,en 3,en 4,en 5,en 6,en 12,ec 7 [22],ec 8 [21],en 9,en 10,en 11,eh 13,en 14]),(7,hs 4 [ec 1 [36]]),(9,[en 0,en 2,ec 1 [42],ec 3 [44],eh 4,en 5]),(11,hs 7 [ec 4 [53]])]⟩
def zCQ:Hint:=⟨[hc 5 [0,1,4,6,7]],[],[]⟩
def zFD:Hint:=⟨[],[],[(6,[en 0,en 1,en 2,en 3,en 4,en 5,en 6,en 7,en 8,en 9,en 10,en 11,en 12,en 13,en 14,ec 15 [34,37],en 16,eh 17,en 18]),(7,[en 0,en 1,en 2,en 3,en 4,en 5,en 6,en 7,en 8,en 9,en 10,en 11,en 12,en 13,en 14,ec 15 [51,54],en 16]),(8,hs 9 [ec 6 [62]])]⟩
def zAD:Hint:=⟨[hc 24 [0,2,4,6,13,14] [(13,26,2)]],[],[(6,hs 8 [ec 5 [43]]),(14,hs 10 [ec 3 [57]]),(20,hs 10 [ec 3 [71]]),(26,hs 14 [ec 7 [92]]),(30,hs 9 [ec 2 [105]])]⟩
def zGV:Hint:=⟨[],[],[(1,hs 10 [ec 3 [12]]),(2,hs 7 [ec 4 [20]])]⟩
def zGH:Hint:=⟨[],[],[(1,hs 9 [ec 6 [14]]),(3,hs 10 [ec 3 [22]])]⟩
def yZ (Q:QT [.bool]) (N0:Nat) (I:ByteArray) (J:Int) (N:Nat):Prop:=AT prog 68 [.bool] Q N0 .ord (zE prog 68 2) ⟨.str I::an 2 (.int .i64 J::an 58 []),[],N,none⟩
def wE (Q:QT [.int .i64]) (N0:Nat) (n1 I:Int) (J:D) (N:Nat):Prop:=AT prog 91 [.int .i64] Q N0 .ord (zE prog 91 3) ⟨an 1 (.int .i64 n1::.pb 0 0 0 0::an 2 (.int .i64 I::an 21 [])),[.vd J 2],N,none⟩
def yW (Q:QT [.int .i64]) (N0:Nat) (I J:Int) (O:D) (N:Nat):Prop:=AT prog 92 [.int .i64] Q N0 .ord (zE prog 92 3) ⟨an 1 (.pb 0 0 0 0::an 1 (.int .i64 I::.int .i64 J::an 17 [])),[.vd O 2],N,none⟩
def wb (Q:QT [.bool]) (N0:Nat) (I:Int) (J:D) (N:Nat):Prop:=AT prog 93 [.bool] Q N0 .ord (zE prog 93 2) ⟨an 1 (.pb 0 0 0 0::an 1 (.int .i64 I::an 35 [])),[.vd J 2],N,none⟩
def wv (Q:QT [.bool]) (N0:Nat) (a0:Option Addr) (e0:List D) (c0:Nat) (I:Int) (N:Nat):Prop:=AT prog 39 [.bool] Q N0 .ord (zE prog 39 2) ⟨.sv a0 4 e0 c0::an 2 (.int .i64 I::an 34 []),[],N,none⟩
def wc (Q:QT [.bool]) (N0:Nat) (I:Int) (J:D) (N:Nat):Prop:=AT prog 70 [.bool] Q N0 .ord (zE prog 70 2) ⟨an 1 (.pb 0 0 0 0::an 1 (.int .i64 I::an 24 [])),[.vd J 9],N,none⟩
def vb (Q:QT [.bool]) (N0:Nat) (n1 I:Int) (J:D) (N:Nat):Prop:=AT prog 71 [.bool] Q N0 .ord (zE prog 71 4) ⟨an 1 (.int .i64 n1::.pb 0 0 0 0::an 2 (.int .i64 I::an 20 [])),[.vd J 9],N,none⟩
def wQ (Q:QT [.int .i64]) (N0:Nat) (a0:Option Addr) (e0:List D) (c0:Nat) (I:ByteArray) (J:Int) (N:Nat):Prop:=AT prog 84 [.int .i64] Q N0 .ord (zE prog 84 2) ⟨.sv a0 4 e0 c0::.str I::an 3 (.int .i64 J::an 15 []),[],N,none⟩
def v4 (Q:QT [.ag 2]) (N0:Nat) (n4:Int) (y0:D) (I:Int) (J:Option Addr) (O:List D) (U:Nat) (Y:Int) (aa:Option Addr) (ab:List D) (ac:Nat) (N:Nat):Prop:=AT prog 73 [.ag 2] Q N0 .ord (zE prog 73 3) ⟨an 1 (.pb 0 0 0 0::.pb 1 0 0 0::.pb 2 0 0 0::.int .i64 n4::an 22 []),[.vd y0 2,.var [.int .i64 I,.sv J 2 O U],.var [.int .i64 Y,.sv aa 2 ab ac]],N,none⟩
def yQ (Q:QT [.bool]) (N0:Nat) (I:Int) (J O:D) (N:Nat):Prop:=AT prog 19 [.bool] Q N0 .ord (zE prog 19 4) ⟨an 2 (.pb 0 0 0 0::.pb 1 0 0 0::an 1 (.int .i64 I::an 33 [])),[.vd J 2,.vd O 2],N,none⟩
def zx (Q:QT [.sl 4]) (N0:Nat) (a0:Option Addr) (e0:List D) (c0:Nat) (n1:Int) (I J:Nat) (O:Int) (r0:List D) (U:Nat) (N:Nat):Prop:=AT prog 89 [.sl 4] Q N0 .ord (zE prog 89 3) ⟨.sv a0 4 e0 c0::.int .i64 n1::an 3 (.sb 0 4 0 I J::.int .i64 O::an 54 []),[.arr 57 4 r0 U],N,none⟩
def yM (Q:QT [.ag 2,.bool]) (N0:Nat) (Y:ByteArray) (a1:Option Addr) (e1:List D) (c1:Nat) (n6 n7 I:Int) (J:Option Addr) (O:List D) (U:Nat) (N:Nat):Prop:=AT prog 108 [.ag 2,.bool] Q N0 .ord (zE prog 108 5) ⟨.str Y::.sv a1 2 e1 c1::an 2 (.pb 0 0 0 0::an 1 (.int .i64 n6::.int .i64 n7::an 36 [])),[.var [.int .i64 I,.sv J 2 O U]],N,none⟩
def yn (Q:QT [.ag 2,.bool]) (N0:Nat) (a0:Option Addr) (e0:List D) (c0:Nat) (n2:Int) (Y aa:Nat) (ab:Int) (y0:D) (I:Int) (J:Option Addr) (O:List D) (U:Nat) (r2:List D) (q2:Nat) (N:Nat):Prop:=AT prog 72 [.ag 2,.bool] Q N0 .ord (zE prog 72 24) ⟨.sv a0 4 e0 c0::an 1 (.int .i64 n2::an 1 (.pb 0 0 0 0::an 1 (.pb 1 0 0 0::an 6 (.sb 2 2 0 Y aa::.int .i64 ab::an 97 [])))),[.vd y0 9,.var [.int .i64 I,.sv J 2 O U],.arr 26 2 r2 q2],N,none⟩
def xD (Q:QT [.ag 2]) (N0:Nat) (n4:Int) (y0:D) (I:Int) (J:Option Addr) (O:List D) (U:Nat) (Y:Int) (aa ab:Nat) (r3:List D) (q3:Nat) (N:Nat):Prop:=AT prog 73 [.ag 2] Q N0 .ord (zE prog 73 3) ⟨an 1 (.pb 0 0 0 0::.pb 1 0 0 0::.pb 2 0 0 0::.int .i64 n4::an 22 []),[.vd y0 2,.var [.int .i64 I,.sv J 2 O U],.var [.int .i64 Y,.sb 3 2 0 aa ab],.arr 26 2 r3 q3],N,none⟩
theorem zIl (N:Nat) (n0 n1 I:Int) (Q:QT [.bool]) (h :
Br (decide (n0≥n1)) (uP N (Q (decide (n0<=I)))) (uP N (Q false))):ACalls prog 31 [.bool] [PV.int .i64 n0,PV.int .i64 n1,PV.int .i64 I] N Q:=
 eE H0 h
theorem zE2 (N:Nat) (I:ByteArray) (Q:QT [.bool]) (h :
yZ Q N I 0 N):ACalls prog 68 [.bool] [PV.str I] N Q:=
 eE qz h
theorem zGD (N:Nat) (I:D) (n1:Int) (Q:QT [.int .i64]) (h :
Bel N I->wE Q N (IntKind.i64.wrap (n1 - 1)) 0 I N):ACalls prog 91 [.int .i64] [PV.dg 2 I,PV.int .i64 n1] N Q:=
 eE pV h
theorem zGw (N:Nat) (n0 n1:Int) (Q:QT [.int .i64]) (h :
Br (decide (n0>n1)) (uP N (Q n0)) (uP N (Q n1))):ACalls prog 105 [.int .i64] [PV.int .i64 n0,PV.int .i64 n1] N Q:=
 eE H0 h
theorem zAE (N:Nat) (I:D) (Q:QT [.int .i64]) (h :
Bel N I->yW Q N 0 0 I N):ACalls prog 92 [.int .i64] [PV.dg 2 I] N Q:=
 eE uY h
theorem zFO (N:Nat) (I:D) (Q:QT [.bool]) (h :
Bel N I->wb Q N 0 I N):ACalls prog 93 [.bool] [PV.dg 2 I] N Q:=
 eE qX h
theorem qc (N:Nat) (I:D) (Q:QT [.bool]) (h :
Bel N I->kI 91 [.dg 2 I,.j 30] N (λn a=>Br (decide (n≥0)) (kI 92 [.dg 2 I] a (λa c=>Br (decide (a<=8)) (kB 93 [.dg 2 I] c (λb
 a=>uP a (Q b))) (uP c (Q false)))) (uP a (Q false)))):ACalls prog 69 [.bool] [PV.dg 2 I] N Q:=
  eE ql h
theorem zHm (N:Nat) (a0:Option Addr) (e0:List D) (c0:Nat) (Q:QT [.bool]) (h :
Bel N (D.sl a0 4 e0 c0)->wv Q N a0 e0 c0 0 N):ACalls prog 39 [.bool] [PV.sv a0 4 e0 c0] N Q:=
 eE zBD h
theorem zE0 (N:Nat) (I:D) (Q:QT [.bool]) (h :
Bel N I->∃ n:Int,(I.cell 0)=D.j n/\Br (n==0) (∃ a b,∃ c:Nat,(I.cell 1)=D.sl a 2 b c/\uP N (Q ((b.length:Int)==0))) (uP N (Q
 false))):ACalls prog 106 [.bool] [PV.dg 2 I] N Q:=
  eE H0 h
theorem zDq (N:Nat) (I:ByteArray) (Q:QT [.int .i64]) (h :
Br (ByteArray.toList I==ByteArray.toList (bytes [43])) (uP N (Q 2)) (Br (ByteArray.toList I==ByteArray.toList (bytes [45])) (uP N (Q 2)) (Br
 (ByteArray.toList I==ByteArray.toList (bytes [42])) (uP N (Q 2)) (Br (ByteArray.toList I==ByteArray.toList (bytes [61])) (uP N (Q 2)) (Br
 (ByteArray.toList I==ByteArray.toList (bytes [60])) (uP N (Q 2)) (Br (ByteArray.toList I==ByteArray.toList (bytes [38])) (uP N (Q 2)) (Br
 (ByteArray.toList I==ByteArray.toList (bytes [124])) (uP N (Q 2)) (Br (ByteArray.toList I==ByteArray.toList (bytes [33])) (uP N (Q 1)) (uP N (Q
 0)))))))))):ACalls prog 102 [.int .i64] [PV.str I] N Q:=
  eE H0 h
theorem zDn (N:Nat) (x0:D) (Q:QT [.bool]) (h :
Bel N x0->∃ n:Int,(x0.cell 0)=D.j n/\Br (n==4) (∃ s,(x0.cell 1)=D.t s/\kI 102 [.str s] N (fun a b=>Br (decide (a>0)) (∃ a,(x0.cell
 2)=D.t a/\uP b (Q (ByteArray.toList a==ByteArray.toList b0))) (uP b (Q false)))) (Br (n==1) (∃ a,(x0.cell 1)=D.t a/\kB 68 [.str a] N (fun
 b a=>Br b (∃ b,(x0.cell 2)=D.t b/\uP a (Q (ByteArray.toList b==ByteArray.toList b0))) (uP a (Q false)))) (Br (n==6) (∃ a,(x0.cell 1)=D.t
 a/\kB 68 [.str a] N (fun a b=>Br a (∃ a,(x0.cell 2)=D.t a/\uP b (Q (ByteArray.toList a==ByteArray.toList b0))) (uP b (Q false))))
 (Br (n==8) (∃ a,(x0.cell 1)=D.t a/\kB 68 [.str a] N (fun a b=>Br a (∃ a,(x0.cell 2)=D.t a/\uP b (Q (ByteArray.toList a ==
 ByteArray.toList b0))) (uP b (Q false)))) (Br (n==9) (∃ a,(x0.cell 1)=D.t a/\kB 68 [.str a] N (fun a b=>Br a (∃ a,(x0.cell 2)=D.t a
 /\ kB 68 [.str a] b (fun a b=>Br a (∃ a,(x0.cell 1)=D.t a/\∃ c,(x0.cell 2)=D.t c/\uP b (Q (!(ByteArray.toList a ==
 ByteArray.toList c)))) (uP b (Q false)))) (uP b (Q false)))) (∃ a,(x0.cell 1)=D.t a/\Br (ByteArray.toList a==ByteArray.toList b0) (∃ a,
 (x0.cell 2)=D.t a/\uP N (Q (ByteArray.toList a==ByteArray.toList b0))) (uP N (Q false)))))))):ACalls prog 107 [.bool] [PV.dg 9 x0] N Q:=
  eE H0 h
theorem zCl (N:Nat) (I:D) (Q:QT [.bool]) (h :
Bel N I->∃ n:Int,(I.cell 0)=D.j n/\Br (n==6) (kB 69 [.dg 2 (D.sub I 4 2)] N (λb a=>Br (!(true==b)) (uP a (Q false)) (∃ b:Int,
 (I.cell 0)=D.j b/\kB 69 [.dg 2 (D.sub I 6 2)] a (λa c=>Br (!((b==9)==a)) (uP c (Q false)) (∃ a:Int,(I.cell 0)=D.j a/\Br (bne
 a 9) (kB 106 [.dg 2 (D.sub I 6 2)] c (λa b=>Br (!a) (uP b (Q false)) (∃ a:Int,(I.cell 0)=D.j a/\Br (a==2) (∃ a:Int,(I.cell
 3)=D.j a/\kB 31 [.j a,.j 0,.j 10006] b (λa b=>Br a (kB 107 [.dg 9 I] b (λa b=>uP b (Q a))) (uP b (Q false)))) (Br (a ==
 3) (∃ a:Int,(I.cell 3)=D.j a/\kB 31 [.j a,.j 0,.j 1] b (λa b=>Br a (kB 107 [.dg 9 I] b (λa b=>uP b (Q a))) (uP b (Q
 false)))) (∃ a:Int,(I.cell 3)=D.j a/\kB 31 [.j a,.j 0,.j 0] b (λa b=>Br a (kB 107 [.dg 9 I] b (λa b=>uP b (Q a))) (uP
 b (Q false)))))))) (∃ a:Int,(I.cell 0)=D.j a/\Br (a==2) (∃ a:Int,(I.cell 3)=D.j a/\kB 31 [.j a,.j 0,.j 10006] c (λa b=>
 Br a (kB 107 [.dg 9 I] b (λa b=>uP b (Q a))) (uP b (Q false)))) (Br (a==3) (∃ a:Int,(I.cell 3)=D.j a/\kB 31 [.j a,.j 0,
 .j 1] c (λa b=>Br a (kB 107 [.dg 9 I] b (λa b=>uP b (Q a))) (uP b (Q false)))) (∃ a:Int,(I.cell 3)=D.j a/\kB 31
 [.j a,.j 0,.j 0] c (λa b=>Br a (kB 107 [.dg 9 I] b (λa b=>uP b (Q a))) (uP b (Q false))))))))))) (∃ a:Int,(I.cell
 0)=D.j a/\kB 69 [.dg 2 (D.sub I 4 2)] N (λb c=>Br (!((a==9)==b)) (uP c (Q false)) (Br (!(a==9)) (kB 106 [.dg 2 (D.sub I 4 2)]
 c (λa b=>Br (!a) (uP b (Q false)) (∃ a:Int,(I.cell 0)=D.j a/\kB 69 [.dg 2 (D.sub I 6 2)] b (λb c=>Br (!((a==9)
 == b)) (uP c (Q false)) (∃ a:Int,(I.cell 0)=D.j a/\Br (bne a 9) (kB 106 [.dg 2 (D.sub I 6 2)] c (λa b=>Br (!a) (uP b (Q
 false)) (∃ a:Int,(I.cell 0)=D.j a/\Br (a==2) (∃ a:Int,(I.cell 3)=D.j a/\kB 31 [.j a,.j 0,.j 10006] b (λa b=>Br
 a (kB 107 [.dg 9 I] b (λa b=>uP b (Q a))) (uP b (Q false)))) (Br (a==3) (∃ a:Int,(I.cell 3)=D.j a/\kB 31 [.j a,.j
 0,.j 1] b (λa b=>Br a (kB 107 [.dg 9 I] b (λa b=>uP b (Q a))) (uP b (Q false)))) (∃ a:Int,(I.cell 3)=D.j a/\kB
 31 [.j a,.j 0,.j 0] b (λa b=>Br a (kB 107 [.dg 9 I] b (λa b=>uP b (Q a))) (uP b (Q false)))))))) (∃ a:Int,(I.cell
 0)=D.j a/\Br (a==2) (∃ a:Int,(I.cell 3)=D.j a/\kB 31 [.j a,.j 0,.j 10006] c (λa b=>Br a (kB 107 [.dg 9 I] b (fun
 a b=>uP b (Q a))) (uP b (Q false)))) (Br (a==3) (∃ a:Int,(I.cell 3)=D.j a/\kB 31 [.j a,.j 0,.j 1] c (λa b=>Br
 a (kB 107 [.dg 9 I] b (λa b=>uP b (Q a))) (uP b (Q false)))) (∃ a:Int,(I.cell 3)=D.j a/\kB 31 [.j a,.j 0,.j 0] c (fun
 a b=>Br a (kB 107 [.dg 9 I] b (λa b=>uP b (Q a))) (uP b (Q false))))))))))) (∃ a:Int,(I.cell 0)=D.j a/\kB 69 [.dg 2
 (D.sub I 6 2)] c (λb c=>Br (!((a==9)==b)) (uP c (Q false)) (∃ a:Int,(I.cell 0)=D.j a/\Br (bne a 9) (kB 106 [.dg 2
 (D.sub I 6 2)] c (λa b=>Br (!a) (uP b (Q false)) (∃ a:Int,(I.cell 0)=D.j a/\Br (a==2) (∃ a:Int,(I.cell 3)=D.j a
 /\ kB 31 [.j a,.j 0,.j 10006] b (λa b=>Br a (kB 107 [.dg 9 I] b (λa b=>uP b (Q a))) (uP b (Q false)))) (Br (a ==
 3) (∃ a:Int,(I.cell 3)=D.j a/\kB 31 [.j a,.j 0,.j 1] b (λa b=>Br a (kB 107 [.dg 9 I] b (λa b=>uP b (Q
 a))) (uP b (Q false)))) (∃ a:Int,(I.cell 3)=D.j a/\kB 31 [.j a,.j 0,.j 0] b (λa b=>Br a (kB 107 [.dg 9 I] b (fun
 a b=>uP b (Q a))) (uP b (Q false)))))))) (∃ a:Int,(I.cell 0)=D.j a/\Br (a==2) (∃ a:Int,(I.cell 3)=D.j a/\kB 31
 [.j a,.j 0,.j 10006] c (λa b=>Br a (kB 107 [.dg 9 I] b (λa b=>uP b (Q a))) (uP b (Q false)))) (Br (a==3) (∃
 a:Int,(I.cell 3)=D.j a/\kB 31 [.j a,.j 0,.j 1] c (λa b=>Br a (kB 107 [.dg 9 I] b (λa b=>uP b (Q a))) (uP
 b (Q false)))) (∃ a:Int,(I.cell 3)=D.j a/\kB 31 [.j a,.j 0,.j 0] c (λa b=>Br a (kB 107 [.dg 9 I] b (λa b=>uP
 b (Q a))) (uP b (Q false)))))))))))) ):ACalls prog 94 [.bool] [PV.dg 9 I] N Q:=
  eE zCz h
theorem zDu (N:Nat) (x0:D) (Q:QT [.int .i64]) (h :
Bel N x0->∃ n:Int,(x0.cell 0)=D.j n/\Br (n==1) (uP N (Q 0)) (Br (n==2) (uP N (Q 0)) (Br (n==3) (uP N (Q 0)) (Br (n==4) (∃ s,(x0.cell 1) =
 D.t s/\kI 102 [.str s] N (fun a b=>uP b (Q a))) (Br (n==6) (uP N (Q 1)) (Br (n==9) (uP N (Q 1)) (Br (n==10) (uP N (Q 1)) (Br (n==11) (uP N (Q
 1)) (Br (n==12) (uP N (Q 1)) (Br (n==13) (uP N (Q 1)) (Br (n==7) (uP N (Q 2)) (Br (n==8) (uP N (Q 2)) (Br (n==5) (uP N (Q 3)) (uP N (Q
 (-1)))))))))))))))):ACalls prog 81 [.int .i64] [PV.dg 9 x0] N Q:=
  eE H0 h
theorem zE6 (N:Nat) (I:D) (Q:QT [.bool]) (h :
Bel N I->wc Q N 0 I N):ACalls prog 70 [.bool] [PV.dg 9 I] N Q:=
 eE qW h
theorem qk (N:Nat) (x0:D) (n1:Int) (Q:QT [.int .i64]) (h :
Bel N x0->∃ n:Int,(x0.cell 0)=D.j n/\Br (n==10) (uP N (Q (IntKind.i64.wrap (n1+1)))) (Br (n==11) (uP N (Q (IntKind.i64.wrap (n1 - 1)))) (uP N
 (Q n1)))):ACalls prog 95 [.int .i64] [PV.dg 9 x0,PV.int .i64 n1] N Q:=
  eE H0 h
theorem zH2 (N:Nat) (I:D) (n1:Int) (Q:QT [.bool]) (h :
Bel N I->kB 31 [.j n1,.j 0,.j 2] N (λb a=>Br (!b) (uP a (Q false)) (vb Q N n1 0 I a))):ACalls prog 71 [.bool] [PV.dg 9 I,PV.int .i64 n1] N Q:=
 eE zCA h
theorem zDS (N:Nat) (I:D) (n1:Int) (Q:QT [.bool]) (h :
Bel N I->kB 70 [.dg 9 I] N (λb a=>Br b (kB 71 [.dg 9 I,.j n1] a (λa b=>uP b (Q a))) (uP a (Q false)))):ACalls prog 40 [.bool] [PV.dg 9 I,PV.int .i64 n1] N Q:=
 eE zCx h
theorem zFT (N:Nat) (a0:Option Addr) (e0:List D) (c0:Nat) (I:ByteArray) (Q:QT [.int .i64]) (h :
Bel N (D.sl a0 4 e0 c0)->wQ Q N a0 e0 c0 I (IntKind.i64.wrap ((e0.length:Int) - 1)) N):ACalls prog 84 [.int .i64] [PV.sv a0 4 e0 c0,PV.str I] N Q:=
 eE qr h
theorem zFV (N:Nat) (I:D) (Q:QT [.ag 2]) (h :
Bel N I->∃ n:Int,(I.cell 0)=D.j n/\v4 Q N 0 I 0 none [] 0 n none [] 0 N):ACalls prog 73 [.ag 2] [PV.dg 2 I] N Q:=
 eE te h
theorem zHi (N:Nat)  (Q:QT [.ag 2]) (h :
uP N (Q (D.ag [D.j 1,D.sl none 2 [] 0]))):ACalls prog 52 [.ag 2] [] N Q:=
 eE H0 h
theorem zE4 (N:Nat)  (Q:QT [.ag 2]) (h :
uP N (Q (D.ag [D.j 2,D.sl none 2 [] 0]))):ACalls prog 53 [.ag 2] [] N Q:=
 eE H0 h
theorem zGS (N:Nat) (a0:Option Addr) (e0:List D) (c0:Nat) (J:ByteArray) (I:D) (O:Int) (Q:QT [.sl 4]) (h :
Bel N (D.sl a0 4 e0 c0)->Bel N I->(0=0/\0=0)/\zA [] e0 56/\∀ (c:Nat),(([]++e0).length=([]++e0).length/\c=c)/\zA ([]++e0)
 [D.ag [D.t J,(I.cell 0),(I.cell 1),D.j O]] 56/\∀ (b:Nat),w2 (([]++e0++[D.ag [D.t J,(I.cell 0),(I.cell 1),D.j O]]).length=([]++e0 ++
 [D.ag [D.t J,(I.cell 0),(I.cell 1),D.j O]]).length/\b=b) (∀ a c,N<=c->Fresh N c a [D.ag ([]++e0++[D.ag [D.t J,(I.cell 0),(I.cell
 1),D.j O]])]->uP c (Q a ([]++e0++[D.ag [D.t J,(I.cell 0),(I.cell 1),D.j O]]) b))):ACalls prog 65 [.sl 4] [PV.sv a0 4 e0 c0,PV.str J,PV.dg 2 I,PV.int .i64 O] N Q:=
  eE H0 h
theorem zA9 (N:Nat) (I J:D) (Q:QT [.ag 2]) (h :
Bel N I->Bel N J->kA 2 73 [.dg 2 I] N (λx b=>kA 2 73 [.dg 2 J] b (λb c=>w3 (2=([x,b]).length/\2=2) (∀ a d,c<=d->Fresh N
 d a [D.ag [x,b]]->uP d (Q (D.ag [D.j 3,D.sl a 2 [x,b] 2])))))):ACalls prog 55 [.ag 2] [PV.dg 2 I,PV.dg 2 J] N Q:=
  eE zHX h
theorem zBm (N:Nat) (x0 x1:D) (Q:QT [.bool]) (h :
Bel N x0->Bel N x1->∃ n:Int,(x0.cell 0)=D.j n/\∃ b:Int,(x1.cell 0)=D.j b/\Br (bne n b) (uP N (Q false)) (∃ a b,∃ c:Nat,(x0.cell 1)
 = D.sl a 2 b c/\∃ a c,∃ d:Nat,(x1.cell 1)=D.sl a 2 c d/\Br (bne (b.length:Int) (c.length:Int)) (uP N (Q false))
 (yQ Q N 0 x0 x1 N))):ACalls prog 19 [.bool] [PV.dg 2 x0,PV.dg 2 x1] N Q:=
  eE tk h
theorem tN (N:Nat) (a0:Option Addr) (e0:List D) (c0:Nat) (x1:D) (n2:Int) (Q:QT [.ag 2,.bool]) (h :
Bel N (D.sl a0 4 e0 c0)->Bel N x1->∃ n:Int,(x1.cell 0)=D.j n/\Br (n==6) (∃ s,(x1.cell 1)=D.t s/\∃ a d,∃ c:Nat,(x1.cell 8)=D.sl a 9 d
 c/\((0:Int)<=(0:Int)/\0<(d.length:Int))/\kL 4 65 [.sv a0 4 e0 c0,.str s,.dg 2 (D.sub x1 4 2),.j n2] N (fun a c e f=>kAB 2 41 [.sv a
 4 c e,.dg 9 (List.getD d 0 default),.j n2] f (fun x b a=>kA 2 55 [.dg 2 (D.sub x1 4 2),.dg 2 x] a (fun a c=>uP c (Q a b))))) (Br (n==8)
 (∃ a b,∃ c:Nat,(x1.cell 8)=D.sl a 9 b c/\((0:Int)<=(0:Int)/\0<(b.length:Int))/\kAB 2 41 [.sv a0 4 e0 c0,.dg 9 (List.getD
 b 0 default),.j n2] N (fun a b c=>Br (!b) (uP c (Q (D.ag [D.j 0,D.sl none 2 [] 0]) false)) (∃ b,(x1.cell 1)=D.t b/\∃ d e,∃ f :
 Nat,(x1.cell 8)=D.sl d 9 e f/\((0:Int)<=(1:Int)/\1<(e.length:Int))/\kL 4 65 [.sv a0 4 e0 c0,.str b,.dg 2 a,.j n2] c (fun a
 b c d=>kAB 2 41 [.sv a 4 b c,.dg 9 (List.getD e 1 default),.j n2] d (fun a b c=>uP c (Q a b)))))) (kA 2 55 [.dg 2 (D.sub x1
 4 2),.dg 2 (D.sub x1 6 2)] N (fun a b=>∃ c,(x1.cell 1)=D.t c/\∃ d,(x1.cell 2)=D.t d/\∃ e f,∃ g:Nat,(x1.cell 8)=D.sl e 9
 f g/\((0:Int)<=(0:Int)/\0<(f.length:Int))/\kL 4 65 [.sv a0 4 e0 c0,.str c,.dg 2 a,.j n2] b (fun b c e g=>kL 4 65 [.sv
 b 4 c e,.str d,.dg 2 (D.sub x1 4 2),.j n2] g (fun b c d e=>kAB 2 41 [.sv b 4 c d,.dg 9 (List.getD f 0 default),.j n2] e
 (fun b c d=>Br c (kB 19 [.dg 2 b,.dg 2 (D.sub x1 6 2)] d (fun b c=>uP c (Q a b))) (uP d (Q a false))))))))):ACalls prog 96 [.ag 2,.bool] [PV.sv a0 4 e0 c0,PV.dg 9 x1,PV.int .i64 n2] N Q:=
  eE zF5 h
theorem zFm (N:Nat) (x0:D) (Q:QT [.bool]) (h :
Bel N x0->∃ n:Int,(x0.cell 0)=D.j n/\Br (n==1) (∃ a b,∃ c:Nat,(x0.cell 1)=D.sl a 2 b c/\uP N (Q ((b.length:Int)==0))) (∃ a:Int,
 (x0.cell 0)=D.j a/\Br (a==2) (∃ a b,∃ c:Nat,(x0.cell 1)=D.sl a 2 b c/\uP N (Q ((b.length:Int)==0))) (uP N (Q false)))):ACalls prog 66 [.bool] [PV.dg 2 x0] N Q:=
  eE H0 h
theorem zDr (N:Nat) (a0:Option Addr) (e0:List D) (c0:Nat) (n1:Int) (Q:QT [.sl 4]) (h :
Bel N (D.sl a0 4 e0 c0)->zx Q N a0 e0 c0 n1 0 0 0 [] 0 N):ACalls prog 89 [.sl 4] [PV.sv a0 4 e0 c0,PV.int .i64 n1] N Q:=
 eE qD h
theorem qg (N:Nat) (I:D) (Q:QT [.ag 2]) (h :
Bel N I->kA 2 73 [.dg 2 I] N (λx b=>w3 (1=([x]).length/\1=1) (∀ a c,b<=c->Fresh N c a [D.ag [x]]->uP c (Q (D.ag [D.j 4,D.sl a 2 [x]
 1]))))):ACalls prog 54 [.ag 2] [PV.dg 2 I] N Q:=
  eE zFv h
theorem zD0 (N:Nat) (a0:Option Addr) (e0:List D) (c0:Nat) (I:D) (J:Int) (Q:QT [.ag 2,.bool]) (h :
Bel N (D.sl a0 4 e0 c0)->Bel N I->∃ n:Int,(I.cell 0)=D.j n/\Br (n==12) (kL 4 89 [.sv a0 4 e0 c0,.j J] N (λa c d e=>∃ f g,∃ h :
 Nat,(I.cell 8)=D.sl f 9 g h/\((0:Int)<=(0:Int)/\0<(g.length:Int))/\kI 95 [.dg 9 I,.j J] e (λe f=>kAB 2 41 [.sv a 4 c d,
 .dg 9 (List.getD g 0 default),.j e] f (λx b a=>Br (!b) (uP a (Q (D.ag [D.j 0,D.sl none 2 [] 0]) false)) (∃ b:Int,(I.cell 0)=D.j b/\Br
 (b==10) (kA 2 54 [.dg 2 x] a (λa b=>uP b (Q a true))) (∃ b:Int,(I.cell 0)=D.j b/\Br (b==13) (kA 2 54 [.dg 2 x] a (λa b=>
 kB 66 [.dg 2 x] b (λb c=>uP c (Q a b)))) (∃ b:Int,(x.cell 0)=D.j b/\Br (b==4) (∃ b c,∃ d:Nat,(x.cell 1)=D.sl b 2
 c d/\((0:Int)<=(0:Int)/\0<(c.length:Int))/\kA 2 73 [.dg 2 (List.getD c 0 default)] a (λa b=>uP b (Q a true))) (uP a (Q
 (D.ag [D.j 0,D.sl none 2 [] 0]) false))))))))) (∃ a b,∃ c:Nat,(I.cell 8)=D.sl a 9 b c/\((0:Int)<=(0:Int)/\0<(b.length:Int))
 /\ kI 95 [.dg 9 I,.j J] N (λa c=>kAB 2 41 [.sv a0 4 e0 c0,.dg 9 (List.getD b 0 default),.j a] c (λa b c=>Br (!b) (uP c (Q
 (D.ag [D.j 0,D.sl none 2 [] 0]) false)) (∃ b:Int,(I.cell 0)=D.j b/\Br (b==10) (kA 2 54 [.dg 2 a] c (λa b=>uP b (Q a true))) (∃
 b:Int,(I.cell 0)=D.j b/\Br (b==13) (kA 2 54 [.dg 2 a] c (λb c=>kB 66 [.dg 2 a] c (λa c=>uP c (Q b a)))) (∃ b :
 Int,(a.cell 0)=D.j b/\Br (b==4) (∃ b d,∃ e:Nat,(a.cell 1)=D.sl b 2 d e/\((0:Int)<=(0:Int)/\0<(d.length:Int)) /\
 kA 2 73 [.dg 2 (List.getD d 0 default)] c (λa b=>uP b (Q a true))) (uP c (Q (D.ag [D.j 0,D.sl none 2 [] 0]) false))))))))):ACalls prog 97 [.ag 2,.bool] [PV.sv a0 4 e0 c0,PV.dg 9 I,PV.int .i64 J] N Q:=
  eE zDg h
theorem zIT (N:Nat) (s0:ByteArray) (a1:Option Addr) (e1:List D) (c1:Nat) (Q:QT [.ag 2,.bool]) (h :
Bel N (D.sl a1 2 e1 c1)->Br (ByteArray.toList s0==ByteArray.toList (bytes [38])) (yM Q N s0 a1 e1 c1 2 0 0 none [] 0 N) (Br (ByteArray.toList
 s0==ByteArray.toList (bytes [124])) (yM Q N s0 a1 e1 c1 2 0 0 none [] 0 N) (Br (ByteArray.toList s0==ByteArray.toList (bytes [33]))
 (yM Q N s0 a1 e1 c1 2 0 0 none [] 0 N) (yM Q N s0 a1 e1 c1 1 0 0 none [] 0 N)))):ACalls prog 108 [.ag 2,.bool] [PV.str s0,PV.sv a1 2 e1 c1] N Q:=
  eE zCQ h
theorem zFk (N:Nat) (I:D) (a1:Option Addr) (e1:List D) (c1:Nat) (Q:QT [.ag 2,.bool]) (h :
Bel N I->Bel N (D.sl a1 2 e1 c1)->∃ n:Int,(I.cell 0)=D.j n/\Br (n==4) (∃ s,(I.cell 1)=D.t s/\kAB 2 108 [.str s,.sv a1 2 e1 c1] N (λx b
 a=>uP a (Q x b))) (Br (n==5) (((0:Int)<=(1:Int)/\1<(e1.length:Int))/\((0:Int)<=(0:Int)/\0<(e1.length:Int))/\∃ a:Int,(if 0=0
 then D.cell (List.getD e1 0 default) 0 else D.sub (List.getD e1 0 default) 0 0)=D.j a/\Br (a==2) (((0:Int)<=(1:Int)/\1<(e1.length:Int))/\((0
 : Int)<=(2:Int)/\2<(e1.length:Int))/\kB 19 [.dg 2 (List.getD e1 1 default),.dg 2 (List.getD e1 2 default)] N (λa b=>uP b (Q (List.getD e1 1
 default) a))) (uP N (Q (List.getD e1 1 default) false))) (((0:Int)<=(0:Int)/\0<(e1.length:Int))/\∃ b:Int,(if 0=0 then D.cell (List.getD e1 0
 default) 0 else D.sub (List.getD e1 0 default) 0 0)=D.j b/\Br (b==3) (((0:Int)<=(0:Int)/\0<(e1.length:Int))/\∃ a b,∃ c:Nat,(if 0=0
 then D.cell (List.getD e1 0 default) 1 else D.sub (List.getD e1 0 default) 1 0)=D.sl a 2 b c/\((0:Int)<=(0:Int)/\0<(b.length:Int))/\((0:Int) <=
 (1:Int)/\1<(e1.length:Int))/\kB 19 [.dg 2 (List.getD b 0 default),.dg 2 (List.getD e1 1 default)] N (λa b=>Br a (((0:Int)<=(0:Int)/\0
 < (e1.length:Int))/\∃ a c,∃ d:Nat,(if 0=0 then D.cell (List.getD e1 0 default) 1 else D.sub (List.getD e1 0 default) 1 0)=D.sl a 2 c d
 /\ ((0:Int)<=(1:Int)/\1<(c.length:Int))/\kA 2 73 [.dg 2 (List.getD c 1 default)] b (λa b=>uP b (Q a true))) (uP b (Q (D.ag [D.j
 0,D.sl none 2 [] 0]) false)))) (uP N (Q (D.ag [D.j 0,D.sl none 2 [] 0]) false))))):ACalls prog 98 [.ag 2,.bool] [PV.dg 9 I,PV.sv a1 2 e1 c1] N Q:=
  eE zFD h
theorem zFn (N:Nat) (a0:Option Addr) (e0:List D) (c0:Nat) (I:D) (J:Int) (Q:QT [.ag 2,.bool]) (h :
Bel N (D.sl a0 4 e0 c0)->Bel N I->∃ n:Int,(I.cell 0)=D.j n/\Br (n==1) (∃ s,(I.cell 1)=D.t s/\kI 84 [.sv a0 4 e0 c0,.str s] N (λa b
 => Br (decide (a<0)) (uP b (Q (D.ag [D.j 0,D.sl none 2 [] 0]) false)) ((0<=a/\a<(e0.length:Int))/\∃ c:Int,(if 0=0 then D.cell (List.getD
 e0 a.toNat default) 3 else D.sub (List.getD e0 a.toNat default) 3 0)=D.j c/\Br (bne c J) (uP b (Q (D.ag [D.j 0,D.sl none 2 [] 0]) false)) ((0 <=
 a/\a<(e0.length:Int))/\kA 2 73 [.dg 2 (if 2=0 then D.cell (List.getD e0 a.toNat default) 1 else D.sub (List.getD e0 a.toNat default) 1 2)] b
 (λx a=>uP a (Q x true)))))) (Br (n==2) (kA 2 52 [] N (λa b=>uP b (Q a true))) (Br (n==3) (kA 2 53 [] N (λa b=>uP b (Q a
 true))) (Br (n==6) (kAB 2 96 [.sv a0 4 e0 c0,.dg 9 I,.j J] N (λa b c=>uP c (Q a b))) (Br (n==8) (kAB 2 96 [.sv a0 4 e0 c0,.dg 9 I,.j J]
 N (λa b c=>uP c (Q a b))) (Br (n==9) (kAB 2 96 [.sv a0 4 e0 c0,.dg 9 I,.j J] N (λa b c=>uP c (Q a b))) (Br (n==10)
 (kAB 2 97 [.sv a0 4 e0 c0,.dg 9 I,.j J] N (λa b c=>uP c (Q a b))) (Br (n==11) (kAB 2 97 [.sv a0 4 e0 c0,.dg 9 I,.j J] N (λa b
 c=>uP c (Q a b))) (Br (n==12) (kAB 2 97 [.sv a0 4 e0 c0,.dg 9 I,.j J] N (λa b c=>uP c (Q a b))) (Br (n==13) (kAB 2 97 [.sv a0
 4 e0 c0,.dg 9 I,.j J] N (λa b c=>uP c (Q a b))) (yn Q N a0 e0 c0 J 0 0 0 I 0 none [] 0 [] 0 N))))))))))):ACalls prog 72 [.ag 2,.bool] [PV.sv a0 4 e0 c0,PV.dg 9 I,PV.int .i64 J] N Q:=
  eE zAD h
theorem zGB (N:Nat) (a0:Option Addr) (e0:List D) (c0:Nat) (x1:D) (n2:Int) (Q:QT [.ag 2,.bool]) (h :
Bel N (D.sl a0 4 e0 c0)->Bel N x1->kAB 2 72 [.sv a0 4 e0 c0,.dg 9 x1,.j n2] N (fun x b a=>Br (!b) (uP a (Q (D.ag [D.j 0,D.sl none 2 [] 0]) false))
 (kB 69 [.dg 2 x] a (fun a b=>Br (!a) (uP b (Q (D.ag [D.j 0,D.sl none 2 [] 0]) false)) (uP b (Q x true)))))):ACalls prog 41 [.ag 2,.bool] [PV.sv a0 4 e0 c0,PV.dg 9 x1,PV.int .i64 n2] N Q:=
  eE zGV h
theorem zFg (N:Nat) (a0:Option Addr) (e0:List D) (c0:Nat) (I:D) (J:Int) (Q:QT [.ag 2,.bool]) (h :
Bel N (D.sl a0 4 e0 c0)->Bel N I->kB 39 [.sv a0 4 e0 c0] N (λb a=>Br (!b) (uP a (Q (D.ag [D.j 0,D.sl none 2 [] 0]) false)) (kB 40 [.dg 9 I,.j
 J] a (λa b=>Br (!a) (uP b (Q (D.ag [D.j 0,D.sl none 2 [] 0]) false)) (kAB 2 41 [.sv a0 4 e0 c0,.dg 9 I,.j J] b (λx a b=>uP b (Q x
 a))))))):ACalls prog 18 [.ag 2,.bool] [PV.sv a0 4 e0 c0,PV.dg 9 I,PV.int .i64 J] N Q:=
  eE zGH h
theorem sj (Q:QT [.bool]) (N0:Nat) (J:ByteArray) (I:Int) (N:Nat) (h :
Br (decide (I<(J.size:Int))) ((0<=I/\I<(J.size:Int))/\Br (decide ((UInt8.toNat (Array.getD (ByteArray.data J) I.toNat (OfNat.ofNat 0)) :
 Int)≥97)) ((0<=I/\I<(J.size:Int))/\Br (!(decide ((UInt8.toNat (Array.getD (ByteArray.data J) I.toNat (OfNat.ofNat 0)):Int)<=122))) (Br (I ==
 0) (uP N (Q false)) ((0<=I/\I<(J.size:Int))/\Br (decide ((UInt8.toNat (Array.getD (ByteArray.data J) I.toNat (OfNat.ofNat 0)):Int)<48)) (uP N (Q
 false)) ((0<=I/\I<(J.size:Int))/\Br (decide ((UInt8.toNat (Array.getD (ByteArray.data J) I.toNat (OfNat.ofNat 0)):Int)>57)) (uP N (Q false))
 (yZ Q N0 J (IntKind.i64.wrap (I+1)) N)))) (yZ Q N0 J (IntKind.i64.wrap (I+1)) N)) (Br (I==0) (uP N (Q false)) ((0<=I/\I
 < (J.size:Int))/\Br (decide ((UInt8.toNat (Array.getD (ByteArray.data J) I.toNat (OfNat.ofNat 0)):Int)<48)) (uP N (Q false)) ((0<=I/\I<(J.size
 : Int))/\Br (decide ((UInt8.toNat (Array.getD (ByteArray.data J) I.toNat (OfNat.ofNat 0)):Int)>57)) (uP N (Q false)) (yZ Q N0 J
 (IntKind.i64.wrap (I+1)) N))))) (kB 31 [.j (J.size:Int),.j 1,.j 4] N (λb a=>Br b (Br (!(ByteArray.toList J==ByteArray.toList (bytes [105,
 102]))) (Br (!(ByteArray.toList J==ByteArray.toList (bytes [108,101,116]))) (Br (!(ByteArray.toList J==ByteArray.toList (bytes [114,101,99]))) (Br
 (!(ByteArray.toList J==ByteArray.toList (bytes [114,117,110]))) (∀ b,a<=b->Q (!(ByteArray.toList J==ByteArray.toList (bytes [108,105,102,
 116]))) b) (uP a (Q false))) (uP a (Q false))) (uP a (Q false))) (uP a (Q false))) (uP a (Q false))))):yZ Q N0 J I N:=
  hE qz h
theorem sY (Q:QT [.int .i64]) (N0:Nat) (n1 n5:Int) (y0:D) (N:Nat) (h :
∃ a b,∃ c:Nat,(y0.cell 1)=D.sl a 2 b c/\Br (decide (n5<(b.length:Int))) (Br (decide (n1≥0)) (∃ a b,∃ c:Nat,(y0.cell 1)=D.sl
 a 2 b c/\(0<=n5/\n5<(b.length:Int))/\kI 91 [.dg 2 (List.getD b n5.toNat default),.j n1] N (fun n a=>wE Q N0 n
 (IntKind.i64.wrap (n5+1)) y0 a)) (uP N (Q n1))) (uP N (Q n1))):wE Q N0 n1 n5 y0 N:=
  hE pV h
theorem vS (Q:QT [.int .i64]) (N0:Nat) (O I:Int) (J:D) (N:Nat) (h :
∃ a b,∃ c:Nat,(J.cell 1)=D.sl a 2 b c/\Br (decide (I<(b.length:Int))) (∃ a b,∃ c:Nat,(J.cell 1)=D.sl a 2 b c/\(0<=I
 /\ I<(b.length:Int))/\kI 92 [.dg 2 (List.getD b I.toNat default)] N (λn a=>kI 105 [.j O,.j n] a (λa b=>yW Q N0
 a (IntKind.i64.wrap (I+1)) J b))) (uP N (Q (IntKind.i64.wrap (O+1))))):yW Q N0 O I J N:=
  hE uY h
theorem sg (Q:QT [.bool]) (N0:Nat) (n3:Int) (y0:D) (N:Nat) (h :
∃ a d,∃ c:Nat,(y0.cell 1)=D.sl a 2 d c/\Br (decide (n3<(d.length:Int))) (∃ a c,∃ d:Nat,(y0.cell 1)=D.sl a 2 c d/\(0<=n3
 /\ n3<(c.length:Int))/\kB 93 [.dg 2 (List.getD c n3.toNat default)] N (fun b a=>Br (!b) (uP a (Q false)) (wb Q N0 (IntKind.i64.wrap
 (n3+1)) y0 a))) (∃ n:Int,(y0.cell 0)=D.j n/\Br (n==1) (∃ a b,∃ c:Nat,(y0.cell 1)=D.sl a 2 b c/\uP N (Q ((b.length:Int) ==
 0))) (Br (n==2) (∃ a b,∃ c:Nat,(y0.cell 1)=D.sl a 2 b c/\uP N (Q ((b.length:Int)==0))) (Br (n==3) (∃ a b,∃ c:Nat,
 (y0.cell 1)=D.sl a 2 b c/\uP N (Q ((b.length:Int)==2))) (Br (n==4) (∃ a b,∃ c:Nat,(y0.cell 1)=D.sl a 2 b c/\uP N (Q
 ((b.length:Int)==1))) (uP N (Q false))))))):wb Q N0 n3 y0 N:=
  hE qX h
theorem qE (Q:QT [.bool]) (N0:Nat) (a0:Option Addr) (e0:List D) (c0:Nat) (n3:Int) (N:Nat) (h :
Br (decide (n3<(e0.length:Int))) ((0<=n3/\n3<(e0.length:Int))/\∃ s,(if 0=0 then D.cell (List.getD e0 n3.toNat default) 0 else D.sub
 (List.getD e0 n3.toNat default) 0 0)=D.t s/\kB 68 [.str s] N (fun b a=>Br (!b) (uP a (Q false)) ((0<=n3/\n3<(e0.length:Int))/\kB 69 [.dg 2 (if 2 =
 0 then D.cell (List.getD e0 n3.toNat default) 1 else D.sub (List.getD e0 n3.toNat default) 1 2)] a (fun a b=>Br (!a) (uP b (Q false)) ((0<=n3/\n3 <
 (e0.length:Int))/\∃ n:Int,(if 0=0 then D.cell (List.getD e0 n3.toNat default) 3 else D.sub (List.getD e0 n3.toNat default) 3 0)=D.j n/\kB 31 [.j n,
 .j 0,.j 2] b (fun a b=>Br (!a) (uP b (Q false)) (wv Q N0 a0 e0 c0 (IntKind.i64.wrap (n3+1)) b))))))) (∀ a,N<=a->Q (decide
 ((e0.length:Int)<=12)) a)):wv Q N0 a0 e0 c0 n3 N:=
  hE zBD h
theorem rH (Q:QT [.bool]) (N0:Nat) (J:Int) (I:D) (N:Nat) (h :
∃ a d,∃ c:Nat,(I.cell 8)=D.sl a 9 d c/\Br (decide (J<(d.length:Int))) (∃ a c,∃ d:Nat,(I.cell 8)=D.sl a 9 c d/\(0<=J
 /\ J<(c.length:Int))/\kB 70 [.dg 9 (List.getD c J.toNat default)] N (λb a=>Br (!b) (uP a (Q false)) (wc Q N0 (IntKind.i64.wrap
 (J+1)) I a))) (kB 94 [.dg 9 I] N (λa b=>Br a (∃ a c,∃ d:Nat,(I.cell 8)=D.sl a 9 c d/\kI 81 [.dg 9 I] b (λn a=>uP
 a (Q ((c.length:Int)==n)))) (uP b (Q false))))):wc Q N0 J I N:=
  hE qW h
theorem qv (Q:QT [.bool]) (N0:Nat) (n1 I:Int) (J:D) (N:Nat) (h :
∃ a d,∃ c:Nat,(J.cell 8)=D.sl a 9 d c/\Br (decide (I<(d.length:Int))) (∃ a c,∃ d:Nat,(J.cell 8)=D.sl a 9 c d/\(0<=I
 /\ I<(c.length:Int))/\kI 95 [.dg 9 J,.j n1] N (λn a=>kB 71 [.dg 9 (List.getD c I.toNat default),.j n] a (λb a=>Br (!b) (uP a (Q
 false)) (vb Q N0 n1 (IntKind.i64.wrap (I+1)) J a)))) (uP N (Q true))):vb Q N0 n1 I J N:=
  hE zCA h
theorem s8 (Q:QT [.int .i64]) (N0:Nat) (a0:Option Addr) (e0:List D) (c0:Nat) (s1:ByteArray) (n5:Int) (N:Nat) (h :
Br (decide (n5≥0)) ((0<=n5/\n5<(e0.length:Int))/\∃ s,(if 0=0 then D.cell (List.getD e0 n5.toNat default) 0 else D.sub (List.getD e0 n5.toNat
 default) 0 0)=D.t s/\Br (ByteArray.toList s==ByteArray.toList s1) (uP N (Q n5)) (wQ Q N0 a0 e0 c0 s1 (IntKind.i64.wrap (n5 - 1)) N)) (uP N (Q
 (-1)))):wQ Q N0 a0 e0 c0 s1 n5 N:=
  hE qr h
theorem sS (Q:QT [.ag 2]) (N0:Nat) (n4:Int) (y0:D) (Y:Int) (aa:Option Addr) (ab:List D) (ac:Nat) (J:Int) (O:Option Addr) (I:List D) (U:Nat) (N:Nat) (h :
∃ a b,∃ c:Nat,(y0.cell 1)=D.sl a 2 b c/\Br (decide (n4<(b.length:Int))) (∃ a b,∃ c:Nat,(y0.cell 1)=D.sl a 2 b c/\(0<=n4
 /\ n4<(b.length:Int))/\kA 2 73 [.dg 2 (List.getD b n4.toNat default)] N (λx a=>zLT O I U [x]/\zA I [x] 32/\∀ (b:Nat),
 xD Q N0 (IntKind.i64.wrap (n4+1)) y0 Y aa ab ac J (I++[x]).length b (I++[x]) b a)) (uP N (Q (D.ag [D.j J,D.sl
 O 2 I U])))):v4 Q N0 n4 y0 Y aa ab ac J O I U N:=
  hE te h
theorem uL (Q:QT [.bool]) (N0:Nat) (I:Int) (J O:D) (N:Nat) (h :
∃ a d,∃ c:Nat,(J.cell 1)=D.sl a 2 d c/\Br (decide (I<(d.length:Int))) (∃ a c,∃ d:Nat,(J.cell 1)=D.sl a 2 c d/\(0<=I
 /\ I<(c.length:Int))/\∃ a d,∃ e:Nat,(O.cell 1)=D.sl a 2 d e/\(0<=I/\I<(d.length:Int))/\kB 19 [.dg 2 (List.getD c
 I.toNat default),.dg 2 (List.getD d I.toNat default)] N (λb a=>Br (!b) (uP a (Q false)) (yQ Q N0 (IntKind.i64.wrap (I+1)) J O
 a))) (uP N (Q true))):yQ Q N0 I J O N:=
  hE tk h
theorem t6 (Q:QT [.sl 4]) (N0:Nat) (a0:Option Addr) (e0:List D) (c0:Nat) (n1:Int) (O U:Nat) (I:Int) (r0:List D) (J:Nat) (N:Nat) (h :
Br (decide (I<(e0.length:Int))) ((0<=I/\I<(e0.length:Int))/\kB 66 [.dg 2 (if 2=0 then D.cell (List.getD e0 I.toNat default) 1 else D.sub
 (List.getD e0 I.toNat default) 1 2)] N (λb a=>Br b ((0<=I/\I<(e0.length:Int))/\∃ n:Int,(if 0=0 then D.cell (List.getD e0 I.toNat default)
 3 else D.sub (List.getD e0 I.toNat default) 3 0)=D.j n/\Br (decide (n<=n1)) ((0<=I/\I<(e0.length:Int))/\∃ s,(if 0=0 then D.cell (List.getD e0
 I.toNat default) 0 else D.sub (List.getD e0 I.toNat default) 0 0)=D.t s/\kI 84 [.sv a0 4 e0 c0,.str s] a (λa b=>Br (a==I) ((0<=I/\I <
 (e0.length:Int))/\∃ a,(if 0=0 then D.cell (List.getD e0 I.toNat default) 0 else D.sub (List.getD e0 I.toNat default) 0 0)=D.t a/\(0<=I/\I <
 (e0.length:Int))/\(0<=I/\I<(e0.length:Int))/\∃ d:Int,(if 0=0 then D.cell (List.getD e0 I.toNat default) 3 else D.sub (List.getD e0 I.toNat
 default) 3 0)=D.j d/\kA 2 73 [.dg 2 (if 2=0 then D.cell (List.getD e0 I.toNat default) 1 else D.sub (List.getD e0 I.toNat default) 1 2)] b (λx b
 => (O=r0.length/\U=J)/\zA r0 [D.ag [D.t a,(x.cell 0),(x.cell 1),D.j d]] 56/\∀ (c:Nat),zx Q N0 a0 e0 c0 n1 (r0++[D.ag
 [D.t a,(x.cell 0),(x.cell 1),D.j d]]).length c (IntKind.i64.wrap (I+1)) (r0++[D.ag [D.t a,(x.cell 0),(x.cell 1),D.j d]]) c b))
 (zx Q N0 a0 e0 c0 n1 O U (IntKind.i64.wrap (I+1)) r0 J b))) (zx Q N0 a0 e0 c0 n1 O U (IntKind.i64.wrap (I+1)) r0 J a))
 (zx Q N0 a0 e0 c0 n1 O U (IntKind.i64.wrap (I+1)) r0 J a))) (w3 (O=r0.length/\U=J) (∀ a b,N<=b->Fresh N0 b a [D.ag r0]->uP
 b (Q a r0 J)))):zx Q N0 a0 e0 c0 n1 O U I r0 J N:=
  hE qD h
theorem pK (Q:QT [.ag 2,.bool]) (N0:Nat) (s0:ByteArray) (a1:Option Addr) (e1:List D) (c1:Nat) (n6 Y I:Int) (J:Option Addr) (O:List D) (U:Nat) (N:Nat) (h :
Br (decide (Y<(e1.length:Int))) ((0<=Y/\Y<(e1.length:Int))/\∃ n:Int,(if 0=0 then D.cell (List.getD e1 Y.toNat default) 0 else D.sub
 (List.getD e1 Y.toNat default) 0 0)=D.j n/\Br (bne n n6) (uP N (Q (D.ag [D.j 0,D.sl none 2 [] 0]) false)) (yM Q N0 s0 a1 e1 c1 n6
 (IntKind.i64.wrap (Y+1)) I J O U N)) (Br (ByteArray.toList s0==ByteArray.toList (bytes [43])) (kA 2 52 [] N (λx a=>uP a (Q x true))) (Br
 (ByteArray.toList s0==ByteArray.toList (bytes [45])) (kA 2 52 [] N (λa b=>uP b (Q a true))) (Br (ByteArray.toList s0==ByteArray.toList (bytes
 [42])) (kA 2 52 [] N (λa b=>uP b (Q a true))) (kA 2 53 [] N (λa b=>uP b (Q a true))))))):yM Q N0 s0 a1 e1 c1 n6 Y I J O U N:=
  hE zCQ h
theorem tl (Q:QT [.ag 2,.bool]) (N0:Nat) (a0:Option Addr) (e0:List D) (c0:Nat) (n2:Int) (ab J:Nat) (I:Int) (y0:D) (O:Int) (U:Option Addr) (Y:List D) (aa:Nat) (r2:List D) (q2:Nat) (N:Nat) (h :
∃ a d,∃ c:Nat,(y0.cell 8)=D.sl a 9 d c/\Br (decide (I<(d.length:Int))) (∃ a c,∃ d:Nat,(y0.cell 8)=D.sl a 9 c d/\(0 <=
 I/\I<(c.length:Int))/\kAB 2 41 [.sv a0 4 e0 c0,.dg 9 (List.getD c I.toNat default),.j n2] N (λx b a=>Br (!b) (uP a (Q (D.ag [D.j 0,
 D.sl none 2 [] 0]) false)) ((ab=r2.length/\J=q2)/\zA r2 [x] 32/\∀ (b:Nat),yn Q N0 a0 e0 c0 n2 (r2++[x]).length b
 (IntKind.i64.wrap (I+1)) y0 O U Y aa (r2++[x]) b a))) ((ab=r2.length/\J=q2)/\∀ a,ApA a r2->Off [a] y0->∀ b,N<=b->ux
 b [a]->ACalls prog 98 [.ag 2,.bool] [.dg 9 y0,.sv a 2 r2 J] b (λc d e=>b<=e->Off [a] c/\(Bel e c->uP e (Q c d))))):yn Q N0 a0 e0 c0 n2 ab J I y0 O U Y aa r2 q2 N:=
  hE zAD h
theorem uM (Q:QT [.ag 2]) (N0:Nat) (n4:Int) (y0:D) (U:Int) (Y:Option Addr) (aa:List D) (ab:Nat) (I:Int) (J O:Nat) (r3:List D) (q3:Nat) (N:Nat) (h :
∃ a b,∃ c:Nat,(y0.cell 1)=D.sl a 2 b c/\Br (decide (n4<(b.length:Int))) (∃ a b,∃ c:Nat,(y0.cell 1)=D.sl a 2 b c/\(0<=n4
 /\ n4<(b.length:Int))/\kA 2 73 [.dg 2 (List.getD b n4.toNat default)] N (λx a=>(J=r3.length/\O=q3)/\zA r3 [x] 32/\∀ (b :
 Nat),xD Q N0 (IntKind.i64.wrap (n4+1)) y0 U Y aa ab I (r3++[x]).length b (r3++[x]) b a)) (w3 (J=r3.length/\O =
 q3) (∀ a b,N<=b->Fresh N0 b a [D.ag r3]->uP b (Q (D.ag [D.j I,D.sl a 2 r3 q3]))))):xD Q N0 n4 y0 U Y aa ab I J O r3 q3 N:=
  hE te h
end Go.Proofs.YtnmnahkkcfghjaaGreat
