/- Printed by gen.py: what the functions come to. -/
import Derived.Test.YtlahkdflngobiaaGreatDoorJh
set_option linter.unusedVariables false
set_option maxRecDepth 100000
namespace Go.Proofs.YtlahkdflngobiaaGreatDoor
open Go Go.Proofs Go.Proofs.Tryz
def zB6:Hint:=⟨[hc 2 [0,3]],[],[]⟩
def zCP:Hint:=⟨[hc 3 [1,2,5]],[],[(5,hs 8 [ec 6 [23]])]⟩
def sU:Hint:=⟨[hc 3 [1,3,4]],[],[(5,hs 9 [ec 6 [17]])]⟩
def zBb:Hint:=⟨[hc 2 [1,3]],[],[(4,hs 7 [ec 5 [15]])]⟩
def zBu:Hint:=⟨[],[],[(1,hs 13 [ec 1 [3],ec 5 [7],ec 10 [12]])]⟩
def zF4:Hint:=⟨[],[],[(2,hs 15 [ec 3 [15],ec 11 [23]]),(4,[en 0,en 1,en 2,en 3,en 4,ec 5 [32],en 6,en 7,en 8,en 9,en 10,en 11,en 12,en 13,ec 14 [41],en 15,en 16,en 17]),(12,hs 9 [ec 6 [57]])]⟩
def zBZ:Hint:=⟨[hc 2 [1,3]],[],[(4,hs 7 [ec 5 [15]]),(6,[en 0,ec 1 [18],en 2,en 3,en 4,en 5,en 6,ec 7 [24],en 8,en 9,en 10])]⟩
def zB0:Hint:=⟨[hc 2 [0,1,5]],[],[]⟩
def r7:Hint:=⟨[hc 3 [1,2,3,4]],[],[(5,[en 0,en 1,en 2,en 3,en 4,en 5,en 6,ec 7 [21],en 8,eh 9,en 10,eh 11])]⟩
def zLF:Hint:=⟨[],[],[(1,[en 0,en 2,ec 1 [5],ec 3 [7],en 4,en 5,eh 6])]⟩
def qF:Hint:=⟨[hc 4 [2,3,5]],[],[(6,[en 0,en 1,en 2,en 3,en 4,en 5,en 6,en 7,en 8,en 9,ec 10 [31,36],en 11])]⟩
def zJP:Hint:=⟨[],[],[(3,[en 0,en 1,en 2,en 3,en 4,en 5,en 7,en 8,en 9,en 10,en 11,en 16,ec 6 [26],ec 12 [32],en 13,en 14,en 15,eh 17,en 18]),(4,hs 7 [ec 3 [38,39]]),(6,hs 13 [ec 6 [49]]),(9,[en 0,en 1,en 2,en 3,en 4,en 6,en 7,en 8,en 9,en 10,en 15,ec 5 [61],ec 11 [67],en 12,en 13,en 14,eh 16,en 17]),(11,hs 7 [ec 4 [75,77]]),(12,[en 0,en 1,en 2,en 3,en 4,en 6,en 7,en 8,en 9,en 10,en 12,en 13,en 14,en 15,en 16,en 21,ec 5 [83],ec 11 [89],ec 17 [95],en 18,en 19,en 20,eh 22,en 23]),(13,[en 0,en 1,en 2,en 3,en 4,en 5,ec 6 [103,105],en 7,eh 8,en 9])]⟩
def zAt:Hint:=⟨[hc 3 [0,1,5,6] [(5,127,4)]],[],[(5,hs 26 [ec 5 [18]]),(6,[en 0,en 1,en 2,en 3,en 4,en 5,en 6,en 7,en 8,en 9,en 10,en 12,en 13,en 14,en 15,en 16,ec 11 [50],en 17,en 18,eh 19,eh 20])]⟩
def zJB:Hint:=⟨[],[],[(1,hs 5 [ec 1 [3]])]⟩
def zG3:Hint:=⟨[],[],[(3,[en 0,en 1,en 2,en 3,en 4,en 5,en 6,en 12,ec 7 [22],ec 8 [21],en 9,en 10,en 11,eh 13,en 14]),(7,hs 4 [ec 1 [36]]),(9,[en 0,en 2,ec 1 [42],ec 3 [44],eh 4,en 5]),(11,hs 7 [ec 4 [53]])]⟩
def zFc:Hint:=⟨[hc 5 [0,1,4,6,7]],[],[]⟩
def zIf:Hint:=⟨[],[],[(6,[en 0,en 1,en 2,en 3,en 4,en 5,en 6,en 7,en 8,en 9,en 10,en 11,en 12,en 13,en 14,ec 15 [34,37],en 16,eh 17,en 18]),(7,[en 0,en 1,en 2,en 3,en 4,en 5,en 6,en 7,en 8,en 9,en 10,en 11,en 12,en 13,en 14,ec 15 [51,54],en 16]),(8,hs 9 [ec 6 [62]])]⟩
def zCr:Hint:=⟨[hc 24 [0,2,4,6,13,14] [(13,33,2)]],[],[(6,hs 8 [ec 5 [43]]),(14,hs 10 [ec 3 [57]]),(20,hs 10 [ec 3 [71]]),(26,hs 14 [ec 7 [92]]),(30,hs 9 [ec 2 [105]])]⟩
def zJu:Hint:=⟨[],[],[(1,hs 10 [ec 3 [12]]),(2,hs 7 [ec 4 [20]])]⟩
def xP (Q:QT [.bool]) (N0:Nat) (s0:ByteArray) (n3:Int) (N:Nat):Prop:=AT prog 151 [.bool] Q N0 .ord (zD prog 151 2) ⟨.str s0::an 2 (.int .i64 n3::an 58 []),[],N,none⟩
def vf (Q:QT [.int .i64]) (N0:Nat) (n1 I:Int) (J:D) (N:Nat):Prop:=AT prog 187 [.int .i64] Q N0 .ord (zD prog 187 3) ⟨an 1 (.int .i64 n1::.pb 0 0 0 0::an 2 (.int .i64 I::an 21 [])),[.vd J 2],N,none⟩
def xH (Q:QT [.int .i64]) (N0:Nat) (n3 I:Int) (J:D) (N:Nat):Prop:=AT prog 188 [.int .i64] Q N0 .ord (zD prog 188 3) ⟨an 1 (.pb 0 0 0 0::an 1 (.int .i64 n3::.int .i64 I::an 17 [])),[.vd J 2],N,none⟩
def uF (Q:QT [.bool]) (N0:Nat) (n3:Int) (I:D) (N:Nat):Prop:=AT prog 189 [.bool] Q N0 .ord (zD prog 189 2) ⟨an 1 (.pb 0 0 0 0::an 1 (.int .i64 n3::an 35 [])),[.vd I 2],N,none⟩
def uG (Q:QT [.bool]) (N0:Nat) (n3:Int) (I:D) (N:Nat):Prop:=AT prog 155 [.bool] Q N0 .ord (zD prog 155 2) ⟨an 1 (.pb 0 0 0 0::an 1 (.int .i64 n3::an 24 [])),[.vd I 9],N,none⟩
def vu (Q:QT [.int .i64]) (N0:Nat) (a0:Option Addr) (e0:List D) (I:Nat) (J:ByteArray) (O:Int) (N:Nat):Prop:=AT prog 183 [.int .i64] Q N0 .ord (zD prog 183 2) ⟨.sv a0 4 e0 I::.str J::an 3 (.int .i64 O::an 15 []),[],N,none⟩
def te (Q:QT [.ag 2]) (N0:Nat) (n4:Int) (y0:D) (I:Int) (J:Option Addr) (O:List D) (aa:Nat) (ab:Int) (ac:Option Addr) (ae:List D) (ah:Nat) (N:Nat):Prop:=AT prog 76 [.ag 2] Q N0 .ord (zD prog 76 3) ⟨an 1 (.pb 0 0 0 0::.pb 1 0 0 0::.pb 2 0 0 0::.int .i64 n4::an 22 []),[.vd y0 2,.var [.int .i64 I,.sv J 2 O aa],.var [.int .i64 ab,.sv ac 2 ae ah]],N,none⟩
def y5 (Q:QT [.bool]) (N0:Nat) (I:Int) (J O:D) (N:Nat):Prop:=AT prog 68 [.bool] Q N0 .ord (zD prog 68 4) ⟨an 2 (.pb 0 0 0 0::.pb 1 0 0 0::an 1 (.int .i64 I::an 33 [])),[.vd J 2,.vd O 2],N,none⟩
def yY (Q:QT [.sl 4]) (N0:Nat) (a0:Option Addr) (e0:List D) (I:Nat) (n1:Int) (J O:Nat) (n6:Int) (r0:List D) (q0:Nat) (N:Nat):Prop:=AT prog 211 [.sl 4] Q N0 .ord (zD prog 211 3) ⟨.sv a0 4 e0 I::.int .i64 n1::an 3 (.sb 0 4 0 J O::.int .i64 n6::an 54 []),[.arr 127 4 r0 q0],N,none⟩
def yr (Q:QT [.ag 2,.bool]) (N0:Nat) (s0:ByteArray) (a1:Option Addr) (e1:List D) (c1:Nat) (n6 n7 I:Int) (J:Option Addr) (O:List D) (aa:Nat) (N:Nat):Prop:=AT prog 213 [.ag 2,.bool] Q N0 .ord (zD prog 213 5) ⟨.str s0::.sv a1 2 e1 c1::an 2 (.pb 0 0 0 0::an 1 (.int .i64 n6::.int .i64 n7::an 36 [])),[.var [.int .i64 I,.sv J 2 O aa]],N,none⟩
def xt (Q:QT [.ag 2,.bool]) (N0:Nat) (a0:Option Addr) (e0:List D) (c0:Nat) (n2:Int) (ab ac:Nat) (n14:Int) (y0:D) (I:Int) (J:Option Addr) (O:List D) (aa:Nat) (r2:List D) (q2:Nat) (N:Nat):Prop:=AT prog 156 [.ag 2,.bool] Q N0 .ord (zD prog 156 24) ⟨.sv a0 4 e0 c0::an 1 (.int .i64 n2::an 1 (.pb 0 0 0 0::an 1 (.pb 1 0 0 0::an 6 (.sb 2 2 0 ab ac::.int .i64 n14::an 97 [])))),[.vd y0 9,.var [.int .i64 I,.sv J 2 O aa],.arr 33 2 r2 q2],N,none⟩
def wL (Q:QT [.ag 2]) (N0:Nat) (n4:Int) (y0:D) (I:Int) (J:Option Addr) (O:List D) (aa:Nat) (ab:Int) (ac ae:Nat) (r3:List D) (q3:Nat) (N:Nat):Prop:=AT prog 76 [.ag 2] Q N0 .ord (zD prog 76 3) ⟨an 1 (.pb 0 0 0 0::.pb 1 0 0 0::.pb 2 0 0 0::.int .i64 n4::an 22 []),[.vd y0 2,.var [.int .i64 I,.sv J 2 O aa],.var [.int .i64 ab,.sb 3 2 0 ac ae],.arr 33 2 r3 q3],N,none⟩
theorem zMt (N:Nat) (n0 n1 n2:Int) (Q:QT [.bool]) (h :
Br (decide (n0≥n1)) (uP N (Q (decide (n0<=n2)))) (uP N (Q false))):ACalls prog 118 [.bool] [PV.int .i64 n0,PV.int .i64 n1,PV.int .i64 n2] N Q:=
 eE H0 h
theorem zIR (N:Nat) (s0:ByteArray) (Q:QT [.bool]) (h :
xP Q N s0 0 N):ACalls prog 151 [.bool] [PV.str s0] N Q:=
 eE zB6 h
theorem zJb (N:Nat) (I:D) (n1:Int) (Q:QT [.int .i64]) (h :
Bel N I->vf Q N (IntKind.i64.wrap (n1 - 1)) 0 I N):ACalls prog 187 [.int .i64] [PV.dg 2 I,PV.int .i64 n1] N Q:=
 eE zCP h
theorem zKS (N:Nat) (n0 n1:Int) (Q:QT [.int .i64]) (h :
Br (decide (n0>n1)) (uP N (Q n0)) (uP N (Q n1))):ACalls prog 181 [.int .i64] [PV.int .i64 n0,PV.int .i64 n1] N Q:=
 eE H0 h
theorem zCs (N:Nat) (I:D) (Q:QT [.int .i64]) (h :
Bel N I->xH Q N 0 0 I N):ACalls prog 188 [.int .i64] [PV.dg 2 I] N Q:=
 eE sU h
theorem zIq (N:Nat) (I:D) (Q:QT [.bool]) (h :
Bel N I->uF Q N 0 I N):ACalls prog 189 [.bool] [PV.dg 2 I] N Q:=
 eE zBb h
theorem zBh (N:Nat) (x0:D) (Q:QT [.bool]) (h :
Bel N x0->kI 187 [.dg 2 x0,.j 30] N (fun n a=>Br (decide (n≥0)) (kI 188 [.dg 2 x0] a (fun a c=>Br (decide (a<=8)) (kB 189 [.dg 2 x0] c
 (fun b a=>uP a (Q b))) (uP c (Q false)))) (uP a (Q false)))):ACalls prog 157 [.bool] [PV.dg 2 x0] N Q:=
  eE zBu h
theorem zIP (N:Nat) (I:D) (Q:QT [.bool]) (h :
Bel N I->∃ n:Int,(I.cell 0)=D.j n/\Br (n==0) (∃ a b,∃ c:Nat,(I.cell 1)=D.sl a 2 b c/\uP N (Q ((b.length:Int)==0))) (uP N (Q
 false))):ACalls prog 209 [.bool] [PV.dg 2 I] N Q:=
  eE H0 h
theorem zHE (N:Nat) (s0:ByteArray) (Q:QT [.int .i64]) (h :
Br (ByteArray.toList s0==ByteArray.toList (bytes [43])) (uP N (Q 2)) (Br (ByteArray.toList s0==ByteArray.toList (bytes [45])) (uP N (Q 2)) (Br
 (ByteArray.toList s0==ByteArray.toList (bytes [42])) (uP N (Q 2)) (Br (ByteArray.toList s0==ByteArray.toList (bytes [61])) (uP N (Q 2)) (Br
 (ByteArray.toList s0==ByteArray.toList (bytes [60])) (uP N (Q 2)) (Br (ByteArray.toList s0==ByteArray.toList (bytes [38])) (uP N (Q 2)) (Br
 (ByteArray.toList s0==ByteArray.toList (bytes [124])) (uP N (Q 2)) (Br (ByteArray.toList s0==ByteArray.toList (bytes [33])) (uP N (Q 1)) (uP N (Q
 0)))))))))):ACalls prog 180 [.int .i64] [PV.str s0] N Q:=
  eE H0 h
theorem zG8 (N:Nat) (x0:D) (Q:QT [.bool]) (h :
Bel N x0->∃ n:Int,(x0.cell 0)=D.j n/\Br (n==4) (∃ s,(x0.cell 1)=D.t s/\kI 180 [.str s] N (fun a b=>Br (decide (a>0)) (∃ a,(x0.cell
 2)=D.t a/\uP b (Q (ByteArray.toList a==ByteArray.toList b0))) (uP b (Q false)))) (Br (n==1) (∃ a,(x0.cell 1)=D.t a/\kB 151 [.str a] N
 (fun b a=>Br b (∃ b,(x0.cell 2)=D.t b/\uP a (Q (ByteArray.toList b==ByteArray.toList b0))) (uP a (Q false)))) (Br (n==6) (∃ a,(x0.cell 1)
 = D.t a/\kB 151 [.str a] N (fun a b=>Br a (∃ a,(x0.cell 2)=D.t a/\uP b (Q (ByteArray.toList a==ByteArray.toList b0))) (uP b (Q
 false)))) (Br (n==8) (∃ a,(x0.cell 1)=D.t a/\kB 151 [.str a] N (fun a b=>Br a (∃ a,(x0.cell 2)=D.t a/\uP b (Q (ByteArray.toList
 a==ByteArray.toList b0))) (uP b (Q false)))) (Br (n==9) (∃ a,(x0.cell 1)=D.t a/\kB 151 [.str a] N (fun a b=>Br a (∃ a,(x0.cell 2) =
 D.t a/\kB 151 [.str a] b (fun a b=>Br a (∃ a,(x0.cell 1)=D.t a/\∃ c,(x0.cell 2)=D.t c/\uP b (Q (!(ByteArray.toList a ==
 ByteArray.toList c)))) (uP b (Q false)))) (uP b (Q false)))) (∃ a,(x0.cell 1)=D.t a/\Br (ByteArray.toList a==ByteArray.toList b0) (∃ a,
 (x0.cell 2)=D.t a/\uP N (Q (ByteArray.toList a==ByteArray.toList b0))) (uP N (Q false)))))))):ACalls prog 210 [.bool] [PV.dg 9 x0] N Q:=
  eE H0 h
theorem zFr (N:Nat) (x0:D) (Q:QT [.bool]) (h :
Bel N x0->∃ n:Int,(x0.cell 0)=D.j n/\Br (n==6) (kB 157 [.dg 2 (D.sub x0 4 2)] N (fun b a=>Br (!(true==b)) (uP a (Q false)) (∃ b:Int,
 (x0.cell 0)=D.j b/\kB 157 [.dg 2 (D.sub x0 6 2)] a (fun a c=>Br (!((b==9)==a)) (uP c (Q false)) (∃ a:Int,(x0.cell 0)=D.j a/\Br
 (bne a 9) (kB 209 [.dg 2 (D.sub x0 6 2)] c (fun a b=>Br (!a) (uP b (Q false)) (∃ a:Int,(x0.cell 0)=D.j a/\Br (a==2) (∃ a:Int,
 (x0.cell 3)=D.j a/\kB 118 [.j a,.j 0,.j 10006] b (fun a b=>Br a (kB 210 [.dg 9 x0] b (fun a b=>uP b (Q a))) (uP b (Q false))))
 (Br (a==3) (∃ a:Int,(x0.cell 3)=D.j a/\kB 118 [.j a,.j 0,.j 1] b (fun a b=>Br a (kB 210 [.dg 9 x0] b (fun a b=>uP b (Q
 a))) (uP b (Q false)))) (∃ a:Int,(x0.cell 3)=D.j a/\kB 118 [.j a,.j 0,.j 0] b (fun a b=>Br a (kB 210 [.dg 9 x0] b (fun a b=>
 uP b (Q a))) (uP b (Q false)))))))) (∃ a:Int,(x0.cell 0)=D.j a/\Br (a==2) (∃ a:Int,(x0.cell 3)=D.j a/\kB 118 [.j a,.j 0,.j
 10006] c (fun a b=>Br a (kB 210 [.dg 9 x0] b (fun a b=>uP b (Q a))) (uP b (Q false)))) (Br (a==3) (∃ a:Int,(x0.cell 3)=D.j
 a/\kB 118 [.j a,.j 0,.j 1] c (fun a b=>Br a (kB 210 [.dg 9 x0] b (fun a b=>uP b (Q a))) (uP b (Q false)))) (∃ a:Int,
 (x0.cell 3)=D.j a/\kB 118 [.j a,.j 0,.j 0] c (fun a b=>Br a (kB 210 [.dg 9 x0] b (fun a b=>uP b (Q a))) (uP b (Q
 false))))))))))) (∃ a:Int,(x0.cell 0)=D.j a/\kB 157 [.dg 2 (D.sub x0 4 2)] N (fun b c=>Br (!((a==9)==b)) (uP c (Q false)) (Br
 (!(a==9)) (kB 209 [.dg 2 (D.sub x0 4 2)] c (fun a b=>Br (!a) (uP b (Q false)) (∃ a:Int,(x0.cell 0)=D.j a/\kB 157 [.dg 2 (D.sub x0
 6 2)] b (fun b c=>Br (!((a==9)==b)) (uP c (Q false)) (∃ a:Int,(x0.cell 0)=D.j a/\Br (bne a 9) (kB 209 [.dg 2 (D.sub x0 6 2)]
 c (fun a b=>Br (!a) (uP b (Q false)) (∃ a:Int,(x0.cell 0)=D.j a/\Br (a==2) (∃ a:Int,(x0.cell 3)=D.j a/\kB 118 [.j
 a,.j 0,.j 10006] b (fun a b=>Br a (kB 210 [.dg 9 x0] b (fun a b=>uP b (Q a))) (uP b (Q false)))) (Br (a==3) (∃ a:Int,
 (x0.cell 3)=D.j a/\kB 118 [.j a,.j 0,.j 1] b (fun a b=>Br a (kB 210 [.dg 9 x0] b (fun a b=>uP b (Q a))) (uP b (Q
 false)))) (∃ a:Int,(x0.cell 3)=D.j a/\kB 118 [.j a,.j 0,.j 0] b (fun a b=>Br a (kB 210 [.dg 9 x0] b (fun a b=>uP b (Q
 a))) (uP b (Q false)))))))) (∃ a:Int,(x0.cell 0)=D.j a/\Br (a==2) (∃ a:Int,(x0.cell 3)=D.j a/\kB 118 [.j a,.j 0,.j 10006]
 c (fun a b=>Br a (kB 210 [.dg 9 x0] b (fun a b=>uP b (Q a))) (uP b (Q false)))) (Br (a==3) (∃ a:Int,(x0.cell 3)=D.j
 a/\kB 118 [.j a,.j 0,.j 1] c (fun a b=>Br a (kB 210 [.dg 9 x0] b (fun a b=>uP b (Q a))) (uP b (Q false)))) (∃ a:Int,
 (x0.cell 3)=D.j a/\kB 118 [.j a,.j 0,.j 0] c (fun a b=>Br a (kB 210 [.dg 9 x0] b (fun a b=>uP b (Q a))) (uP b (Q
 false))))))))))) (∃ a:Int,(x0.cell 0)=D.j a/\kB 157 [.dg 2 (D.sub x0 6 2)] c (fun b c=>Br (!((a==9)==b)) (uP c (Q false)) (∃
 a:Int,(x0.cell 0)=D.j a/\Br (bne a 9) (kB 209 [.dg 2 (D.sub x0 6 2)] c (fun a b=>Br (!a) (uP b (Q false)) (∃ a:Int,(x0.cell
 0)=D.j a/\Br (a==2) (∃ a:Int,(x0.cell 3)=D.j a/\kB 118 [.j a,.j 0,.j 10006] b (fun a b=>Br a (kB 210 [.dg 9 x0] b
 (fun a b=>uP b (Q a))) (uP b (Q false)))) (Br (a==3) (∃ a:Int,(x0.cell 3)=D.j a/\kB 118 [.j a,.j 0,.j 1] b (fun a
 b=>Br a (kB 210 [.dg 9 x0] b (fun a b=>uP b (Q a))) (uP b (Q false)))) (∃ a:Int,(x0.cell 3)=D.j a/\kB 118 [.j a,.j
 0,.j 0] b (fun a b=>Br a (kB 210 [.dg 9 x0] b (fun a b=>uP b (Q a))) (uP b (Q false)))))))) (∃ a:Int,(x0.cell 0)=D.j
 a/\Br (a==2) (∃ a:Int,(x0.cell 3)=D.j a/\kB 118 [.j a,.j 0,.j 10006] c (fun a b=>Br a (kB 210 [.dg 9 x0] b (fun a
 b=>uP b (Q a))) (uP b (Q false)))) (Br (a==3) (∃ a:Int,(x0.cell 3)=D.j a/\kB 118 [.j a,.j 0,.j 1] c (fun a b=>Br
 a (kB 210 [.dg 9 x0] b (fun a b=>uP b (Q a))) (uP b (Q false)))) (∃ a:Int,(x0.cell 3)=D.j a/\kB 118 [.j a,.j 0,.j 0] c
 (fun a b=>Br a (kB 210 [.dg 9 x0] b (fun a b=>uP b (Q a))) (uP b (Q false))))))))))))):ACalls prog 182 [.bool] [PV.dg 9 x0] N Q:=
  eE zF4 h
theorem zHH (N:Nat) (x0:D) (Q:QT [.int .i64]) (h :
Bel N x0->∃ n:Int,(x0.cell 0)=D.j n/\Br (n==1) (uP N (Q 0)) (Br (n==2) (uP N (Q 0)) (Br (n==3) (uP N (Q 0)) (Br (n==4) (∃ s,(x0.cell 1) =
 D.t s/\kI 180 [.str s] N (fun a b=>uP b (Q a))) (Br (n==6) (uP N (Q 1)) (Br (n==9) (uP N (Q 1)) (Br (n==10) (uP N (Q 1)) (Br (n==11) (uP N (Q
 1)) (Br (n==12) (uP N (Q 1)) (Br (n==13) (uP N (Q 1)) (Br (n==7) (uP N (Q 2)) (Br (n==8) (uP N (Q 2)) (Br (n==5) (uP N (Q 3)) (uP N (Q
 (-1)))))))))))))))):ACalls prog 147 [.int .i64] [PV.dg 9 x0] N Q:=
  eE H0 h
theorem zIW (N:Nat) (I:D) (Q:QT [.bool]) (h :
Bel N I->uG Q N 0 I N):ACalls prog 155 [.bool] [PV.dg 9 I] N Q:=
 eE zBZ h
theorem zIb (N:Nat) (x0:D) (n1:Int) (Q:QT [.int .i64]) (h :
Bel N x0->∃ n:Int,(x0.cell 0)=D.j n/\Br (n==10) (uP N (Q (IntKind.i64.wrap (n1+1)))) (Br (n==11) (uP N (Q (IntKind.i64.wrap (n1 - 1)))) (uP N
 (Q n1)))):ACalls prog 212 [.int .i64] [PV.dg 9 x0,PV.int .i64 n1] N Q:=
  eE H0 h
theorem zIt (N:Nat) (a0:Option Addr) (e0:List D) (I:Nat) (J:ByteArray) (Q:QT [.int .i64]) (h :
Bel N (D.sl a0 4 e0 I)->vu Q N a0 e0 I J (IntKind.i64.wrap ((e0.length:Int) - 1)) N):ACalls prog 183 [.int .i64] [PV.sv a0 4 e0 I,PV.str J] N Q:=
 eE zB0 h
theorem zIu (N:Nat) (I:D) (Q:QT [.ag 2]) (h :
Bel N I->∃ n:Int,(I.cell 0)=D.j n/\te Q N 0 I 0 none [] 0 n none [] 0 N):ACalls prog 76 [.ag 2] [PV.dg 2 I] N Q:=
 eE r7 h
theorem zLc (N:Nat)  (Q:QT [.ag 2]) (h :
uP N (Q (D.ag [D.j 1,D.sl none 2 [] 0]))):ACalls prog 132 [.ag 2] [] N Q:=
 eE H0 h
theorem zIU (N:Nat)  (Q:QT [.ag 2]) (h :
uP N (Q (D.ag [D.j 2,D.sl none 2 [] 0]))):ACalls prog 166 [.ag 2] [] N Q:=
 eE H0 h
theorem zJt (N:Nat) (a0:Option Addr) (e0:List D) (O:Nat) (J:ByteArray) (I:D) (n3:Int) (Q:QT [.sl 4]) (h :
Bel N (D.sl a0 4 e0 O)->Bel N I->(0=0/\0=0)/\zB [] e0 56/\∀ (c:Nat),(([]++e0).length=([]++e0).length/\c=c)/\zB ([]++e0)
 [D.ag [D.t J,(I.cell 0),(I.cell 1),D.j n3]] 56/\∀ (b:Nat),w2 (([]++e0++[D.ag [D.t J,(I.cell 0),(I.cell 1),D.j n3]]).length=([]++e0 ++
 [D.ag [D.t J,(I.cell 0),(I.cell 1),D.j n3]]).length/\b=b) (∀ a c,N<=c->Fresh N c a [D.ag ([]++e0++[D.ag [D.t J,(I.cell 0),(I.cell
 1),D.j n3]])]->uP c (Q a ([]++e0++[D.ag [D.t J,(I.cell 0),(I.cell 1),D.j n3]]) b))):ACalls prog 169 [.sl 4] [PV.sv a0 4 e0 O,PV.str J,PV.dg 2 I,PV.int .i64 n3] N Q:=
  eE H0 h
theorem zDv (N:Nat) (I J:D) (Q:QT [.ag 2]) (h :
Bel N I->Bel N J->kA 2 76 [.dg 2 I] N (λx b=>kA 2 76 [.dg 2 J] b (λb c=>w3 (2=([x,b]).length/\2=2) (∀ a d,c<=d->Fresh N
 d a [D.ag [x,b]]->uP d (Q (D.ag [D.j 3,D.sl a 2 [x,b] 2])))))):ACalls prog 150 [.ag 2] [PV.dg 2 I,PV.dg 2 J] N Q:=
  eE zLF h
theorem zEo (N:Nat) (x0 x1:D) (Q:QT [.bool]) (h :
Bel N x0->Bel N x1->∃ n:Int,(x0.cell 0)=D.j n/\∃ b:Int,(x1.cell 0)=D.j b/\Br (bne n b) (uP N (Q false)) (∃ a b,∃ c:Nat,(x0.cell 1)
 = D.sl a 2 b c/\∃ a c,∃ d:Nat,(x1.cell 1)=D.sl a 2 c d/\Br (bne (b.length:Int) (c.length:Int)) (uP N (Q false))
 (y5 Q N 0 x0 x1 N))):ACalls prog 68 [.bool] [PV.dg 2 x0,PV.dg 2 x1] N Q:=
  eE qF h
theorem rk (N:Nat) (a0:Option Addr) (e0:List D) (J:Nat) (I:D) (n2:Int) (Q:QT [.ag 2,.bool]) (h :
Bel N (D.sl a0 4 e0 J)->Bel N I->∃ n:Int,(I.cell 0)=D.j n/\Br (n==6) (∃ s,(I.cell 1)=D.t s/\∃ a d,∃ c:Nat,(I.cell 8)=D.sl a 9 d
 c/\((0:Int)<=(0:Int)/\0<(d.length:Int))/\kL 4 169 [.sv a0 4 e0 J,.str s,.dg 2 (D.sub I 4 2),.j n2] N (λa c e f=>kAB 2 115 [.sv
 a 4 c e,.dg 9 (List.getD d 0 default),.j n2] f (λx b a=>kA 2 150 [.dg 2 (D.sub I 4 2),.dg 2 x] a (λa c=>uP c (Q a b))))) (Br (n
 == 8) (∃ a b,∃ c:Nat,(I.cell 8)=D.sl a 9 b c/\((0:Int)<=(0:Int)/\0<(b.length:Int))/\kAB 2 115 [.sv a0 4 e0 J,.dg 9
 (List.getD b 0 default),.j n2] N (λa b c=>Br (!b) (uP c (Q (D.ag [D.j 0,D.sl none 2 [] 0]) false)) (∃ b,(I.cell 1)=D.t b/\∃ d e,
 ∃ f:Nat,(I.cell 8)=D.sl d 9 e f/\((0:Int)<=(1:Int)/\1<(e.length:Int))/\kL 4 169 [.sv a0 4 e0 J,.str b,.dg 2 a,.j n2] c
 (λa b c d=>kAB 2 115 [.sv a 4 b c,.dg 9 (List.getD e 1 default),.j n2] d (λa b c=>uP c (Q a b)))))) (kA 2 150 [.dg
 2 (D.sub I 4 2),.dg 2 (D.sub I 6 2)] N (λa b=>∃ c,(I.cell 1)=D.t c/\∃ d,(I.cell 2)=D.t d/\∃ e f,∃ g:Nat,(I.cell 8) =
 D.sl e 9 f g/\((0:Int)<=(0:Int)/\0<(f.length:Int))/\kL 4 169 [.sv a0 4 e0 J,.str c,.dg 2 a,.j n2] b (λb c e g=>kL
 4 169 [.sv b 4 c e,.str d,.dg 2 (D.sub I 4 2),.j n2] g (λb c d e=>kAB 2 115 [.sv b 4 c d,.dg 9 (List.getD f 0 default),
 .j n2] e (λb c d=>Br c (kB 68 [.dg 2 b,.dg 2 (D.sub I 6 2)] d (λb c=>uP c (Q a b))) (uP d (Q a false))))))))):ACalls prog 184 [.ag 2,.bool] [PV.sv a0 4 e0 J,PV.dg 9 I,PV.int .i64 n2] N Q:=
  eE zJP h
theorem zI8 (N:Nat) (x0:D) (Q:QT [.bool]) (h :
Bel N x0->∃ n:Int,(x0.cell 0)=D.j n/\Br (n==1) (∃ a b,∃ c:Nat,(x0.cell 1)=D.sl a 2 b c/\uP N (Q ((b.length:Int)==0))) (∃ a:Int,
 (x0.cell 0)=D.j a/\Br (a==2) (∃ a b,∃ c:Nat,(x0.cell 1)=D.sl a 2 b c/\uP N (Q ((b.length:Int)==0))) (uP N (Q false)))):ACalls prog 152 [.bool] [PV.dg 2 x0] N Q:=
  eE H0 h
theorem zHF (N:Nat) (a0:Option Addr) (e0:List D) (I:Nat) (n1:Int) (Q:QT [.sl 4]) (h :
Bel N (D.sl a0 4 e0 I)->yY Q N a0 e0 I n1 0 0 0 [] 0 N):ACalls prog 211 [.sl 4] [PV.sv a0 4 e0 I,PV.int .i64 n1] N Q:=
 eE zAt h
theorem zBl (N:Nat) (I:D) (Q:QT [.ag 2]) (h :
Bel N I->kA 2 76 [.dg 2 I] N (λx b=>w3 (1=([x]).length/\1=1) (∀ a c,b<=c->Fresh N c a [D.ag [x]]->uP c (Q (D.ag [D.j 4,D.sl a 2 [x]
 1]))))):ACalls prog 149 [.ag 2] [PV.dg 2 I] N Q:=
  eE zJB h
theorem zHQ (N:Nat) (a0:Option Addr) (e0:List D) (J:Nat) (I:D) (n2:Int) (Q:QT [.ag 2,.bool]) (h :
Bel N (D.sl a0 4 e0 J)->Bel N I->∃ n:Int,(I.cell 0)=D.j n/\Br (n==12) (kL 4 211 [.sv a0 4 e0 J,.j n2] N (λa c d e=>∃ f g,∃ h
 : Nat,(I.cell 8)=D.sl f 9 g h/\((0:Int)<=(0:Int)/\0<(g.length:Int))/\kI 212 [.dg 9 I,.j n2] e (λe f=>kAB 2 115 [.sv a 4 c
 d,.dg 9 (List.getD g 0 default),.j e] f (λx b a=>Br (!b) (uP a (Q (D.ag [D.j 0,D.sl none 2 [] 0]) false)) (∃ b:Int,(I.cell 0)=D.j b /\
 Br (b==10) (kA 2 149 [.dg 2 x] a (λa b=>uP b (Q a true))) (∃ b:Int,(I.cell 0)=D.j b/\Br (b==13) (kA 2 149 [.dg 2 x] a (λa
 b=>kB 152 [.dg 2 x] b (λb c=>uP c (Q a b)))) (∃ b:Int,(x.cell 0)=D.j b/\Br (b==4) (∃ b c,∃ d:Nat,(x.cell 1)=D.sl
 b 2 c d/\((0:Int)<=(0:Int)/\0<(c.length:Int))/\kA 2 76 [.dg 2 (List.getD c 0 default)] a (λa b=>uP b (Q a true))) (uP a
 (Q (D.ag [D.j 0,D.sl none 2 [] 0]) false))))))))) (∃ a b,∃ c:Nat,(I.cell 8)=D.sl a 9 b c/\((0:Int)<=(0:Int)/\0<(b.length :
 Int))/\kI 212 [.dg 9 I,.j n2] N (λa c=>kAB 2 115 [.sv a0 4 e0 J,.dg 9 (List.getD b 0 default),.j a] c (λa b c=>Br (!b) (uP
 c (Q (D.ag [D.j 0,D.sl none 2 [] 0]) false)) (∃ b:Int,(I.cell 0)=D.j b/\Br (b==10) (kA 2 149 [.dg 2 a] c (λa b=>uP b (Q a
 true))) (∃ b:Int,(I.cell 0)=D.j b/\Br (b==13) (kA 2 149 [.dg 2 a] c (λb c=>kB 152 [.dg 2 a] c (λa c=>uP c (Q b
 a)))) (∃ b:Int,(a.cell 0)=D.j b/\Br (b==4) (∃ b d,∃ e:Nat,(a.cell 1)=D.sl b 2 d e/\((0:Int)<=(0:Int)/\0 <
 (d.length:Int))/\kA 2 76 [.dg 2 (List.getD d 0 default)] c (λa b=>uP b (Q a true))) (uP c (Q (D.ag [D.j 0,D.sl none 2 [] 0])
 false))))))))):ACalls prog 185 [.ag 2,.bool] [PV.sv a0 4 e0 J,PV.dg 9 I,PV.int .i64 n2] N Q:=
  eE zG3 h
theorem zMa (N:Nat) (s0:ByteArray) (a1:Option Addr) (e1:List D) (c1:Nat) (Q:QT [.ag 2,.bool]) (h :
Bel N (D.sl a1 2 e1 c1)->Br (ByteArray.toList s0==ByteArray.toList (bytes [38])) (yr Q N s0 a1 e1 c1 2 0 0 none [] 0 N) (Br (ByteArray.toList
 s0==ByteArray.toList (bytes [124])) (yr Q N s0 a1 e1 c1 2 0 0 none [] 0 N) (Br (ByteArray.toList s0==ByteArray.toList (bytes [33]))
 (yr Q N s0 a1 e1 c1 2 0 0 none [] 0 N) (yr Q N s0 a1 e1 c1 1 0 0 none [] 0 N)))):ACalls prog 213 [.ag 2,.bool] [PV.str s0,PV.sv a1 2 e1 c1] N Q:=
  eE zFc h
theorem zI6 (N:Nat) (I:D) (a1:Option Addr) (e1:List D) (c1:Nat) (Q:QT [.ag 2,.bool]) (h :
Bel N I->Bel N (D.sl a1 2 e1 c1)->∃ n:Int,(I.cell 0)=D.j n/\Br (n==4) (∃ s,(I.cell 1)=D.t s/\kAB 2 213 [.str s,.sv a1 2 e1 c1] N (λx b
 a=>uP a (Q x b))) (Br (n==5) (((0:Int)<=(1:Int)/\1<(e1.length:Int))/\((0:Int)<=(0:Int)/\0<(e1.length:Int))/\∃ a:Int,(if 0=0
 then D.cell (List.getD e1 0 default) 0 else D.sub (List.getD e1 0 default) 0 0)=D.j a/\Br (a==2) (((0:Int)<=(1:Int)/\1<(e1.length:Int))/\((0
 : Int)<=(2:Int)/\2<(e1.length:Int))/\kB 68 [.dg 2 (List.getD e1 1 default),.dg 2 (List.getD e1 2 default)] N (λa b=>uP b (Q (List.getD e1 1
 default) a))) (uP N (Q (List.getD e1 1 default) false))) (((0:Int)<=(0:Int)/\0<(e1.length:Int))/\∃ b:Int,(if 0=0 then D.cell (List.getD e1 0
 default) 0 else D.sub (List.getD e1 0 default) 0 0)=D.j b/\Br (b==3) (((0:Int)<=(0:Int)/\0<(e1.length:Int))/\∃ a b,∃ c:Nat,(if 0=0
 then D.cell (List.getD e1 0 default) 1 else D.sub (List.getD e1 0 default) 1 0)=D.sl a 2 b c/\((0:Int)<=(0:Int)/\0<(b.length:Int))/\((0:Int) <=
 (1:Int)/\1<(e1.length:Int))/\kB 68 [.dg 2 (List.getD b 0 default),.dg 2 (List.getD e1 1 default)] N (λa b=>Br a (((0:Int)<=(0:Int)/\0
 < (e1.length:Int))/\∃ a c,∃ d:Nat,(if 0=0 then D.cell (List.getD e1 0 default) 1 else D.sub (List.getD e1 0 default) 1 0)=D.sl a 2 c d
 /\ ((0:Int)<=(1:Int)/\1<(c.length:Int))/\kA 2 76 [.dg 2 (List.getD c 1 default)] b (λa b=>uP b (Q a true))) (uP b (Q (D.ag [D.j
 0,D.sl none 2 [] 0]) false)))) (uP N (Q (D.ag [D.j 0,D.sl none 2 [] 0]) false))))):ACalls prog 186 [.ag 2,.bool] [PV.dg 9 I,PV.sv a1 2 e1 c1] N Q:=
  eE zIf h
theorem zI9 (N:Nat) (a0:Option Addr) (e0:List D) (J:Nat) (I:D) (n2:Int) (Q:QT [.ag 2,.bool]) (h :
Bel N (D.sl a0 4 e0 J)->Bel N I->∃ n:Int,(I.cell 0)=D.j n/\Br (n==1) (∃ s,(I.cell 1)=D.t s/\kI 183 [.sv a0 4 e0 J,.str s] N (λa b
 => Br (decide (a<0)) (uP b (Q (D.ag [D.j 0,D.sl none 2 [] 0]) false)) ((0<=a/\a<(e0.length:Int))/\∃ c:Int,(if 0=0 then D.cell (List.getD
 e0 a.toNat default) 3 else D.sub (List.getD e0 a.toNat default) 3 0)=D.j c/\Br (bne c n2) (uP b (Q (D.ag [D.j 0,D.sl none 2 [] 0]) false)) ((0 <=
 a/\a<(e0.length:Int))/\kA 2 76 [.dg 2 (if 2=0 then D.cell (List.getD e0 a.toNat default) 1 else D.sub (List.getD e0 a.toNat default) 1 2)] b
 (λx a=>uP a (Q x true)))))) (Br (n==2) (kA 2 132 [] N (λa b=>uP b (Q a true))) (Br (n==3) (kA 2 166 [] N (λa b=>uP b (Q a
 true))) (Br (n==6) (kAB 2 184 [.sv a0 4 e0 J,.dg 9 I,.j n2] N (λa b c=>uP c (Q a b))) (Br (n==8) (kAB 2 184 [.sv a0 4 e0 J,.dg 9 I,.j
 n2] N (λa b c=>uP c (Q a b))) (Br (n==9) (kAB 2 184 [.sv a0 4 e0 J,.dg 9 I,.j n2] N (λa b c=>uP c (Q a b))) (Br (n ==
 10) (kAB 2 185 [.sv a0 4 e0 J,.dg 9 I,.j n2] N (λa b c=>uP c (Q a b))) (Br (n==11) (kAB 2 185 [.sv a0 4 e0 J,.dg 9 I,.j n2] N (fun
 a b c=>uP c (Q a b))) (Br (n==12) (kAB 2 185 [.sv a0 4 e0 J,.dg 9 I,.j n2] N (λa b c=>uP c (Q a b))) (Br (n==13) (kAB 2
 185 [.sv a0 4 e0 J,.dg 9 I,.j n2] N (λa b c=>uP c (Q a b))) (xt Q N a0 e0 J n2 0 0 0 I 0 none [] 0 [] 0 N))))))))))):ACalls prog 156 [.ag 2,.bool] [PV.sv a0 4 e0 J,PV.dg 9 I,PV.int .i64 n2] N Q:=
  eE zCr h
theorem zJZ (N:Nat) (a0:Option Addr) (e0:List D) (I:Nat) (J:D) (n2:Int) (Q:QT [.ag 2,.bool]) (h :
Bel N (D.sl a0 4 e0 I)->Bel N J->kAB 2 156 [.sv a0 4 e0 I,.dg 9 J,.j n2] N (λx b a=>Br (!b) (uP a (Q (D.ag [D.j 0,D.sl none 2 [] 0])
 false)) (kB 157 [.dg 2 x] a (λa b=>Br (!a) (uP b (Q (D.ag [D.j 0,D.sl none 2 [] 0]) false)) (uP b (Q x true))))) ):ACalls prog 115 [.ag 2,.bool] [PV.sv a0 4 e0 I,PV.dg 9 J,PV.int .i64 n2] N Q:=
  eE zJu h
theorem pV (Q:QT [.bool]) (N0:Nat) (s0:ByteArray) (n3:Int) (N:Nat) (h :
Br (decide (n3<(s0.size:Int))) ((0<=n3/\n3<(s0.size:Int))/\Br (decide ((UInt8.toNat (Array.getD (ByteArray.data s0) n3.toNat (OfNat.ofNat 0)) :
 Int)≥97)) ((0<=n3/\n3<(s0.size:Int))/\Br (!(decide ((UInt8.toNat (Array.getD (ByteArray.data s0) n3.toNat (OfNat.ofNat 0)):Int)<=122))) (Br (n3 ==
 0) (uP N (Q false)) ((0<=n3/\n3<(s0.size:Int))/\Br (decide ((UInt8.toNat (Array.getD (ByteArray.data s0) n3.toNat (OfNat.ofNat 0)):Int)<48)) (uP N (Q
 false)) ((0<=n3/\n3<(s0.size:Int))/\Br (decide ((UInt8.toNat (Array.getD (ByteArray.data s0) n3.toNat (OfNat.ofNat 0)):Int)>57)) (uP N (Q false))
 (xP Q N0 s0 (IntKind.i64.wrap (n3+1)) N)))) (xP Q N0 s0 (IntKind.i64.wrap (n3+1)) N)) (Br (n3==0) (uP N (Q false)) ((0<=n3/\n3
 < (s0.size:Int))/\Br (decide ((UInt8.toNat (Array.getD (ByteArray.data s0) n3.toNat (OfNat.ofNat 0)):Int)<48)) (uP N (Q false)) ((0<=n3/\n3<(s0.size
 : Int))/\Br (decide ((UInt8.toNat (Array.getD (ByteArray.data s0) n3.toNat (OfNat.ofNat 0)):Int)>57)) (uP N (Q false)) (xP Q N0 s0
 (IntKind.i64.wrap (n3+1)) N))))) (kB 118 [.j (s0.size:Int),.j 1,.j 4] N (λb a=>Br b (Br (!(ByteArray.toList s0==ByteArray.toList (bytes [105,
 102]))) (Br (!(ByteArray.toList s0==ByteArray.toList (bytes [108,101,116]))) (Br (!(ByteArray.toList s0==ByteArray.toList (bytes [114,101,99]))) (Br
 (!(ByteArray.toList s0==ByteArray.toList (bytes [114,117,110]))) (∀ b,a<=b->Q (!(ByteArray.toList s0==ByteArray.toList (bytes [108,105,102,
 116]))) b) (uP a (Q false))) (uP a (Q false))) (uP a (Q false))) (uP a (Q false))) (uP a (Q false))))):xP Q N0 s0 n3 N:=
  hE zB6 h
theorem pJ (Q:QT [.int .i64]) (N0:Nat) (n1 n5:Int) (y0:D) (N:Nat) (h :
∃ a b,∃ c:Nat,(y0.cell 1)=D.sl a 2 b c/\Br (decide (n5<(b.length:Int))) (Br (decide (n1≥0)) (∃ a b,∃ c:Nat,(y0.cell 1)=D.sl
 a 2 b c/\(0<=n5/\n5<(b.length:Int))/\kI 187 [.dg 2 (List.getD b n5.toNat default),.j n1] N (fun n a=>vf Q N0 n
 (IntKind.i64.wrap (n5+1)) y0 a)) (uP N (Q n1))) (uP N (Q n1))):vf Q N0 n1 n5 y0 N:=
  hE zCP h
theorem u9 (Q:QT [.int .i64]) (N0:Nat) (n3 I:Int) (J:D) (N:Nat) (h :
∃ a b,∃ c:Nat,(J.cell 1)=D.sl a 2 b c/\Br (decide (I<(b.length:Int))) (∃ a b,∃ c:Nat,(J.cell 1)=D.sl a 2 b c/\(0<=I
 /\ I<(b.length:Int))/\kI 188 [.dg 2 (List.getD b I.toNat default)] N (λn a=>kI 181 [.j n3,.j n] a (λa b=>xH Q N0
 a (IntKind.i64.wrap (I+1)) J b))) (uP N (Q (IntKind.i64.wrap (n3+1))))):xH Q N0 n3 I J N:=
  hE sU h
theorem pT (Q:QT [.bool]) (N0:Nat) (n3:Int) (y0:D) (N:Nat) (h :
∃ a d,∃ c:Nat,(y0.cell 1)=D.sl a 2 d c/\Br (decide (n3<(d.length:Int))) (∃ a c,∃ d:Nat,(y0.cell 1)=D.sl a 2 c d/\(0<=n3
 /\ n3<(c.length:Int))/\kB 189 [.dg 2 (List.getD c n3.toNat default)] N (fun b a=>Br (!b) (uP a (Q false)) (uF Q N0 (IntKind.i64.wrap
 (n3+1)) y0 a))) (∃ n:Int,(y0.cell 0)=D.j n/\Br (n==1) (∃ a b,∃ c:Nat,(y0.cell 1)=D.sl a 2 b c/\uP N (Q ((b.length:Int) ==
 0))) (Br (n==2) (∃ a b,∃ c:Nat,(y0.cell 1)=D.sl a 2 b c/\uP N (Q ((b.length:Int)==0))) (Br (n==3) (∃ a b,∃ c:Nat,
 (y0.cell 1)=D.sl a 2 b c/\uP N (Q ((b.length:Int)==2))) (Br (n==4) (∃ a b,∃ c:Nat,(y0.cell 1)=D.sl a 2 b c/\uP N (Q
 ((b.length:Int)==1))) (uP N (Q false))))))):uF Q N0 n3 y0 N:=
  hE zBb h
theorem zAC (Q:QT [.bool]) (N0:Nat) (n3:Int) (I:D) (N:Nat) (h :
∃ a d,∃ c:Nat,(I.cell 8)=D.sl a 9 d c/\Br (decide (n3<(d.length:Int))) (∃ a c,∃ d:Nat,(I.cell 8)=D.sl a 9 c d/\(0<=n3
 /\ n3<(c.length:Int))/\kB 155 [.dg 9 (List.getD c n3.toNat default)] N (λb a=>Br (!b) (uP a (Q false)) (uG Q N0 (IntKind.i64.wrap
 (n3+1)) I a))) (kB 182 [.dg 9 I] N (λa b=>Br a (∃ a c,∃ d:Nat,(I.cell 8)=D.sl a 9 c d/\kI 147 [.dg 9 I] b (λn a=>uP
 a (Q ((c.length:Int)==n)))) (uP b (Q false))))):uG Q N0 n3 I N:=
  hE zBZ h
theorem pw (Q:QT [.int .i64]) (N0:Nat) (a0:Option Addr) (e0:List D) (c0:Nat) (s1:ByteArray) (n5:Int) (N:Nat) (h :
Br (decide (n5≥0)) ((0<=n5/\n5<(e0.length:Int))/\∃ s,(if 0=0 then D.cell (List.getD e0 n5.toNat default) 0 else D.sub (List.getD e0 n5.toNat
 default) 0 0)=D.t s/\Br (ByteArray.toList s==ByteArray.toList s1) (uP N (Q n5)) (vu Q N0 a0 e0 c0 s1 (IntKind.i64.wrap (n5 - 1)) N)) (uP N (Q
 (-1)))):vu Q N0 a0 e0 c0 s1 n5 N:=
  hE zB0 h
theorem q9 (Q:QT [.ag 2]) (N0:Nat) (n4:Int) (y0:D) (ab:Int) (ac:Option Addr) (ae:List D) (ah:Nat) (J:Int) (O:Option Addr) (I:List D) (aa:Nat) (N:Nat) (h :
∃ a b,∃ c:Nat,(y0.cell 1)=D.sl a 2 b c/\Br (decide (n4<(b.length:Int))) (∃ a b,∃ c:Nat,(y0.cell 1)=D.sl a 2 b c/\(0<=n4
 /\ n4<(b.length:Int))/\kA 2 76 [.dg 2 (List.getD b n4.toNat default)] N (λx a=>zUN O I aa [x]/\zB I [x] 32/\∀ (b:Nat),
 wL Q N0 (IntKind.i64.wrap (n4+1)) y0 ab ac ae ah J (I++[x]).length b (I++[x]) b a)) (uP N (Q (D.ag [D.j J,D.sl
 O 2 I aa])))):te Q N0 n4 y0 ab ac ae ah J O I aa N:=
  hE r7 h
theorem sH (Q:QT [.bool]) (N0:Nat) (I:Int) (J O:D) (N:Nat) (h :
∃ a d,∃ c:Nat,(J.cell 1)=D.sl a 2 d c/\Br (decide (I<(d.length:Int))) (∃ a c,∃ d:Nat,(J.cell 1)=D.sl a 2 c d/\(0<=I
 /\ I<(c.length:Int))/\∃ a d,∃ e:Nat,(O.cell 1)=D.sl a 2 d e/\(0<=I/\I<(d.length:Int))/\kB 68 [.dg 2 (List.getD c
 I.toNat default),.dg 2 (List.getD d I.toNat default)] N (λb a=>Br (!b) (uP a (Q false)) (y5 Q N0 (IntKind.i64.wrap (I+1)) J O
 a))) (uP N (Q true))):y5 Q N0 I J O N:=
  hE qF h
theorem qS (Q:QT [.sl 4]) (N0:Nat) (a0:Option Addr) (e0:List D) (O:Nat) (n1:Int) (m5 c5:Nat) (I:Int) (r0:List D) (J:Nat) (N:Nat) (h :
Br (decide (I<(e0.length:Int))) ((0<=I/\I<(e0.length:Int))/\kB 152 [.dg 2 (if 2=0 then D.cell (List.getD e0 I.toNat default) 1 else D.sub
 (List.getD e0 I.toNat default) 1 2)] N (λb a=>Br b ((0<=I/\I<(e0.length:Int))/\∃ n:Int,(if 0=0 then D.cell (List.getD e0 I.toNat default)
 3 else D.sub (List.getD e0 I.toNat default) 3 0)=D.j n/\Br (decide (n<=n1)) ((0<=I/\I<(e0.length:Int))/\∃ s,(if 0=0 then D.cell (List.getD e0
 I.toNat default) 0 else D.sub (List.getD e0 I.toNat default) 0 0)=D.t s/\kI 183 [.sv a0 4 e0 O,.str s] a (λa b=>Br (a==I) ((0<=I/\I <
 (e0.length:Int))/\∃ a,(if 0=0 then D.cell (List.getD e0 I.toNat default) 0 else D.sub (List.getD e0 I.toNat default) 0 0)=D.t a/\(0<=I/\I <
 (e0.length:Int))/\(0<=I/\I<(e0.length:Int))/\∃ d:Int,(if 0=0 then D.cell (List.getD e0 I.toNat default) 3 else D.sub (List.getD e0 I.toNat
 default) 3 0)=D.j d/\kA 2 76 [.dg 2 (if 2=0 then D.cell (List.getD e0 I.toNat default) 1 else D.sub (List.getD e0 I.toNat default) 1 2)] b (λx b
 => (m5=r0.length/\c5=J)/\zB r0 [D.ag [D.t a,(x.cell 0),(x.cell 1),D.j d]] 56/\∀ (c:Nat),yY Q N0 a0 e0 O n1 (r0++[D.ag
 [D.t a,(x.cell 0),(x.cell 1),D.j d]]).length c (IntKind.i64.wrap (I+1)) (r0++[D.ag [D.t a,(x.cell 0),(x.cell 1),D.j d]]) c b))
 (yY Q N0 a0 e0 O n1 m5 c5 (IntKind.i64.wrap (I+1)) r0 J b))) (yY Q N0 a0 e0 O n1 m5 c5 (IntKind.i64.wrap (I+1)) r0 J a))
 (yY Q N0 a0 e0 O n1 m5 c5 (IntKind.i64.wrap (I+1)) r0 J a))) (w3 (m5=r0.length/\c5=J) (∀ a b,N<=b->Fresh N0 b a [D.ag r0]->uP
 b (Q a r0 J)))):yY Q N0 a0 e0 O n1 m5 c5 I r0 J N:=
  hE zAt h
theorem zCI (Q:QT [.ag 2,.bool]) (N0:Nat) (s0:ByteArray) (a1:Option Addr) (e1:List D) (c1:Nat) (n6 n7 n0_0:Int) (a0_1:Option Addr) (e0_1:List D) (c0_1:Nat) (N:Nat) (h :
Br (decide (n7<(e1.length:Int))) ((0<=n7/\n7<(e1.length:Int))/\∃ n:Int,(if 0=0 then D.cell (List.getD e1 n7.toNat default) 0 else D.sub
 (List.getD e1 n7.toNat default) 0 0)=D.j n/\Br (bne n n6) (uP N (Q (D.ag [D.j 0,D.sl none 2 [] 0]) false)) (yr Q N0 s0 a1 e1 c1 n6
 (IntKind.i64.wrap (n7+1)) n0_0 a0_1 e0_1 c0_1 N)) (Br (ByteArray.toList s0==ByteArray.toList (bytes [43])) (kA 2 132 [] N (fun x a=>uP a (Q x true)))
 (Br (ByteArray.toList s0==ByteArray.toList (bytes [45])) (kA 2 132 [] N (fun a b=>uP b (Q a true))) (Br (ByteArray.toList s0==ByteArray.toList
 (bytes [42])) (kA 2 132 [] N (fun a b=>uP b (Q a true))) (kA 2 166 [] N (fun a b=>uP b (Q a true))))))):yr Q N0 s0 a1 e1 c1 n6 n7 n0_0 a0_1 e0_1 c0_1 N:=
  hE zFc h
theorem qG (Q:QT [.ag 2,.bool]) (N0:Nat) (a0:Option Addr) (e0:List D) (c0:Nat) (n2:Int) (ac I:Nat) (n14:Int) (y0:D) (J:Int) (O:Option Addr) (aa:List D) (ab:Nat) (r2:List D) (q2:Nat) (N:Nat) (h :
∃ a d,∃ c:Nat,(y0.cell 8)=D.sl a 9 d c/\Br (decide (n14<(d.length:Int))) (∃ a c,∃ d:Nat,(y0.cell 8)=D.sl a 9 c d/\(0 <=
 n14/\n14<(c.length:Int))/\kAB 2 115 [.sv a0 4 e0 c0,.dg 9 (List.getD c n14.toNat default),.j n2] N (λx b a=>Br (!b) (uP a (Q (D.ag [D.j 0,
 D.sl none 2 [] 0]) false)) ((ac=r2.length/\I=q2)/\zB r2 [x] 32/\∀ (b:Nat),xt Q N0 a0 e0 c0 n2 (r2++[x]).length b
 (IntKind.i64.wrap (n14+1)) y0 J O aa ab (r2++[x]) b a))) ((ac=r2.length/\I=q2)/\∀ a,ApA a r2->Off [a] y0->∀ b,N<=b->wa
 b [a]->ACalls prog 186 [.ag 2,.bool] [.dg 9 y0,.sv a 2 r2 I] b (λc d e=>b<=e->Off [a] c/\(Bel e c->uP e (Q c d))))):xt Q N0 a0 e0 c0 n2 ac I n14 y0 J O aa ab r2 q2 N:=
  hE zCr h
theorem sI (Q:QT [.ag 2]) (N0:Nat) (n4:Int) (y0:D) (aa:Int) (ab:Option Addr) (ac:List D) (ae:Nat) (I:Int) (J O:Nat) (r3:List D) (q3:Nat) (N:Nat) (h :
∃ a b,∃ c:Nat,(y0.cell 1)=D.sl a 2 b c/\Br (decide (n4<(b.length:Int))) (∃ a b,∃ c:Nat,(y0.cell 1)=D.sl a 2 b c/\(0<=n4
 /\ n4<(b.length:Int))/\kA 2 76 [.dg 2 (List.getD b n4.toNat default)] N (λx a=>(J=r3.length/\O=q3)/\zB r3 [x] 32/\∀ (b :
 Nat),wL Q N0 (IntKind.i64.wrap (n4+1)) y0 aa ab ac ae I (r3++[x]).length b (r3++[x]) b a)) (w3 (J=r3.length/\O =
 q3) (∀ a b,N<=b->Fresh N0 b a [D.ag r3]->uP b (Q (D.ag [D.j I,D.sl a 2 r3 q3]))))):wL Q N0 n4 y0 aa ab ac ae I J O r3 q3 N:=
  hE r7 h
end Go.Proofs.YtlahkdflngobiaaGreatDoor
