/- Printed by gen.py: what the functions come to. -/
import Derived.Test.YtkdjhkfiolhkiaaGreatJh
set_option linter.unusedVariables false
set_option maxRecDepth 100000
namespace Go.Proofs.YtkdjhkfiolhkiaaGreat
open Go Go.Proofs Go.Proofs.Tryz
def zHX:Hint:=⟨[],[],[]⟩
def rM:Hint:=⟨[hc 2 [0,3]],[],[]⟩
def rx:Hint:=⟨[hc 3 [1,2,5]],[],[(5,hs 8 [ec 6 [23]])]⟩
def zFy:Hint:=⟨[],[],[]⟩
def vY:Hint:=⟨[hc 3 [1,3,4]],[],[(5,hs 9 [ec 6 [17]])]⟩
def rk:Hint:=⟨[hc 2 [1,3]],[],[(4,hs 7 [ec 5 [15]])]⟩
def qd:Hint:=⟨[],[],[(1,hs 13 [ec 1 [3],ec 5 [7],ec 10 [12]])]⟩
def pn:Hint:=⟨[hc 2 [0,3]],[],[(4,hs 25 [ec 13 [22]])]⟩
def zE9:Hint:=⟨[],[],[]⟩
def zCn:Hint:=⟨[],[],[]⟩
def zC4:Hint:=⟨[],[],[]⟩
def zA4:Hint:=⟨[],[],[(2,hs 15 [ec 3 [15],ec 11 [23]]),(4,[en 0,en 1,en 2,en 3,en 4,ec 5 [32],en 6,en 7,en 8,en 9,en 10,en 11,en 12,en 13,ec 14 [41],en 15,en 16,en 17]),(12,hs 9 [ec 6 [57]])]⟩
def zC5:Hint:=⟨[],[],[]⟩
def qI:Hint:=⟨[hc 2 [1,3]],[],[(4,hs 7 [ec 5 [15]]),(6,[en 0,ec 1 [18],en 2,en 3,en 4,en 5,en 6,ec 7 [24],en 8,en 9,en 10])]⟩
def zEJ:Hint:=⟨[],[],[]⟩
def zBh:Hint:=⟨[hc 4 [1,2,5]],[],[(6,[en 0,en 1,en 2,en 3,en 4,en 5,en 6,ec 7 [21],ec 8 [20],en 9])]⟩
def zBd:Hint:=⟨[],[],[(1,hs 8 [ec 1 [5],ec 5 [8]])]⟩
def qH:Hint:=⟨[hc 2 [0,1,5]],[],[]⟩
def uP:Hint:=⟨[hc 3 [1,2,3,4]],[],[(5,[en 0,en 1,en 2,en 3,en 4,en 5,en 6,ec 7 [21],en 8,eh 9,en 10,eh 11])]⟩
def zGb:Hint:=⟨[],[],[]⟩
def zFI:Hint:=⟨[],[],[]⟩
def zEQ:Hint:=⟨[],[],[]⟩
def zGV:Hint:=⟨[],[],[(1,[en 0,en 2,ec 1 [5],ec 3 [7],en 4,en 5,eh 6])]⟩
def uu:Hint:=⟨[hc 4 [2,3,5]],[],[(6,[en 0,en 1,en 2,en 3,en 4,en 5,en 6,en 7,en 8,en 9,ec 10 [31,36],en 11])]⟩
def zDs:Hint:=⟨[],[],[(3,[en 0,en 1,en 2,en 3,en 4,en 5,en 7,en 8,en 9,en 10,en 11,en 16,ec 6 [26],ec 12 [32],en 13,en 14,en 15,eh 17,en 18]),(4,hs 7 [ec 3 [38,39]]),(6,hs 13 [ec 6 [49]]),(9,[en 0,en 1,en 2,en 3,en 4,en 6,en 7,en 8,en 9,en 10,en 15,ec 5 [61],ec 11 [67],en 12,en 13,en 14,eh 16,en 17]),(11,hs 7 [ec 4 [75,77]]),(12,[en 0,en 1,en 2,en 3,en 4,en 6,en 7,en 8,en 9,en 10,en 12,en 13,en 14,en 15,en 16,en 21,ec 5 [83],ec 11 [89],ec 17 [95],en 18,en 19,en 20,eh 22,en 23]),(13,[en 0,en 1,en 2,en 3,en 4,en 5,ec 6 [103,105],en 7,eh 8,en 9])]⟩
def zD0:Hint:=⟨[],[],[]⟩
def s9:Hint:=⟨[hc 3 [0,1,5,6] [(5,65,4)]],[],[(5,hs 26 [ec 5 [18]]),(6,[en 0,en 1,en 2,en 3,en 4,en 5,en 6,en 7,en 8,en 9,en 10,en 12,en 13,en 14,en 15,en 16,ec 11 [50],en 17,en 18,eh 19,eh 20])]⟩
def zDp:Hint:=⟨[],[],[(1,hs 5 [ec 1 [3]])]⟩
def zCd:Hint:=⟨[],[],[(3,[en 0,en 1,en 2,en 3,en 4,en 5,en 6,en 12,ec 7 [22],ec 8 [21],en 9,en 10,en 11,eh 13,en 14]),(7,hs 4 [ec 1 [36]]),(9,[en 0,en 2,ec 1 [42],ec 3 [44],eh 4,en 5]),(11,hs 7 [ec 4 [53]])]⟩
def zCS:Hint:=⟨[hc 5 [0,1,4,6,7]],[],[]⟩
def zEq:Hint:=⟨[],[],[(6,[en 0,en 1,en 2,en 3,en 4,en 5,en 6,en 7,en 8,en 9,en 10,en 11,en 12,en 13,en 14,ec 15 [34,37],en 16,eh 17,en 18]),(7,[en 0,en 1,en 2,en 3,en 4,en 5,en 6,en 7,en 8,en 9,en 10,en 11,en 12,en 13,en 14,ec 15 [51,54],en 16]),(8,hs 9 [ec 6 [62]])]⟩
def qe:Hint:=⟨[hc 24 [0,2,4,6,13,14] [(13,27,2)]],[],[(6,hs 8 [ec 5 [43]]),(14,hs 10 [ec 3 [57]]),(20,hs 10 [ec 3 [71]]),(26,hs 14 [ec 7 [92]]),(30,hs 9 [ec 2 [105]])]⟩
def zFY:Hint:=⟨[],[],[(1,hs 10 [ec 3 [12]]),(2,hs 7 [ec 4 [20]])]⟩
def zEh:Hint:=⟨[],[],[(1,hs 9 [ec 6 [14]]),(3,hs 10 [ec 3 [22]])]⟩
def yT (Q:QT [.bool]) (N0:Nat) (s0:ByteArray) (n3:Int) (N:Nat):Prop:=AT prog 116 [.bool] Q N0 .ord (zF prog 116 2) ⟨.str s0::an 2 (.int .i64 n3::an 58 []),[],N,none⟩
def wC (Q:QT [.int .i64]) (N0:Nat) (n1 n5:Int) (y0:D) (N:Nat):Prop:=AT prog 99 [.int .i64] Q N0 .ord (zF prog 99 3) ⟨an 1 (.int .i64 n1::.pb 0 0 0 0::an 2 (.int .i64 n5::an 21 [])),[.vd y0 2],N,none⟩
def yQ (Q:QT [.int .i64]) (N0:Nat) (n3 n4:Int) (y0:D) (N:Nat):Prop:=AT prog 100 [.int .i64] Q N0 .ord (zF prog 100 3) ⟨an 1 (.pb 0 0 0 0::an 1 (.int .i64 n3::.int .i64 n4::an 17 [])),[.vd y0 2],N,none⟩
def xv (Q:QT [.bool]) (N0:Nat) (n3:Int) (y0:D) (N:Nat):Prop:=AT prog 101 [.bool] Q N0 .ord (zF prog 101 2) ⟨an 1 (.pb 0 0 0 0::an 1 (.int .i64 n3::an 35 [])),[.vd y0 2],N,none⟩
def wU (Q:QT [.bool]) (N0:Nat) (a0:Option Addr) (e0:List D) (c0:Nat) (n3:Int) (N:Nat):Prop:=AT prog 44 [.bool] Q N0 .ord (zF prog 44 2) ⟨.sv a0 4 e0 c0::an 2 (.int .i64 n3::an 34 []),[],N,none⟩
def xh (Q:QT [.bool]) (N0:Nat) (n3:Int) (y0:D) (N:Nat):Prop:=AT prog 122 [.bool] Q N0 .ord (zF prog 122 2) ⟨an 1 (.pb 0 0 0 0::an 1 (.int .i64 n3::an 24 [])),[.vd y0 9],N,none⟩
def wz (Q:QT [.bool]) (N0:Nat) (n1 n5:Int) (y0:D) (N:Nat):Prop:=AT prog 166 [.bool] Q N0 .ord (zF prog 166 4) ⟨an 1 (.int .i64 n1::.pb 0 0 0 0::an 2 (.int .i64 n5::an 20 [])),[.vd y0 9],N,none⟩
def xp (Q:QT [.int .i64]) (N0:Nat) (a0:Option Addr) (e0:List D) (c0:Nat) (s1:ByteArray) (n5:Int) (N:Nat):Prop:=AT prog 109 [.int .i64] Q N0 .ord (zF prog 109 2) ⟨.sv a0 4 e0 c0::.str s1::an 3 (.int .i64 n5::an 15 []),[],N,none⟩
def vD (Q:QT [.ag 2]) (N0:Nat) (n4:Int) (y0:D) (n1_0:Int) (a1_1:Option Addr) (e1_1:List D) (c1_1:Nat) (n2_0:Int) (a2_1:Option Addr) (e2_1:List D) (c2_1:Nat) (N:Nat):Prop:=AT prog 110 [.ag 2] Q N0 .ord (zF prog 110 3) ⟨an 1 (.pb 0 0 0 0::.pb 1 0 0 0::.pb 2 0 0 0::.int .i64 n4::an 22 []),[.vd y0 2,.var [.int .i64 n1_0,.sv a1_1 2 e1_1 c1_1],.var [.int .i64 n2_0,.sv a2_1 2 e2_1 c2_1]],N,none⟩
def yI (Q:QT [.bool]) (N0:Nat) (n5:Int) (y0 y1:D) (N:Nat):Prop:=AT prog 107 [.bool] Q N0 .ord (zF prog 107 4) ⟨an 2 (.pb 0 0 0 0::.pb 1 0 0 0::an 1 (.int .i64 n5::an 33 [])),[.vd y0 2,.vd y1 2],N,none⟩
def zu (Q:QT [.sl 4]) (N0:Nat) (a0:Option Addr) (e0:List D) (c0:Nat) (n1:Int) (m5 c5:Nat) (n6:Int) (r0:List D) (q0:Nat) (N:Nat):Prop:=AT prog 42 [.sl 4] Q N0 .ord (zF prog 42 3) ⟨.sv a0 4 e0 c0::.int .i64 n1::an 3 (.sb 0 4 0 m5 c5::.int .i64 n6::an 54 []),[.arr 65 4 r0 q0],N,none⟩
def yK (Q:QT [.ag 2,.bool]) (N0:Nat) (s0:ByteArray) (a1:Option Addr) (e1:List D) (c1:Nat) (n6 n7 n0_0:Int) (a0_1:Option Addr) (e0_1:List D) (c0_1:Nat) (N:Nat):Prop:=AT prog 246 [.ag 2,.bool] Q N0 .ord (zF prog 246 5) ⟨.str s0::.sv a1 2 e1 c1::an 2 (.pb 0 0 0 0::an 1 (.int .i64 n6::.int .i64 n7::an 36 [])),[.var [.int .i64 n0_0,.sv a0_1 2 e0_1 c0_1]],N,none⟩
def yc (Q:QT [.ag 2,.bool]) (N0:Nat) (a0:Option Addr) (e0:List D) (c0:Nat) (n2:Int) (m13 c13:Nat) (n14:Int) (y0:D) (n1_0:Int) (a1_1:Option Addr) (e1_1:List D) (c1_1:Nat) (r2:List D) (q2:Nat) (N:Nat):Prop:=AT prog 167 [.ag 2,.bool] Q N0 .ord (zF prog 167 24) ⟨.sv a0 4 e0 c0::an 1 (.int .i64 n2::an 1 (.pb 0 0 0 0::an 1 (.pb 1 0 0 0::an 6 (.sb 2 2 0 m13 c13::.int .i64 n14::an 97 [])))),[.vd y0 9,.var [.int .i64 n1_0,.sv a1_1 2 e1_1 c1_1],.arr 27 2 r2 q2],N,none⟩
def yp (Q:QT [.ag 2]) (N0:Nat) (n4:Int) (y0:D) (n1_0:Int) (a1_1:Option Addr) (e1_1:List D) (c1_1:Nat) (n2_0:Int) (m2_1 c2_1:Nat) (r3:List D) (q3:Nat) (N:Nat):Prop:=AT prog 110 [.ag 2] Q N0 .ord (zF prog 110 3) ⟨an 1 (.pb 0 0 0 0::.pb 1 0 0 0::.pb 2 0 0 0::.int .i64 n4::an 22 []),[.vd y0 2,.var [.int .i64 n1_0,.sv a1_1 2 e1_1 c1_1],.var [.int .i64 n2_0,.sb 3 2 0 m2_1 c2_1],.arr 27 2 r3 q3],N,none⟩
theorem zHg (N:Nat) (n0 n1 n2:Int) (Q:QT [.bool]) (h :
Br (decide (n0≥n1)) (∀ a,N<=a->Q (decide (n0<=n2)) a) (∀ a,N<=a->Q false a)):ACalls prog 117 [.bool] [PV.int .i64 n0,PV.int .i64 n1,PV.int .i64 n2] N Q:=
 eE (H:=zHX) (by kernel_rfl) (by kernel_rfl) h
theorem zD7 (N:Nat) (s0:ByteArray) (Q:QT [.bool]) (h :
yT Q N s0 0 N):ACalls prog 116 [.bool] [PV.str s0] N Q:=
 eE (H:=rM) (by kernel_rfl) (by kernel_rfl) h
theorem zFX (N:Nat) (x0:D) (n1:Int) (Q:QT [.int .i64]) (h :
Bel N x0->wC Q N (IntKind.i64.wrap (n1 - 1)) 0 x0 N):ACalls prog 99 [.int .i64] [PV.dg 2 x0,PV.int .i64 n1] N Q:=
 eE (H:=rx) (by kernel_rfl) (by kernel_rfl) h
theorem zFr (N:Nat) (n0 n1:Int) (Q:QT [.int .i64]) (h :
Br (decide (n0>n1)) (∀ a,N<=a->Q n0 a) (∀ a,N<=a->Q n1 a)):ACalls prog 168 [.int .i64] [PV.int .i64 n0,PV.int .i64 n1] N Q:=
 eE (H:=zFy) (by kernel_rfl) (by kernel_rfl) h
theorem qF (N:Nat) (x0:D) (Q:QT [.int .i64]) (h :
Bel N x0->yQ Q N 0 0 x0 N):ACalls prog 100 [.int .i64] [PV.dg 2 x0] N Q:=
 eE (H:=vY) (by kernel_rfl) (by kernel_rfl) h
theorem zFQ (N:Nat) (x0:D) (Q:QT [.bool]) (h :
Bel N x0->xv Q N 0 x0 N):ACalls prog 101 [.bool] [PV.dg 2 x0] N Q:=
 eE (H:=rk) (by kernel_rfl) (by kernel_rfl) h
theorem rn (N:Nat) (x0:D) (Q:QT [.bool]) (h :
Bel N x0->∀ a,N<=a->ACalls prog 99 [.int .i64] [.dg 2 x0,.int .i64 30] a (fun n c=>a<=c->Br (decide (n≥0)) (∀ a,c<=a->ACalls prog
 100 [.int .i64] [.dg 2 x0] a (fun c d=>a<=d->Br (decide (c<=8)) (∀ a,d<=a->ACalls prog 101 [.bool] [.dg 2 x0] a (fun b c=>a<=c
 -> ∀ a,c<=a->Q b a)) (∀ a,d<=a->Q false a))) (∀ a,c<=a->Q false a))):ACalls prog 34 [.bool] [PV.dg 2 x0] N Q:=
  eE (H:=qd) (by kernel_rfl) (by kernel_rfl) h
theorem zFp (N:Nat) (a0:Option Addr) (e0:List D) (c0:Nat) (Q:QT [.bool]) (h :
Bel N (D.sl a0 4 e0 c0)->wU Q N a0 e0 c0 0 N):ACalls prog 44 [.bool] [PV.sv a0 4 e0 c0] N Q:=
 eE (H:=pn) (by kernel_rfl) (by kernel_rfl) h
theorem zFS (N:Nat) (x0:D) (Q:QT [.bool]) (h :
Bel N x0->∃ n:Int,(x0.cell 0)=D.lit (.int .i64 n)/\Br (n==0) (∃ a b,∃ c:Nat,(x0.cell 1)=D.sl a 2 b c/\∀ a,N<=a->Q ((b.length:Int) ==
 0) a) (∀ a,N<=a->Q false a)):ACalls prog 229 [.bool] [PV.dg 2 x0] N Q:=
  eE (H:=zE9) (by kernel_rfl) (by kernel_rfl) h
theorem zCY (N:Nat) (s0:ByteArray) (Q:QT [.int .i64]) (h :
Br (ByteArray.toList s0==ByteArray.toList (bytes [43])) (∀ a,N<=a->Q 2 a) (Br (ByteArray.toList s0==ByteArray.toList (bytes [45])) (∀ a,N<=a ->
 Q 2 a) (Br (ByteArray.toList s0==ByteArray.toList (bytes [42])) (∀ a,N<=a->Q 2 a) (Br (ByteArray.toList s0==ByteArray.toList (bytes [61])) (∀ a,
 N<=a->Q 2 a) (Br (ByteArray.toList s0==ByteArray.toList (bytes [60])) (∀ a,N<=a->Q 2 a) (Br (ByteArray.toList s0==ByteArray.toList (bytes [38]))
 (∀ a,N<=a->Q 2 a) (Br (ByteArray.toList s0==ByteArray.toList (bytes [124])) (∀ a,N<=a->Q 2 a) (Br (ByteArray.toList s0==ByteArray.toList (bytes
 [33])) (∀ a,N<=a->Q 1 a) (∀ a,N<=a->Q 0 a))))))))):ACalls prog 231 [.int .i64] [PV.str s0] N Q:=
  eE (H:=zCn) (by kernel_rfl) (by kernel_rfl) h
theorem zC1 (N:Nat) (x0:D) (Q:QT [.bool]) (h :
Bel N x0->∃ n:Int,(x0.cell 0)=D.lit (.int .i64 n)/\Br (n==4) (∃ s,(x0.cell 1)=D.lit (.string s)/\∀ a,N<=a->ACalls prog 231 [.int .i64] [.str
 s] a (fun b c=>a<=c->Br (decide (b>0)) (∃ a,(x0.cell 2)=D.lit (.string a)/\∀ b,c<=b->Q (ByteArray.toList a==ByteArray.toList
 (bytes [])) b) (∀ a,c<=a->Q false a))) (Br (n==1) (∃ a,(x0.cell 1)=D.lit (.string a)/\∀ c,N<=c->ACalls prog 116 [.bool] [.str a]
 c (fun b a=>c<=a->Br b (∃ b,(x0.cell 2)=D.lit (.string b)/\∀ c,a<=c->Q (ByteArray.toList b==ByteArray.toList (bytes [])) c) (∀
 b,a<=b->Q false b))) (Br (n==6) (∃ a,(x0.cell 1)=D.lit (.string a)/\∀ b,N<=b->ACalls prog 116 [.bool] [.str a] b (fun a c=>
 b<=c->Br a (∃ a,(x0.cell 2)=D.lit (.string a)/\∀ b,c<=b->Q (ByteArray.toList a==ByteArray.toList (bytes [])) b) (∀ a,c
 <= a->Q false a))) (Br (n==8) (∃ a,(x0.cell 1)=D.lit (.string a)/\∀ b,N<=b->ACalls prog 116 [.bool] [.str a] b (fun a c=>b
 <= c->Br a (∃ a,(x0.cell 2)=D.lit (.string a)/\∀ b,c<=b->Q (ByteArray.toList a==ByteArray.toList (bytes [])) b) (∀ a,c<=a
 -> Q false a))) (Br (n==9) (∃ a,(x0.cell 1)=D.lit (.string a)/\∀ b,N<=b->ACalls prog 116 [.bool] [.str a] b (fun a c=>b<=c
 -> Br a (∃ a,(x0.cell 2)=D.lit (.string a)/\∀ b,c<=b->ACalls prog 116 [.bool] [.str a] b (fun a c=>b<=c->Br a (∃ a,
 (x0.cell 1)=D.lit (.string a)/\∃ b,(x0.cell 2)=D.lit (.string b)/\∀ d,c<=d->Q (!(ByteArray.toList a==ByteArray.toList b)) d)
 (∀ a,c<=a->Q false a))) (∀ a,c<=a->Q false a))) (∃ a,(x0.cell 1)=D.lit (.string a)/\Br (ByteArray.toList a==ByteArray.toList
 (bytes [])) (∃ a,(x0.cell 2)=D.lit (.string a)/\∀ b,N<=b->Q (ByteArray.toList a==ByteArray.toList (bytes [])) b) (∀ a,N<=a->Q
 false a))))))):ACalls prog 230 [.bool] [PV.dg 9 x0] N Q:=
  eE (H:=zC4) (by kernel_rfl) (by kernel_rfl) h
theorem zBx (N:Nat) (x0:D) (Q:QT [.bool]) (h :
Bel N x0->∃ n:Int,(x0.cell 0)=D.lit (.int .i64 n)/\Br (n==6) (∀ a,N<=a->ACalls prog 34 [.bool] [.dg 2 (D.sub x0 4 2)] a (fun b c=>a<=c
 -> Br (!(true==b)) (∀ a,c<=a->Q false a) (∃ a:Int,(x0.cell 0)=D.lit (.int .i64 a)/\∀ b,c<=b->ACalls prog 34 [.bool] [.dg 2 (D.sub
 x0 6 2)] b (fun c d=>b<=d->Br (!((a==9)==c)) (∀ a,d<=a->Q false a) (∃ a:Int,(x0.cell 0)=D.lit (.int .i64 a)/\Br (bne a
 9) (∀ a,d<=a->ACalls prog 229 [.bool] [.dg 2 (D.sub x0 6 2)] a (fun b c=>a<=c->Br (!b) (∀ a,c<=a->Q false a) (∃ a:Int,(x0.cell
 0)=D.lit (.int .i64 a)/\Br (a==2) (∃ a:Int,(x0.cell 3)=D.lit (.int .i64 a)/\∀ b,c<=b->ACalls prog 117 [.bool] [.int .i64 a,.int
 .i64 0,.int .i64 10006] b (fun a c=>b<=c->Br a (∀ a,c<=a->ACalls prog 230 [.bool] [.dg 9 x0] a (fun b c=>a<=c ->
 ∀ a,c<=a->Q b a)) (∀ a,c<=a->Q false a))) (Br (a==3) (∃ a:Int,(x0.cell 3)=D.lit (.int .i64 a)/\∀ b,c<=b ->
 ACalls prog 117 [.bool] [.int .i64 a,.int .i64 0,.int .i64 1] b (fun a c=>b<=c->Br a (∀ a,c<=a->ACalls prog 230 [.bool] [.dg
 9 x0] a (fun b c=>a<=c->∀ a,c<=a->Q b a)) (∀ a,c<=a->Q false a))) (∃ a:Int,(x0.cell 3)=D.lit (.int .i64
 a)/\∀ b,c<=b->ACalls prog 117 [.bool] [.int .i64 a,.int .i64 0,.int .i64 0] b (fun a c=>b<=c->Br a (∀ a,c<=a->ACalls
 prog 230 [.bool] [.dg 9 x0] a (fun b c=>a<=c->∀ a,c<=a->Q b a)) (∀ a,c<=a->Q false a))))))) (∃ a:Int,(x0.cell
 0)=D.lit (.int .i64 a)/\Br (a==2) (∃ a:Int,(x0.cell 3)=D.lit (.int .i64 a)/\∀ b,d<=b->ACalls prog 117 [.bool] [.int .i64 a,.int
 .i64 0,.int .i64 10006] b (fun a c=>b<=c->Br a (∀ a,c<=a->ACalls prog 230 [.bool] [.dg 9 x0] a (fun b c=>a<=c
 -> ∀ a,c<=a->Q b a)) (∀ a,c<=a->Q false a))) (Br (a==3) (∃ a:Int,(x0.cell 3)=D.lit (.int .i64 a)/\∀ b,d<=b
 -> ACalls prog 117 [.bool] [.int .i64 a,.int .i64 0,.int .i64 1] b (fun a c=>b<=c->Br a (∀ a,c<=a->ACalls prog 230 [.bool] [.dg
 9 x0] a (fun b c=>a<=c->∀ a,c<=a->Q b a)) (∀ a,c<=a->Q false a))) (∃ a:Int,(x0.cell 3)=D.lit (.int .i64
 a)/\∀ b,d<=b->ACalls prog 117 [.bool] [.int .i64 a,.int .i64 0,.int .i64 0] b (fun a c=>b<=c->Br a (∀ a,c<=a
 -> ACalls prog 230 [.bool] [.dg 9 x0] a (fun b c=>a<=c->∀ a,c<=a->Q b a)) (∀ a,c<=a->Q false a)))))))))) (∃ a
 : Int,(x0.cell 0)=D.lit (.int .i64 a)/\∀ b,N<=b->ACalls prog 34 [.bool] [.dg 2 (D.sub x0 4 2)] b (fun c d=>b<=d->Br (!((a ==
 9)==c)) (∀ a,d<=a->Q false a) (Br (!(a==9)) (∀ a,d<=a->ACalls prog 229 [.bool] [.dg 2 (D.sub x0 4 2)] a (fun b c=>
 a<=c->Br (!b) (∀ a,c<=a->Q false a) (∃ a:Int,(x0.cell 0)=D.lit (.int .i64 a)/\∀ b,c<=b->ACalls prog 34 [.bool]
 [.dg 2 (D.sub x0 6 2)] b (fun c d=>b<=d->Br (!((a==9)==c)) (∀ a,d<=a->Q false a) (∃ a:Int,(x0.cell 0)=D.lit (.int
 .i64 a)/\Br (bne a 9) (∀ a,d<=a->ACalls prog 229 [.bool] [.dg 2 (D.sub x0 6 2)] a (fun b c=>a<=c->Br (!b) (∀ a,c
 <= a->Q false a) (∃ a:Int,(x0.cell 0)=D.lit (.int .i64 a)/\Br (a==2) (∃ a:Int,(x0.cell 3)=D.lit (.int .i64 a)/\∀ b,c <=
 b->ACalls prog 117 [.bool] [.int .i64 a,.int .i64 0,.int .i64 10006] b (fun a c=>b<=c->Br a (∀ a,c<=a->ACalls prog 230
 [.bool] [.dg 9 x0] a (fun b c=>a<=c->∀ a,c<=a->Q b a)) (∀ a,c<=a->Q false a))) (Br (a==3) (∃ a:Int,
 (x0.cell 3)=D.lit (.int .i64 a)/\∀ b,c<=b->ACalls prog 117 [.bool] [.int .i64 a,.int .i64 0,.int .i64 1] b (fun a c=>b<=c
 -> Br a (∀ a,c<=a->ACalls prog 230 [.bool] [.dg 9 x0] a (fun b c=>a<=c->∀ a,c<=a->Q b a)) (∀ a,c<=a
 -> Q false a))) (∃ a:Int,(x0.cell 3)=D.lit (.int .i64 a)/\∀ b,c<=b->ACalls prog 117 [.bool] [.int .i64 a,.int .i64 0,.int .i64 0]
 b (fun a c=>b<=c->Br a (∀ a,c<=a->ACalls prog 230 [.bool] [.dg 9 x0] a (fun b c=>a<=c->∀ a,c<=a ->
 Q b a)) (∀ a,c<=a->Q false a))))))) (∃ a:Int,(x0.cell 0)=D.lit (.int .i64 a)/\Br (a==2) (∃ a:Int,(x0.cell 3)=D.lit
 (.int .i64 a)/\∀ b,d<=b->ACalls prog 117 [.bool] [.int .i64 a,.int .i64 0,.int .i64 10006] b (fun a c=>b<=c->Br a (∀ a,
 c<=a->ACalls prog 230 [.bool] [.dg 9 x0] a (fun b c=>a<=c->∀ a,c<=a->Q b a)) (∀ a,c<=a->Q false a)))
 (Br (a==3) (∃ a:Int,(x0.cell 3)=D.lit (.int .i64 a)/\∀ b,d<=b->ACalls prog 117 [.bool] [.int .i64 a,.int .i64 0,.int .i64 1] b
 (fun a c=>b<=c->Br a (∀ a,c<=a->ACalls prog 230 [.bool] [.dg 9 x0] a (fun b c=>a<=c->∀ a,c<=a->Q b
 a)) (∀ a,c<=a->Q false a))) (∃ a:Int,(x0.cell 3)=D.lit (.int .i64 a)/\∀ b,d<=b->ACalls prog 117 [.bool] [.int .i64 a,
 .int .i64 0,.int .i64 0] b (fun a c=>b<=c->Br a (∀ a,c<=a->ACalls prog 230 [.bool] [.dg 9 x0] a (fun b c=>a<=c
 -> ∀ a,c<=a->Q b a)) (∀ a,c<=a->Q false a)))))))))) (∃ a:Int,(x0.cell 0)=D.lit (.int .i64 a)/\∀ b,d<=b->ACalls
 prog 34 [.bool] [.dg 2 (D.sub x0 6 2)] b (fun c d=>b<=d->Br (!((a==9)==c)) (∀ a,d<=a->Q false a) (∃ a:Int,(x0.cell
 0)=D.lit (.int .i64 a)/\Br (bne a 9) (∀ a,d<=a->ACalls prog 229 [.bool] [.dg 2 (D.sub x0 6 2)] a (fun b c=>a<=c->Br (!b)
 (∀ a,c<=a->Q false a) (∃ a:Int,(x0.cell 0)=D.lit (.int .i64 a)/\Br (a==2) (∃ a:Int,(x0.cell 3)=D.lit (.int .i64 a)/\∀
 b,c<=b->ACalls prog 117 [.bool] [.int .i64 a,.int .i64 0,.int .i64 10006] b (fun a c=>b<=c->Br a (∀ a,c<=a
 -> ACalls prog 230 [.bool] [.dg 9 x0] a (fun b c=>a<=c->∀ a,c<=a->Q b a)) (∀ a,c<=a->Q false a)))
 (Br (a==3) (∃ a:Int,(x0.cell 3)=D.lit (.int .i64 a)/\∀ b,c<=b->ACalls prog 117 [.bool] [.int .i64 a,.int .i64 0,.int .i64 1]
 b (fun a c=>b<=c->Br a (∀ a,c<=a->ACalls prog 230 [.bool] [.dg 9 x0] a (fun b c=>a<=c->∀ a,c
 <= a->Q b a)) (∀ a,c<=a->Q false a))) (∃ a:Int,(x0.cell 3)=D.lit (.int .i64 a)/\∀ b,c<=b->ACalls prog 117
 [.bool] [.int .i64 a,.int .i64 0,.int .i64 0] b (fun a c=>b<=c->Br a (∀ a,c<=a->ACalls prog 230 [.bool] [.dg 9 x0]
 a (fun b c=>a<=c->∀ a,c<=a->Q b a)) (∀ a,c<=a->Q false a))))))) (∃ a:Int,(x0.cell 0)=D.lit
 (.int .i64 a)/\Br (a==2) (∃ a:Int,(x0.cell 3)=D.lit (.int .i64 a)/\∀ b,d<=b->ACalls prog 117 [.bool] [.int .i64 a,.int .i64
 0,.int .i64 10006] b (fun a c=>b<=c->Br a (∀ a,c<=a->ACalls prog 230 [.bool] [.dg 9 x0] a (fun b c=>a
 <= c->∀ a,c<=a->Q b a)) (∀ a,c<=a->Q false a))) (Br (a==3) (∃ a:Int,(x0.cell 3)=D.lit (.int .i64 a)
 /\ ∀ b,d<=b->ACalls prog 117 [.bool] [.int .i64 a,.int .i64 0,.int .i64 1] b (fun a c=>b<=c->Br a (∀ a,c<=a
 -> ACalls prog 230 [.bool] [.dg 9 x0] a (fun b c=>a<=c->∀ a,c<=a->Q b a)) (∀ a,c<=a->Q false a)))
 (∃ a:Int,(x0.cell 3)=D.lit (.int .i64 a)/\∀ b,d<=b->ACalls prog 117 [.bool] [.int .i64 a,.int .i64 0,.int .i64 0] b (fun a
 c=>b<=c->Br a (∀ a,c<=a->ACalls prog 230 [.bool] [.dg 9 x0] a (fun b c=>a<=c->∀ a,c<=a->Q
 b a)) (∀ a,c<=a->Q false a)))))))))))):ACalls prog 181 [.bool] [PV.dg 9 x0] N Q:=
  eE (H:=zA4) (by kernel_rfl) (by kernel_rfl) h
theorem zCx (N:Nat) (x0:D) (Q:QT [.int .i64]) (h :
Bel N x0->∃ n:Int,(x0.cell 0)=D.lit (.int .i64 n)/\Br (n==1) (∀ a,N<=a->Q 0 a) (Br (n==2) (∀ a,N<=a->Q 0 a) (Br (n==3) (∀ a,N <=
 a->Q 0 a) (Br (n==4) (∃ s,(x0.cell 1)=D.lit (.string s)/\∀ a,N<=a->ACalls prog 231 [.int .i64] [.str s] a (fun b c=>a<=c->∀ a,
 c<=a->Q b a)) (Br (n==6) (∀ a,N<=a->Q 1 a) (Br (n==9) (∀ a,N<=a->Q 1 a) (Br (n==10) (∀ a,N<=a->Q 1 a) (Br (n==11) (∀
 a,N<=a->Q 1 a) (Br (n==12) (∀ a,N<=a->Q 1 a) (Br (n==13) (∀ a,N<=a->Q 1 a) (Br (n==7) (∀ a,N<=a->Q 2 a) (Br
 (n==8) (∀ a,N<=a->Q 2 a) (Br (n==5) (∀ a,N<=a->Q 3 a) (∀ a,N<=a->Q (-1) a)))))))))))))):ACalls prog 182 [.int .i64] [PV.dg 9 x0] N Q:=
  eE (H:=zC5) (by kernel_rfl) (by kernel_rfl) h
theorem zE3 (N:Nat) (x0:D) (Q:QT [.bool]) (h :
Bel N x0->xh Q N 0 x0 N):ACalls prog 122 [.bool] [PV.dg 9 x0] N Q:=
 eE (H:=qI) (by kernel_rfl) (by kernel_rfl) h
theorem zEv (N:Nat) (x0:D) (n1:Int) (Q:QT [.int .i64]) (h :
Bel N x0->∃ n:Int,(x0.cell 0)=D.lit (.int .i64 n)/\Br (n==10) (∀ a,N<=a->Q (IntKind.i64.wrap (n1+1)) a) (Br (n==11) (∀ a,N<=a->Q (IntKind.i64.wrap
 (n1 - 1)) a) (∀ a,N<=a->Q n1 a))):ACalls prog 215 [.int .i64] [PV.dg 9 x0,PV.int .i64 n1] N Q:=
  eE (H:=zEJ) (by kernel_rfl) (by kernel_rfl) h
theorem zHY (N:Nat) (x0:D) (n1:Int) (Q:QT [.bool]) (h :
Bel N x0->∀ a,N<=a->ACalls prog 117 [.bool] [.int .i64 n1,.int .i64 0,.int .i64 2] a (fun b c=>a<=c->Br (!b) (∀ a,c<=a->Q false a)
 (wz Q N n1 0 x0 c))):ACalls prog 166 [.bool] [PV.dg 9 x0,PV.int .i64 n1] N Q:=
  eE (H:=zBh) (by kernel_rfl) (by kernel_rfl) h
theorem zBt (N:Nat) (x0:D) (n1:Int) (Q:QT [.bool]) (h :
Bel N x0->∀ a,N<=a->ACalls prog 122 [.bool] [.dg 9 x0] a (fun b c=>a<=c->Br b (∀ a,c<=a->ACalls prog 166 [.bool] [.dg 9 x0,.int .i64
 n1] a (fun b c=>a<=c->∀ a,c<=a->Q b a)) (∀ a,c<=a->Q false a))):ACalls prog 96 [.bool] [PV.dg 9 x0,PV.int .i64 n1] N Q:=
  eE (H:=zBd) (by kernel_rfl) (by kernel_rfl) h
theorem zEK (N:Nat) (a0:Option Addr) (e0:List D) (c0:Nat) (s1:ByteArray) (Q:QT [.int .i64]) (h :
Bel N (D.sl a0 4 e0 c0)->xp Q N a0 e0 c0 s1 (IntKind.i64.wrap ((e0.length:Int) - 1)) N):ACalls prog 109 [.int .i64] [PV.sv a0 4 e0 c0,PV.str s1] N Q:=
 eE (H:=qH) (by kernel_rfl) (by kernel_rfl) h
theorem zFB (N:Nat) (x0:D) (Q:QT [.ag 2]) (h :
Bel N x0->∃ n:Int,(x0.cell 0)=D.lit (.int .i64 n)/\vD Q N 0 x0 0 Option.none [] 0 n Option.none [] 0 N):ACalls prog 110 [.ag 2] [PV.dg 2 x0] N Q:=
 eE (H:=uP) (by kernel_rfl) (by kernel_rfl) h
theorem zGv (N:Nat)  (Q:QT [.ag 2]) (h :
∀ a,N<=a->Q (D.ag [D.lit (.int .i64 1),D.sl Option.none 2 [] 0]) a):ACalls prog 130 [.ag 2] [] N Q:=
  eE (H:=zGb) (by kernel_rfl) (by kernel_rfl) h
theorem zDu (N:Nat)  (Q:QT [.ag 2]) (h :
∀ a,N<=a->Q (D.ag [D.lit (.int .i64 2),D.sl Option.none 2 [] 0]) a):ACalls prog 151 [.ag 2] [] N Q:=
  eE (H:=zFI) (by kernel_rfl) (by kernel_rfl) h
theorem zFW (N:Nat) (a0:Option Addr) (e0:List D) (c0:Nat) (s1:ByteArray) (x2:D) (n3:Int) (Q:QT [.sl 4]) (h :
Bel N (D.sl a0 4 e0 c0)->Bel N x2->(0=0/\0=0)/\zA [] e0 56/\∀ (c:Nat),(([]++e0).length=([]++e0).length/\c=c)/\zA ([]++e0) [D.ag
 [D.lit (.string s1),(x2.cell 0),(x2.cell 1),D.lit (.int .i64 n3)]] 56/\∀ (b:Nat),(([]++e0++[D.ag [D.lit (.string s1),(x2.cell 0),(x2.cell 1),D.lit
 (.int .i64 n3)]]).length=([]++e0++[D.ag [D.lit (.string s1),(x2.cell 0),(x2.cell 1),D.lit (.int .i64 n3)]]).length/\b=b)/\(([]++e0++[D.ag [D.lit
 (.string s1),(x2.cell 0),(x2.cell 1),D.lit (.int .i64 n3)]]).length=([]++e0++[D.ag [D.lit (.string s1),(x2.cell 0),(x2.cell 1),D.lit (.int .i64 n3)]]).length
 /\ b=b)/\∀ a c,N<=c->Fresh N c a [D.ag ([]++e0++[D.ag [D.lit (.string s1),(x2.cell 0),(x2.cell 1),D.lit (.int .i64 n3)]])]->∀ d,c<=d
 -> Q a ([]++e0++[D.ag [D.lit (.string s1),(x2.cell 0),(x2.cell 1),D.lit (.int .i64 n3)]]) b d):ACalls prog 162 [.sl 4] [PV.sv a0 4 e0 c0,PV.str s1,PV.dg 2 x2,PV.int .i64 n3] N Q:=
  eE (H:=zEQ) (by kernel_rfl) (by kernel_rfl) h
theorem pu (N:Nat) (x0 x1:D) (Q:QT [.ag 2]) (h :
Bel N x0->Bel N x1->∀ b,N<=b->ACalls prog 110 [.ag 2] [.dg 2 x0] b (fun x c=>b<=c->Bel c x->∀ b,c<=b->ACalls prog 110 [.ag 2] [.dg
 2 x1] b (fun c d=>b<=d->Bel d c->(2=([x,c]).length/\2=2)/\(2=([x,c]).length/\2=2)/\(2=([x,c]).length/\2=2)/\∀ a b,
 d<=b->Fresh N b a [D.ag [x,c]]->∀ d,b<=d->Q (D.ag [D.lit (.int .i64 3),D.sl a 2 [x,c] 2]) d))):ACalls prog 153 [.ag 2] [PV.dg 2 x0,PV.dg 2 x1] N Q:=
  eE (H:=zGV) (by kernel_rfl) (by kernel_rfl) h
theorem zAi (N:Nat) (x0 x1:D) (Q:QT [.bool]) (h :
Bel N x0->Bel N x1->∃ n:Int,(x0.cell 0)=D.lit (.int .i64 n)/\∃ b:Int,(x1.cell 0)=D.lit (.int .i64 b)/\Br (bne n b) (∀ a,N<=a->Q false
 a) (∃ a b,∃ c:Nat,(x0.cell 1)=D.sl a 2 b c/\∃ a c,∃ d:Nat,(x1.cell 1)=D.sl a 2 c d/\Br (bne (b.length:Int) (c.length:Int))
 (∀ a,N<=a->Q false a) (yI Q N 0 x0 x1 N))):ACalls prog 107 [.bool] [PV.dg 2 x0,PV.dg 2 x1] N Q:=
  eE (H:=uu) (by kernel_rfl) (by kernel_rfl) h
theorem uX (N:Nat) (a0:Option Addr) (e0:List D) (c0:Nat) (x1:D) (n2:Int) (Q:QT [.ag 2,.bool]) (h :
Bel N (D.sl a0 4 e0 c0)->Bel N x1->∃ n:Int,(x1.cell 0)=D.lit (.int .i64 n)/\Br (n==6) (∃ s,(x1.cell 1)=D.lit (.string s)/\∃ a d,∃ c:Nat,(x1.cell
 8)=D.sl a 9 d c/\((0:Int)<=(0:Int)/\0<(d.length:Int))/\∀ a,N<=a->ACalls prog 162 [.sl 4] [.sv a0 4 e0 c0,.str s,.dg 2 (D.sub x1 4 2),.int
 .i64 n2] a (fun c e f g=>a<=g->Bel g (D.sl c 4 e f)->∀ a,g<=a->ACalls prog 97 [.ag 2,.bool] [.sv c 4 e f,.dg 9 (List.getD
 d 0 default),.int .i64 n2] a (fun x b c=>a<=c->Bel c x->∀ a,c<=a->ACalls prog 153 [.ag 2] [.dg 2 (D.sub x1 4 2),.dg 2 x] a (fun c
 d=>a<=d->Bel d c->∀ a,d<=a->Q c b a)))) (Br (n==8) (∃ a b,∃ c:Nat,(x1.cell 8)=D.sl a 9 b c/\((0:Int)<=(0 :
 Int)/\0<(b.length:Int))/\∀ a,N<=a->ACalls prog 97 [.ag 2,.bool] [.sv a0 4 e0 c0,.dg 9 (List.getD b 0 default),.int .i64 n2] a (fun b c
 d=>a<=d->Bel d b->Br (!c) (∀ a,d<=a->Q (D.ag [D.lit (.int .i64 0),D.sl Option.none 2 [] 0]) false a) (∃ a,(x1.cell 1)=D.lit
 (.string a)/\∃ c e,∃ f:Nat,(x1.cell 8)=D.sl c 9 e f/\((0:Int)<=(1:Int)/\1<(e.length:Int))/\∀ c,d<=c->ACalls prog
 162 [.sl 4] [.sv a0 4 e0 c0,.str a,.dg 2 b,.int .i64 n2] c (fun a b d f=>c<=f->Bel f (D.sl a 4 b d)->∀ c,f<=c
 -> ACalls prog 97 [.ag 2,.bool] [.sv a 4 b d,.dg 9 (List.getD e 1 default),.int .i64 n2] c (fun a b d=>c<=d->Bel d a->∀ c,
 d<=c->Q a b c))))) (∀ a,N<=a->ACalls prog 153 [.ag 2] [.dg 2 (D.sub x1 4 2),.dg 2 (D.sub x1 6 2)] a (fun b c=>a<=c->Bel
 c b->∃ a,(x1.cell 1)=D.lit (.string a)/\∃ d,(x1.cell 2)=D.lit (.string d)/\∃ e f,∃ g:Nat,(x1.cell 8)=D.sl e 9 f g/\((0
 : Int)<=(0:Int)/\0<(f.length:Int))/\∀ e,c<=e->ACalls prog 162 [.sl 4] [.sv a0 4 e0 c0,.str a,.dg 2 b,.int .i64 n2] e (fun a c
 g h=>e<=h->Bel h (D.sl a 4 c g)->∀ e,h<=e->ACalls prog 162 [.sl 4] [.sv a 4 c g,.str d,.dg 2 (D.sub x1 4 2),.int
 .i64 n2] e (fun a c d g=>e<=g->Bel g (D.sl a 4 c d)->∀ e,g<=e->ACalls prog 97 [.ag 2,.bool] [.sv a 4 c d,.dg
 9 (List.getD f 0 default),.int .i64 n2] e (fun a c d=>e<=d->Bel d a->Br c (∀ c,d<=c->ACalls prog 107 [.bool] [.dg 2 a,
 .dg 2 (D.sub x1 6 2)] c (fun a d=>c<=d->∀ c,d<=c->Q b a c)) (∀ a,d<=a->Q b false a)))))))):ACalls prog 216 [.ag 2,.bool] [PV.sv a0 4 e0 c0,PV.dg 9 x1,PV.int .i64 n2] N Q:=
  eE (H:=zDs) (by kernel_rfl) (by kernel_rfl) h
theorem zEc (N:Nat) (x0:D) (Q:QT [.bool]) (h :
Bel N x0->∃ n:Int,(x0.cell 0)=D.lit (.int .i64 n)/\Br (n==1) (∃ a b,∃ c:Nat,(x0.cell 1)=D.sl a 2 b c/\∀ a,N<=a->Q ((b.length:Int) ==
 0) a) (∃ a:Int,(x0.cell 0)=D.lit (.int .i64 a)/\Br (a==2) (∃ a b,∃ c:Nat,(x0.cell 1)=D.sl a 2 b c/\∀ a,N<=a->Q ((b.length
 : Int)==0) a) (∀ a,N<=a->Q false a))):ACalls prog 108 [.bool] [PV.dg 2 x0] N Q:=
  eE (H:=zD0) (by kernel_rfl) (by kernel_rfl) h
theorem zC0 (N:Nat) (a0:Option Addr) (e0:List D) (c0:Nat) (n1:Int) (Q:QT [.sl 4]) (h :
Bel N (D.sl a0 4 e0 c0)->zu Q N a0 e0 c0 n1 0 0 0 [] 0 N):ACalls prog 42 [.sl 4] [PV.sv a0 4 e0 c0,PV.int .i64 n1] N Q:=
 eE (H:=s9) (by kernel_rfl) (by kernel_rfl) h
theorem rh (N:Nat) (x0:D) (Q:QT [.ag 2]) (h :
Bel N x0->∀ b,N<=b->ACalls prog 110 [.ag 2] [.dg 2 x0] b (fun x c=>b<=c->Bel c x->(1=([x]).length/\1=1)/\(1=([x]).length/\1=1)
 /\ (1=([x]).length/\1=1)/\∀ a b,c<=b->Fresh N b a [D.ag [x]]->∀ c,b<=c->Q (D.ag [D.lit (.int .i64 4),D.sl a 2 [x] 1]) c)):ACalls prog 152 [.ag 2] [PV.dg 2 x0] N Q:=
  eE (H:=zDp) (by kernel_rfl) (by kernel_rfl) h
theorem zCc (N:Nat) (a0:Option Addr) (e0:List D) (c0:Nat) (x1:D) (n2:Int) (Q:QT [.ag 2,.bool]) (h :
Bel N (D.sl a0 4 e0 c0)->Bel N x1->∃ n:Int,(x1.cell 0)=D.lit (.int .i64 n)/\Br (n==12) (∀ d,N<=d->ACalls prog 42 [.sl 4] [.sv a0 4 e0 c0,.int .i64
 n2] d (fun a c e f=>d<=f->Bel f (D.sl a 4 c e)->∃ d g,∃ h:Nat,(x1.cell 8)=D.sl d 9 g h/\((0:Int)<=(0:Int)/\0<(g.length
 : Int))/\∀ d,f<=d->ACalls prog 215 [.int .i64] [.dg 9 x1,.int .i64 n2] d (fun f h=>d<=h->∀ d,h<=d->ACalls prog 97 [.ag 2,.bool]
 [.sv a 4 c e,.dg 9 (List.getD g 0 default),.int .i64 f] d (fun x b a=>d<=a->Bel a x->Br (!b) (∀ b,a<=b->Q (D.ag [D.lit (.int .i64
 0),D.sl Option.none 2 [] 0]) false b) (∃ b:Int,(x1.cell 0)=D.lit (.int .i64 b)/\Br (b==10) (∀ b,a<=b->ACalls prog 152 [.ag 2] [.dg 2 x]
 b (fun a c=>b<=c->Bel c a->∀ b,c<=b->Q a true b)) (∃ b:Int,(x1.cell 0)=D.lit (.int .i64 b)/\Br (b==13) (∀ b,
 a<=b->ACalls prog 152 [.ag 2] [.dg 2 x] b (fun a c=>b<=c->Bel c a->∀ b,c<=b->ACalls prog 108 [.bool] [.dg 2 x] b (fun
 c d=>b<=d->∀ b,d<=b->Q a c b))) (∃ b:Int,(x.cell 0)=D.lit (.int .i64 b)/\Br (b==4) (∃ b c,∃ d:Nat,(x.cell
 1)=D.sl b 2 c d/\((0:Int)<=(0:Int)/\0<(c.length:Int))/\∀ b,a<=b->ACalls prog 110 [.ag 2] [.dg 2 (List.getD c 0 default)] b
 (fun a c=>b<=c->Bel c a->∀ b,c<=b->Q a true b)) (∀ b,a<=b->Q (D.ag [D.lit (.int .i64 0),D.sl Option.none 2 [] 0])
 false b)))))))) (∃ a b,∃ c:Nat,(x1.cell 8)=D.sl a 9 b c/\((0:Int)<=(0:Int)/\0<(b.length:Int))/\∀ a,N<=a->ACalls prog
 215 [.int .i64] [.dg 9 x1,.int .i64 n2] a (fun c d=>a<=d->∀ a,d<=a->ACalls prog 97 [.ag 2,.bool] [.sv a0 4 e0 c0,.dg 9 (List.getD
 b 0 default),.int .i64 c] a (fun b c d=>a<=d->Bel d b->Br (!c) (∀ a,d<=a->Q (D.ag [D.lit (.int .i64 0),D.sl Option.none
 2 [] 0]) false a) (∃ a:Int,(x1.cell 0)=D.lit (.int .i64 a)/\Br (a==10) (∀ a,d<=a->ACalls prog 152 [.ag 2] [.dg 2 b] a (fun b
 c=>a<=c->Bel c b->∀ a,c<=a->Q b true a)) (∃ a:Int,(x1.cell 0)=D.lit (.int .i64 a)/\Br (a==13) (∀ a,d<=a
 -> ACalls prog 152 [.ag 2] [.dg 2 b] a (fun c d=>a<=d->Bel d c->∀ a,d<=a->ACalls prog 108 [.bool] [.dg 2 b] a (fun b
 d=>a<=d->∀ a,d<=a->Q c b a))) (∃ a:Int,(b.cell 0)=D.lit (.int .i64 a)/\Br (a==4) (∃ a c,∃ e:Nat,(b.cell
 1)=D.sl a 2 c e/\((0:Int)<=(0:Int)/\0<(c.length:Int))/\∀ a,d<=a->ACalls prog 110 [.ag 2] [.dg 2 (List.getD c 0 default)] a
 (fun b c=>a<=c->Bel c b->∀ a,c<=a->Q b true a)) (∀ a,d<=a->Q (D.ag [D.lit (.int .i64 0),D.sl Option.none 2 []
 0]) false a)))))))):ACalls prog 217 [.ag 2,.bool] [PV.sv a0 4 e0 c0,PV.dg 9 x1,PV.int .i64 n2] N Q:=
  eE (H:=zCd) (by kernel_rfl) (by kernel_rfl) h
theorem zHK (N:Nat) (s0:ByteArray) (a1:Option Addr) (e1:List D) (c1:Nat) (Q:QT [.ag 2,.bool]) (h :
Bel N (D.sl a1 2 e1 c1)->Br (ByteArray.toList s0==ByteArray.toList (bytes [38])) (yK Q N s0 a1 e1 c1 2 0 0 Option.none [] 0 N) (Br (ByteArray.toList
 s0==ByteArray.toList (bytes [124])) (yK Q N s0 a1 e1 c1 2 0 0 Option.none [] 0 N) (Br (ByteArray.toList s0==ByteArray.toList (bytes [33])) (yK
 Q N s0 a1 e1 c1 2 0 0 Option.none [] 0 N) (yK Q N s0 a1 e1 c1 1 0 0 Option.none [] 0 N)))):ACalls prog 246 [.ag 2,.bool] [PV.str s0,PV.sv a1 2 e1 c1] N Q:=
  eE (H:=zCS) (by kernel_rfl) (by kernel_rfl) h
theorem zER (N:Nat) (x0:D) (a1:Option Addr) (e1:List D) (c1:Nat) (Q:QT [.ag 2,.bool]) (h :
Bel N x0->Bel N (D.sl a1 2 e1 c1)->∃ n:Int,(x0.cell 0)=D.lit (.int .i64 n)/\Br (n==4) (∃ s,(x0.cell 1)=D.lit (.string s)/\∀ a,N<=a->ACalls prog
 246 [.ag 2,.bool] [.str s,.sv a1 2 e1 c1] a (fun x b c=>a<=c->Bel c x->∀ a,c<=a->Q x b a)) (Br (n==5) (((0:Int)<=(1:Int)/\1 <
 (e1.length:Int))/\((0:Int)<=(0:Int)/\0<(e1.length:Int))/\∃ a:Int,(if 0=0 then D.cell (List.getD e1 0 default) 0 else D.sub (List.getD e1 0 default)
 0 0)=D.lit (.int .i64 a)/\Br (a==2) (((0:Int)<=(1:Int)/\1<(e1.length:Int))/\((0:Int)<=(2:Int)/\2<(e1.length:Int))/\∀ a,N<=a
 -> ACalls prog 107 [.bool] [.dg 2 (List.getD e1 1 default),.dg 2 (List.getD e1 2 default)] a (fun b c=>a<=c->∀ a,c<=a->Q (List.getD e1 1 default)
 b a)) (∀ a,N<=a->Q (List.getD e1 1 default) false a)) (((0:Int)<=(0:Int)/\0<(e1.length:Int))/\∃ b:Int,(if 0=0 then D.cell (List.getD
 e1 0 default) 0 else D.sub (List.getD e1 0 default) 0 0)=D.lit (.int .i64 b)/\Br (b==3) (((0:Int)<=(0:Int)/\0<(e1.length:Int))/\∃ a b,∃ c :
 Nat,(if 0=0 then D.cell (List.getD e1 0 default) 1 else D.sub (List.getD e1 0 default) 1 0)=D.sl a 2 b c/\((0:Int)<=(0:Int)/\0<(b.length:Int))
 /\ ((0:Int)<=(1:Int)/\1<(e1.length:Int))/\∀ a,N<=a->ACalls prog 107 [.bool] [.dg 2 (List.getD b 0 default),.dg 2 (List.getD e1 1 default)] a
 (fun b c=>a<=c->Br b (((0:Int)<=(0:Int)/\0<(e1.length:Int))/\∃ a b,∃ d:Nat,(if 0=0 then D.cell (List.getD e1 0 default) 1 else
 D.sub (List.getD e1 0 default) 1 0)=D.sl a 2 b d/\((0:Int)<=(1:Int)/\1<(b.length:Int))/\∀ a,c<=a->ACalls prog 110 [.ag 2] [.dg
 2 (List.getD b 1 default)] a (fun b c=>a<=c->Bel c b->∀ a,c<=a->Q b true a)) (∀ a,c<=a->Q (D.ag [D.lit (.int
 .i64 0),D.sl Option.none 2 [] 0]) false a))) (∀ a,N<=a->Q (D.ag [D.lit (.int .i64 0),D.sl Option.none 2 [] 0]) false a)))):ACalls prog 218 [.ag 2,.bool] [PV.dg 9 x0,PV.sv a1 2 e1 c1] N Q:=
  eE (H:=zEq) (by kernel_rfl) (by kernel_rfl) h
theorem zET (N:Nat) (a0:Option Addr) (e0:List D) (c0:Nat) (x1:D) (n2:Int) (Q:QT [.ag 2,.bool]) (h :
Bel N (D.sl a0 4 e0 c0)->Bel N x1->∃ n:Int,(x1.cell 0)=D.lit (.int .i64 n)/\Br (n==1) (∃ s,(x1.cell 1)=D.lit (.string s)/\∀ a,N<=a->ACalls prog
 109 [.int .i64] [.sv a0 4 e0 c0,.str s] a (fun b c=>a<=c->Br (decide (b<0)) (∀ a,c<=a->Q (D.ag [D.lit (.int .i64 0),D.sl Option.none
 2 [] 0]) false a) ((0<=b/\b<(e0.length:Int))/\∃ a:Int,(if 0=0 then D.cell (List.getD e0 b.toNat default) 3 else D.sub (List.getD e0 b.toNat
 default) 3 0)=D.lit (.int .i64 a)/\Br (bne a n2) (∀ a,c<=a->Q (D.ag [D.lit (.int .i64 0),D.sl Option.none 2 [] 0]) false a) ((0<=b/\b <
 (e0.length:Int))/\∀ a,c<=a->ACalls prog 110 [.ag 2] [.dg 2 (if 2=0 then D.cell (List.getD e0 b.toNat default) 1 else D.sub (List.getD e0 b.toNat
 default) 1 2)] a (fun x b=>a<=b->Bel b x->∀ a,b<=a->Q x true a))))) (Br (n==2) (∀ a,N<=a->ACalls prog 130 [.ag 2] [] a (fun
 b c=>a<=c->Bel c b->∀ a,c<=a->Q b true a)) (Br (n==3) (∀ a,N<=a->ACalls prog 151 [.ag 2] [] a (fun b c=>a
 <= c->Bel c b->∀ a,c<=a->Q b true a)) (Br (n==6) (∀ a,N<=a->ACalls prog 216 [.ag 2,.bool] [.sv a0 4 e0 c0,.dg 9 x1,.int .i64
 n2] a (fun b c d=>a<=d->Bel d b->∀ a,d<=a->Q b c a)) (Br (n==8) (∀ a,N<=a->ACalls prog 216 [.ag 2,.bool] [.sv
 a0 4 e0 c0,.dg 9 x1,.int .i64 n2] a (fun b c d=>a<=d->Bel d b->∀ a,d<=a->Q b c a)) (Br (n==9) (∀ a,N<=a
 -> ACalls prog 216 [.ag 2,.bool] [.sv a0 4 e0 c0,.dg 9 x1,.int .i64 n2] a (fun b c d=>a<=d->Bel d b->∀ a,d<=a->Q b c
 a)) (Br (n==10) (∀ a,N<=a->ACalls prog 217 [.ag 2,.bool] [.sv a0 4 e0 c0,.dg 9 x1,.int .i64 n2] a (fun b c d=>a<=d->Bel d
 b->∀ a,d<=a->Q b c a)) (Br (n==11) (∀ a,N<=a->ACalls prog 217 [.ag 2,.bool] [.sv a0 4 e0 c0,.dg 9 x1,.int .i64 n2] a (fun
 b c d=>a<=d->Bel d b->∀ a,d<=a->Q b c a)) (Br (n==12) (∀ a,N<=a->ACalls prog 217 [.ag 2,.bool] [.sv a0 4 e0
 c0,.dg 9 x1,.int .i64 n2] a (fun b c d=>a<=d->Bel d b->∀ a,d<=a->Q b c a)) (Br (n==13) (∀ a,N<=a->ACalls
 prog 217 [.ag 2,.bool] [.sv a0 4 e0 c0,.dg 9 x1,.int .i64 n2] a (fun b c d=>a<=d->Bel d b->∀ a,d<=a->Q b c a)) (yc
 Q N a0 e0 c0 n2 0 0 0 x1 0 Option.none [] 0 [] 0 N))))))))))):ACalls prog 167 [.ag 2,.bool] [PV.sv a0 4 e0 c0,PV.dg 9 x1,PV.int .i64 n2] N Q:=
  eE (H:=qe) (by kernel_rfl) (by kernel_rfl) h
theorem zE6 (N:Nat) (a0:Option Addr) (e0:List D) (c0:Nat) (x1:D) (n2:Int) (Q:QT [.ag 2,.bool]) (h :
Bel N (D.sl a0 4 e0 c0)->Bel N x1->∀ a,N<=a->ACalls prog 167 [.ag 2,.bool] [.sv a0 4 e0 c0,.dg 9 x1,.int .i64 n2] a (fun x b c=>a<=c->Bel
 c x->Br (!b) (∀ a,c<=a->Q (D.ag [D.lit (.int .i64 0),D.sl Option.none 2 [] 0]) false a) (∀ a,c<=a->ACalls prog 34 [.bool] [.dg 2 x] a (fun
 b c=>a<=c->Br (!b) (∀ a,c<=a->Q (D.ag [D.lit (.int .i64 0),D.sl Option.none 2 [] 0]) false a) (∀ a,c<=a->Q x true a))))):ACalls prog 97 [.ag 2,.bool] [PV.sv a0 4 e0 c0,PV.dg 9 x1,PV.int .i64 n2] N Q:=
  eE (H:=zFY) (by kernel_rfl) (by kernel_rfl) h
theorem zFU (N:Nat) (a0:Option Addr) (e0:List D) (c0:Nat) (x1:D) (n2:Int) (Q:QT [.ag 2,.bool]) (h :
Bel N (D.sl a0 4 e0 c0)->Bel N x1->∀ a,N<=a->ACalls prog 44 [.bool] [.sv a0 4 e0 c0] a (fun b c=>a<=c->Br (!b) (∀ a,c<=a->Q (D.ag [D.lit
 (.int .i64 0),D.sl Option.none 2 [] 0]) false a) (∀ a,c<=a->ACalls prog 96 [.bool] [.dg 9 x1,.int .i64 n2] a (fun b c=>a<=c->Br (!b)
 (∀ a,c<=a->Q (D.ag [D.lit (.int .i64 0),D.sl Option.none 2 [] 0]) false a) (∀ a,c<=a->ACalls prog 97 [.ag 2,.bool] [.sv a0 4 e0 c0,.dg 9 x1,
 .int .i64 n2] a (fun x b c=>a<=c->Bel c x->∀ a,c<=a->Q x b a)))))):ACalls prog 32 [.ag 2,.bool] [PV.sv a0 4 e0 c0,PV.dg 9 x1,PV.int .i64 n2] N Q:=
  eE (H:=zEh) (by kernel_rfl) (by kernel_rfl) h
theorem tV (Q:QT [.bool]) (N0:Nat) (s0:ByteArray) (n3:Int) (N:Nat) (h :
Br (decide (n3<(s0.size:Int))) ((0<=n3/\n3<(s0.size:Int))/\Br (decide ((UInt8.toNat (Array.getD (ByteArray.data s0) n3.toNat (OfNat.ofNat 0)):Int) ≥
 97)) ((0<=n3/\n3<(s0.size:Int))/\Br (!(decide ((UInt8.toNat (Array.getD (ByteArray.data s0) n3.toNat (OfNat.ofNat 0)):Int)<=122))) (Br (n3==0) (∀ a,
 N<=a->Q false a) ((0<=n3/\n3<(s0.size:Int))/\Br (decide ((UInt8.toNat (Array.getD (ByteArray.data s0) n3.toNat (OfNat.ofNat 0)):Int)<48)) (∀ a,
 N<=a->Q false a) ((0<=n3/\n3<(s0.size:Int))/\Br (decide ((UInt8.toNat (Array.getD (ByteArray.data s0) n3.toNat (OfNat.ofNat 0)):Int)>57)) (∀ a,
 N<=a->Q false a) (yT Q N0 s0 (IntKind.i64.wrap (n3+1)) N)))) (yT Q N0 s0 (IntKind.i64.wrap (n3+1)) N)) (Br (n3==0) (∀ a,
 N<=a->Q false a) ((0<=n3/\n3<(s0.size:Int))/\Br (decide ((UInt8.toNat (Array.getD (ByteArray.data s0) n3.toNat (OfNat.ofNat 0)):Int)<48)) (∀ a,
 N<=a->Q false a) ((0<=n3/\n3<(s0.size:Int))/\Br (decide ((UInt8.toNat (Array.getD (ByteArray.data s0) n3.toNat (OfNat.ofNat 0)):Int)>57)) (∀ a,
 N<=a->Q false a) (yT Q N0 s0 (IntKind.i64.wrap (n3+1)) N))))) (∀ a,N<=a->ACalls prog 117 [.bool] [.int .i64 (s0.size:Int),.int .i64
 1,.int .i64 4] a (fun b c=>a<=c->Br b (Br (!(ByteArray.toList s0==ByteArray.toList (bytes [105,102]))) (Br (!(ByteArray.toList s0==ByteArray.toList
 (bytes [108,101,116]))) (Br (!(ByteArray.toList s0==ByteArray.toList (bytes [114,101,99]))) (Br (!(ByteArray.toList s0==ByteArray.toList (bytes [114,117,
 110]))) (∀ a,c<=a->Q (!(ByteArray.toList s0==ByteArray.toList (bytes [108,105,102,116]))) a) (∀ a,c<=a->Q false a)) (∀ a,c <=
 a->Q false a)) (∀ a,c<=a->Q false a)) (∀ a,c<=a->Q false a)) (∀ a,c<=a->Q false a)))):yT Q N0 s0 n3 N:=
  hE (H:=rM) (by kernel_rfl) h
theorem tg (Q:QT [.int .i64]) (N0:Nat) (n1 n5:Int) (y0:D) (N:Nat) (h :
∃ a b,∃ c:Nat,(y0.cell 1)=D.sl a 2 b c/\Br (decide (n5<(b.length:Int))) (Br (decide (n1≥0)) (∃ a b,∃ c:Nat,(y0.cell 1)=D.sl a 2 b
 c/\(0<=n5/\n5<(b.length:Int))/\∀ a,N<=a->ACalls prog 99 [.int .i64] [.dg 2 (List.getD b n5.toNat default),.int .i64 n1] a (fun n b=>
 a<=b->wC Q N0 n (IntKind.i64.wrap (n5+1)) y0 b)) (∀ a,N<=a->Q n1 a)) (∀ a,N<=a->Q n1 a)):wC Q N0 n1 n5 y0 N:=
  hE (H:=rx) (by kernel_rfl) h
theorem wn (Q:QT [.int .i64]) (N0:Nat) (n3 n4:Int) (y0:D) (N:Nat) (h :
∃ a b,∃ c:Nat,(y0.cell 1)=D.sl a 2 b c/\Br (decide (n4<(b.length:Int))) (∃ a b,∃ c:Nat,(y0.cell 1)=D.sl a 2 b c/\(0<=n4/\n4
 < (b.length:Int))/\∀ a,N<=a->ACalls prog 100 [.int .i64] [.dg 2 (List.getD b n4.toNat default)] a (fun n b=>a<=b->∀ a,b<=a ->
 ACalls prog 168 [.int .i64] [.int .i64 n3,.int .i64 n] a (fun b c=>a<=c->yQ Q N0 b (IntKind.i64.wrap (n4+1)) y0 c))) (∀ a,
 N<=a->Q (IntKind.i64.wrap (n3+1)) a)):yQ Q N0 n3 n4 y0 N:=
  hE (H:=vY) (by kernel_rfl) h
theorem te (Q:QT [.bool]) (N0:Nat) (n3:Int) (y0:D) (N:Nat) (h :
∃ a d,∃ c:Nat,(y0.cell 1)=D.sl a 2 d c/\Br (decide (n3<(d.length:Int))) (∃ a c,∃ d:Nat,(y0.cell 1)=D.sl a 2 c d/\(0<=n3/\n3
 < (c.length:Int))/\∀ a,N<=a->ACalls prog 101 [.bool] [.dg 2 (List.getD c n3.toNat default)] a (fun b c=>a<=c->Br (!b) (∀ a,c<=a
 -> Q false a) (xv Q N0 (IntKind.i64.wrap (n3+1)) y0 c))) (∃ n:Int,(y0.cell 0)=D.lit (.int .i64 n)/\Br (n==1) (∃ a b,∃ c:Nat,
 (y0.cell 1)=D.sl a 2 b c/\∀ a,N<=a->Q ((b.length:Int)==0) a) (Br (n==2) (∃ a b,∃ c:Nat,(y0.cell 1)=D.sl a 2 b c /\
 ∀ a,N<=a->Q ((b.length:Int)==0) a) (Br (n==3) (∃ a b,∃ c:Nat,(y0.cell 1)=D.sl a 2 b c/\∀ a,N<=a->Q ((b.length :
 Int)==2) a) (Br (n==4) (∃ a b,∃ c:Nat,(y0.cell 1)=D.sl a 2 b c/\∀ a,N<=a->Q ((b.length:Int)==1) a) (∀ a,N<=a->Q
 false a)))))):xv Q N0 n3 y0 N:=
  hE (H:=rk) (by kernel_rfl) h
theorem rA (Q:QT [.bool]) (N0:Nat) (a0:Option Addr) (e0:List D) (c0:Nat) (n3:Int) (N:Nat) (h :
Br (decide (n3<(e0.length:Int))) ((0<=n3/\n3<(e0.length:Int))/\∃ s,(if 0=0 then D.cell (List.getD e0 n3.toNat default) 0 else D.sub (List.getD e0 n3.toNat
 default) 0 0)=D.lit (.string s)/\∀ a,N<=a->ACalls prog 116 [.bool] [.str s] a (fun b c=>a<=c->Br (!b) (∀ a,c<=a->Q false a) ((0
 <= n3/\n3<(e0.length:Int))/\∀ a,c<=a->ACalls prog 34 [.bool] [.dg 2 (if 2=0 then D.cell (List.getD e0 n3.toNat default) 1 else D.sub (List.getD e0
 n3.toNat default) 1 2)] a (fun b c=>a<=c->Br (!b) (∀ a,c<=a->Q false a) ((0<=n3/\n3<(e0.length:Int))/\∃ n:Int,(if 0=0 then
 D.cell (List.getD e0 n3.toNat default) 3 else D.sub (List.getD e0 n3.toNat default) 3 0)=D.lit (.int .i64 n)/\∀ a,c<=a->ACalls prog 117 [.bool] [.int
 .i64 n,.int .i64 0,.int .i64 2] a (fun b c=>a<=c->Br (!b) (∀ a,c<=a->Q false a) (wU Q N0 a0 e0 c0 (IntKind.i64.wrap (n3
 + 1)) c))))))) (∀ a,N<=a->Q (decide ((e0.length:Int)<=12)) a)):wU Q N0 a0 e0 c0 n3 N:=
  hE (H:=pn) (by kernel_rfl) h
theorem tN (Q:QT [.bool]) (N0:Nat) (n3:Int) (y0:D) (N:Nat) (h :
∃ a d,∃ c:Nat,(y0.cell 8)=D.sl a 9 d c/\Br (decide (n3<(d.length:Int))) (∃ a c,∃ d:Nat,(y0.cell 8)=D.sl a 9 c d/\(0<=n3/\n3
 < (c.length:Int))/\∀ a,N<=a->ACalls prog 122 [.bool] [.dg 9 (List.getD c n3.toNat default)] a (fun b c=>a<=c->Br (!b) (∀ a,c<=a
 -> Q false a) (xh Q N0 (IntKind.i64.wrap (n3+1)) y0 c))) (∀ a,N<=a->ACalls prog 181 [.bool] [.dg 9 y0] a (fun b c=>a<=c->Br
 b (∃ a b,∃ d:Nat,(y0.cell 8)=D.sl a 9 b d/\∀ a,c<=a->ACalls prog 182 [.int .i64] [.dg 9 y0] a (fun n c=>a<=c->∀ a,
 c<=a->Q ((b.length:Int)==n) a)) (∀ a,c<=a->Q false a)))):xh Q N0 n3 y0 N:=
  hE (H:=qI) (by kernel_rfl) h
theorem qG (Q:QT [.bool]) (N0:Nat) (n1 n5:Int) (y0:D) (N:Nat) (h :
∃ a d,∃ c:Nat,(y0.cell 8)=D.sl a 9 d c/\Br (decide (n5<(d.length:Int))) (∃ a c,∃ d:Nat,(y0.cell 8)=D.sl a 9 c d/\(0<=n5/\n5
 < (c.length:Int))/\∀ a,N<=a->ACalls prog 215 [.int .i64] [.dg 9 y0,.int .i64 n1] a (fun n d=>a<=d->∀ a,d<=a->ACalls prog 166 [.bool]
 [.dg 9 (List.getD c n5.toNat default),.int .i64 n] a (fun b c=>a<=c->Br (!b) (∀ a,c<=a->Q false a) (wz Q N0 n1 (IntKind.i64.wrap
 (n5+1)) y0 c)))) (∀ a,N<=a->Q true a)):wz Q N0 n1 n5 y0 N:=
  hE (H:=zBh) (by kernel_rfl) h
theorem tK (Q:QT [.int .i64]) (N0:Nat) (a0:Option Addr) (e0:List D) (c0:Nat) (s1:ByteArray) (n5:Int) (N:Nat) (h :
Br (decide (n5≥0)) ((0<=n5/\n5<(e0.length:Int))/\∃ s,(if 0=0 then D.cell (List.getD e0 n5.toNat default) 0 else D.sub (List.getD e0 n5.toNat default)
 0 0)=D.lit (.string s)/\Br (ByteArray.toList s==ByteArray.toList s1) (∀ a,N<=a->Q n5 a) (xp Q N0 a0 e0 c0 s1 (IntKind.i64.wrap (n5 - 1))
 N)) (∀ a,N<=a->Q (-1) a)):xp Q N0 a0 e0 c0 s1 n5 N:=
  hE (H:=qH) (by kernel_rfl) h
theorem tQ (Q:QT [.ag 2]) (N0:Nat) (n4:Int) (y0:D) (n1_0:Int) (a1_1:Option Addr) (e1_1:List D) (c1_1:Nat) (n2_0:Int) (a2_1:Option Addr) (e2_1:List D) (c2_1:Nat) (N:Nat) (h :
∃ a b,∃ c:Nat,(y0.cell 1)=D.sl a 2 b c/\Br (decide (n4<(b.length:Int))) (∃ a b,∃ c:Nat,(y0.cell 1)=D.sl a 2 b c/\(0<=n4/\n4
 < (b.length:Int))/\∀ a,N<=a->ACalls prog 110 [.ag 2] [.dg 2 (List.getD b n4.toNat default)] a (fun x b=>a<=b->Bel b x->zMn a2_1 e2_1
 c2_1 [x]/\zA e2_1 [x] 32/\∀ (a:Nat),yp Q N0 (IntKind.i64.wrap (n4+1)) y0 n1_0 a1_1 e1_1 c1_1 n2_0 (e2_1++[x]).length a (e2_1 ++
 [x]) a b)) (∀ a,N<=a->Q (D.ag [D.lit (.int .i64 n2_0),D.sl a2_1 2 e2_1 c2_1]) a)):vD Q N0 n4 y0 n1_0 a1_1 e1_1 c1_1 n2_0 a2_1 e2_1 c2_1 N:=
  hE (H:=uP) (by kernel_rfl) h
theorem ve (Q:QT [.bool]) (N0:Nat) (n5:Int) (y0 y1:D) (N:Nat) (h :
∃ a d,∃ c:Nat,(y0.cell 1)=D.sl a 2 d c/\Br (decide (n5<(d.length:Int))) (∃ a c,∃ d:Nat,(y0.cell 1)=D.sl a 2 c d/\(0<=n5/\n5
 < (c.length:Int))/\∃ a d,∃ e:Nat,(y1.cell 1)=D.sl a 2 d e/\(0<=n5/\n5<(d.length:Int))/\∀ a,N<=a->ACalls prog 107 [.bool]
 [.dg 2 (List.getD c n5.toNat default),.dg 2 (List.getD d n5.toNat default)] a (fun b c=>a<=c->Br (!b) (∀ a,c<=a->Q false a) (yI
 Q N0 (IntKind.i64.wrap (n5+1)) y0 y1 c))) (∀ a,N<=a->Q true a)):yI Q N0 n5 y0 y1 N:=
  hE (H:=uu) (by kernel_rfl) h
theorem uy (Q:QT [.sl 4]) (N0:Nat) (a0:Option Addr) (e0:List D) (c0:Nat) (n1:Int) (m5 c5:Nat) (n6:Int) (r0:List D) (q0:Nat) (N:Nat) (h :
Br (decide (n6<(e0.length:Int))) ((0<=n6/\n6<(e0.length:Int))/\∀ a,N<=a->ACalls prog 108 [.bool] [.dg 2 (if 2=0 then D.cell (List.getD e0 n6.toNat
 default) 1 else D.sub (List.getD e0 n6.toNat default) 1 2)] a (fun b d=>a<=d->Br b ((0<=n6/\n6<(e0.length:Int))/\∃ n:Int,(if 0=0 then D.cell
 (List.getD e0 n6.toNat default) 3 else D.sub (List.getD e0 n6.toNat default) 3 0)=D.lit (.int .i64 n)/\Br (decide (n<=n1)) ((0<=n6/\n6<(e0.length:Int))
 /\ ∃ s,(if 0=0 then D.cell (List.getD e0 n6.toNat default) 0 else D.sub (List.getD e0 n6.toNat default) 0 0)=D.lit (.string s)/\∀ a,d<=a->ACalls prog
 109 [.int .i64] [.sv a0 4 e0 c0,.str s] a (fun b d=>a<=d->Br (b==n6) ((0<=n6/\n6<(e0.length:Int))/\∃ a,(if 0=0 then D.cell (List.getD
 e0 n6.toNat default) 0 else D.sub (List.getD e0 n6.toNat default) 0 0)=D.lit (.string a)/\(0<=n6/\n6<(e0.length:Int))/\(0<=n6/\n6<(e0.length:Int))
 /\ ∃ b:Int,(if 0=0 then D.cell (List.getD e0 n6.toNat default) 3 else D.sub (List.getD e0 n6.toNat default) 3 0)=D.lit (.int .i64 b)/\∀ e,d<=e
 -> ACalls prog 110 [.ag 2] [.dg 2 (if 2=0 then D.cell (List.getD e0 n6.toNat default) 1 else D.sub (List.getD e0 n6.toNat default) 1 2)] e (fun x d=>e <=
 d->Bel d x->(m5=r0.length/\c5=q0)/\zA r0 [D.ag [D.lit (.string a),(x.cell 0),(x.cell 1),D.lit (.int .i64 b)]] 56/\∀ (c:Nat),zu
 Q N0 a0 e0 c0 n1 (r0++[D.ag [D.lit (.string a),(x.cell 0),(x.cell 1),D.lit (.int .i64 b)]]).length c (IntKind.i64.wrap (n6+1)) (r0++[D.ag [D.lit (.string
 a),(x.cell 0),(x.cell 1),D.lit (.int .i64 b)]]) c d)) (zu Q N0 a0 e0 c0 n1 m5 c5 (IntKind.i64.wrap (n6+1)) r0 q0 d))) (zu
 Q N0 a0 e0 c0 n1 m5 c5 (IntKind.i64.wrap (n6+1)) r0 q0 d)) (zu Q N0 a0 e0 c0 n1 m5 c5 (IntKind.i64.wrap (n6+1)) r0 q0 d))) ((m5=r0.length
 /\ c5=q0)/\(m5=r0.length/\c5=q0)/\(m5=r0.length/\c5=q0)/\∀ a b,N<=b->Fresh N0 b a [D.ag r0]->∀ c,b<=c->Q a r0 q0 c)):zu Q N0 a0 e0 c0 n1 m5 c5 n6 r0 q0 N:=
  hE (H:=s9) (by kernel_rfl) h
theorem rj (Q:QT [.ag 2,.bool]) (N0:Nat) (s0:ByteArray) (a1:Option Addr) (e1:List D) (c1:Nat) (n6 n7 n0_0:Int) (a0_1:Option Addr) (e0_1:List D) (c0_1:Nat) (N:Nat) (h :
Br (decide (n7<(e1.length:Int))) ((0<=n7/\n7<(e1.length:Int))/\∃ n:Int,(if 0=0 then D.cell (List.getD e1 n7.toNat default) 0 else D.sub (List.getD
 e1 n7.toNat default) 0 0)=D.lit (.int .i64 n)/\Br (bne n n6) (∀ a,N<=a->Q (D.ag [D.lit (.int .i64 0),D.sl Option.none 2 [] 0]) false a) (yK
 Q N0 s0 a1 e1 c1 n6 (IntKind.i64.wrap (n7+1)) n0_0 a0_1 e0_1 c0_1 N)) (Br (ByteArray.toList s0==ByteArray.toList (bytes [43])) (∀ a,N<=a->ACalls prog
 130 [.ag 2] [] a (fun x b=>a<=b->Bel b x->∀ a,b<=a->Q x true a)) (Br (ByteArray.toList s0==ByteArray.toList (bytes [45])) (∀ a,N <=
 a->ACalls prog 130 [.ag 2] [] a (fun b c=>a<=c->Bel c b->∀ a,c<=a->Q b true a)) (Br (ByteArray.toList s0==ByteArray.toList (bytes
 [42])) (∀ a,N<=a->ACalls prog 130 [.ag 2] [] a (fun b c=>a<=c->Bel c b->∀ a,c<=a->Q b true a)) (∀ a,N<=a->ACalls
 prog 151 [.ag 2] [] a (fun b c=>a<=c->Bel c b->∀ a,c<=a->Q b true a)))))):yK Q N0 s0 a1 e1 c1 n6 n7 n0_0 a0_1 e0_1 c0_1 N:=
  hE (H:=zCS) (by kernel_rfl) h
theorem u6 (Q:QT [.ag 2,.bool]) (N0:Nat) (a0:Option Addr) (e0:List D) (c0:Nat) (n2:Int) (m13 c13:Nat) (n14:Int) (y0:D) (n1_0:Int) (a1_1:Option Addr) (e1_1:List D) (c1_1:Nat) (r2:List D) (q2:Nat) (N:Nat) (h :
∃ a d,∃ c:Nat,(y0.cell 8)=D.sl a 9 d c/\Br (decide (n14<(d.length:Int))) (∃ a c,∃ d:Nat,(y0.cell 8)=D.sl a 9 c d/\(0<=n14/\n14
 < (c.length:Int))/\∀ a,N<=a->ACalls prog 97 [.ag 2,.bool] [.sv a0 4 e0 c0,.dg 9 (List.getD c n14.toNat default),.int .i64 n2] a (fun x b c
 => a<=c->Bel c x->Br (!b) (∀ a,c<=a->Q (D.ag [D.lit (.int .i64 0),D.sl Option.none 2 [] 0]) false a) ((m13=r2.length/\c13=q2)/\zA
 r2 [x] 32/\∀ (a:Nat),yc Q N0 a0 e0 c0 n2 (r2++[x]).length a (IntKind.i64.wrap (n14+1)) y0 n1_0 a1_1 e1_1 c1_1 (r2++[x]) a c))) ((m13
 = r2.length/\c13=q2)/\∀ a,ApA a r2->Off [a] y0->∀ b,N<=b->vQ b [a]->ACalls prog 218 [.ag 2,.bool] [.dg 9 y0,.sv a 2 r2 c13] b (fun
 c d e=>b<=e->Off [a] c/\(Bel e c->∀ a,e<=a->Q c d a)))):yc Q N0 a0 e0 c0 n2 m13 c13 n14 y0 n1_0 a1_1 e1_1 c1_1 r2 q2 N:=
  hE (H:=qe) (by kernel_rfl) h
theorem vg (Q:QT [.ag 2]) (N0:Nat) (n4:Int) (y0:D) (n1_0:Int) (a1_1:Option Addr) (e1_1:List D) (c1_1:Nat) (n2_0:Int) (m2_1 c2_1:Nat) (r3:List D) (q3:Nat) (N:Nat) (h :
∃ a b,∃ c:Nat,(y0.cell 1)=D.sl a 2 b c/\Br (decide (n4<(b.length:Int))) (∃ a b,∃ c:Nat,(y0.cell 1)=D.sl a 2 b c/\(0<=n4/\n4
 < (b.length:Int))/\∀ a,N<=a->ACalls prog 110 [.ag 2] [.dg 2 (List.getD b n4.toNat default)] a (fun x b=>a<=b->Bel b x->(m2_1=r3.length
 /\ c2_1=q3)/\zA r3 [x] 32/\∀ (a:Nat),yp Q N0 (IntKind.i64.wrap (n4+1)) y0 n1_0 a1_1 e1_1 c1_1 n2_0 (r3++[x]).length a (r3++[x])
 a b)) ((m2_1=r3.length/\c2_1=q3)/\(m2_1=r3.length/\c2_1=q3)/\(m2_1=r3.length/\c2_1=q3)/\∀ a b,N<=b->Fresh N0 b a [D.ag r3]->∀
 c,b<=c->Q (D.ag [D.lit (.int .i64 n2_0),D.sl a 2 r3 q3]) c)):yp Q N0 n4 y0 n1_0 a1_1 e1_1 c1_1 n2_0 m2_1 c2_1 r3 q3 N:=
  hE (H:=uP) (by kernel_rfl) h
end Go.Proofs.YtkdjhkfiolhkiaaGreat
