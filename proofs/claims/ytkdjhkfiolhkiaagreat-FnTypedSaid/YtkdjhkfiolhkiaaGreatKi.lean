/- Printed by gen.py: what the functions come to. -/
import Derived.Test.YtkdjhkfiolhkiaaGreatJh
set_option linter.unusedVariables false
set_option maxRecDepth 100000
namespace Go.Proofs.YtkdjhkfiolhkiaaGreat
open Go Go.Proofs Go.Proofs.Tryz
def zDq:Hint:=⟨[],[],[]⟩
def vN:Hint:=⟨[hc 2 [0,1,7,8]],[],[]⟩
def tB:Hint:=⟨[],[],[]⟩
def qQ:Hint:=⟨[hc 2 [0,6,7]],[],[]⟩
def uK:Hint:=⟨[hc 3 [3,7,8,9]],[],[(5,hs 5 [ec 2 [14]])]⟩
def vm:Hint:=⟨[hc 3 [3,7,8,9]],[],[(5,hs 5 [ec 2 [14]])]⟩
def sa:Hint:=⟨[],[],[(1,[en 0,en 1,eh 2,en 3,en 4,en 5,en 6,en 7,en 8,en 9,en 10,en 11,en 12,en 13,en 14,en 15])]⟩
def qp:Hint:=⟨[],[],[(1,hs 5 [ec 2 [4]])]⟩
def wF:Hint:=⟨[hc 2 [0,1,7,8]],[],[(4,hs 6 [ec 5 [15]])]⟩
def vT:Hint:=⟨[],[],[]⟩
def zCH:Hint:=⟨[],[],[(1,hs 11 [ec 2 [6]])]⟩
def r9:Hint:=⟨[],[],[(1,hs 13 [ec 1 [3],ec 5 [7],ec 10 [12]])]⟩
def zCq:Hint:=⟨[],[],[(1,hs 17 [ec 7 [9]])]⟩
def xC:Hint:=⟨[hc 2 [0,1,7,8]],[],[(4,hs 6 [ec 5 [15]])]⟩
def w4:Hint:=⟨[],[],[]⟩
def zGt:Hint:=⟨[],[],[]⟩
def zCh:Hint:=⟨[],[],[]⟩
def zGB:Hint:=⟨[],[],[]⟩
def zBH:Hint:=⟨[],[],[]⟩
def zCz:Hint:=⟨[],[],[(12,hs 9 [ec 6 [34]]),(14,hs 26 [ec 18 [56],ec 23 [61]])]⟩
def xu:Hint:=⟨[hc 4 [1,2,15,16,17]],[],[(7,hs 5 [ec 3 [27,28]])]⟩
def zAR:Hint:=⟨[],[],[]⟩
def zFa:Hint:=⟨[],[],[(1,[en 0,en 1,en 2,en 3,ec 4 [7],en 5]),(14,[en 0,en 1,en 2,en 3,en 4,eh 5,en 6,eh 7]),(16,[en 0,en 1,en 2,en 3,en 4,en 5,en 6,en 7,en 8,eh 9,en 10,eh 11,en 12,eh 13,en 14,eh 15]),(17,hs 38 [ec 1 [54],ec 28 [79,81],ec 35 [86,88]])]⟩
def qw:Hint:=⟨[],[],[(1,hs 5 [ec 2 [4]])]⟩
def wH:Hint:=⟨[hc 2 [0,1,7,8]],[],[(4,hs 6 [ec 5 [15]])]⟩
def vR:Hint:=⟨[],[],[]⟩
def zCN:Hint:=⟨[],[],[(1,hs 11 [ec 2 [6]])]⟩
def zFA:Hint:=⟨[],[],[(1,hs 3 [ec 1 [3]])]⟩
def pO:Hint:=⟨[],[],[]⟩
def zAK:Hint:=⟨[],[],[]⟩
def qD:Hint:=⟨[hc 4 [1,2,3,15,16,17]],[],[(1,hs 5 [ec 3 [10]]),(6,[en 0,en 1,en 2,en 4,ec 3 [22],ec 5 [21],en 6])]⟩
def zAz:Hint:=⟨[],[],[(1,hs 8 [ec 1 [5],ec 5 [8]])]⟩
def pQ:Hint:=⟨[],[],[(1,[en 0,en 1,en 2,en 3,en 4,en 5,en 6,ec 7 [11],eh 8])]⟩
def tl:Hint:=⟨[hc 2 [0,1,5]],[],[]⟩
def vF:Hint:=⟨[hc 3 [2,3,10,11,12]],[],[(5,[en 0,en 1,en 2,ec 3 [18],en 4,eh 5,en 6,eh 7])]⟩
def zGe:Hint:=⟨[],[],[]⟩
def zD2:Hint:=⟨[],[],[]⟩
def rr:Hint:=⟨[hc 11 [4,5,6,22,23,24]],[],[(13,hs 4 [ec 2 [28,29]])]⟩
def tf:Hint:=⟨[],[],[]⟩
def zHM:Hint:=⟨[],[],[]⟩
def zGG:Hint:=⟨[],[],[(1,[en 0,en 2,ec 1 [5],ec 3 [7],en 4,en 5,eh 6])]⟩
def zFD:Hint:=⟨[],[],[(1,hs 5 [ec 1 [3]])]⟩
def zEO:Hint:=⟨[],[],[(3,hs 6 [ec 4 [10]])]⟩
def zD9:Hint:=⟨[],[],[]⟩
def sw:Hint:=⟨[hc 3 [0,1,5,9,10,11] [(5,65,4)]],[],[(5,hs 17 [ec 2 [17]]),(6,[en 0,en 1,en 2,en 3,en 4,en 6,en 7,ec 5 [37],en 8,en 9,eh 10,eh 11])]⟩
def zAb:Hint:=⟨[],[],[(3,hs 10 [ec 7 [17]]),(5,hs 3 [ec 1 [24]]),(7,hs 10 [ec 7 [32],ec 8 [35]]),(9,[en 0,en 1,en 3,en 4,en 5,en 6,en 7,eh 2,ec 8 [45],ec 9 [47],eh 10]),(11,hs 9 [ec 6 [55]]),(12,hs 2 [ec 1 [58]]),(13,hs 3 [ec 1 [60]])]⟩
def tX:Hint:=⟨[hc 15 [4,6,7,9,57,58] [(9,27,2)]],[],[(5,[en 0,en 1,en 2,en 3,en 4,en 5,en 6,en 7,en 8,en 9,en 10]),(6,hs 7 [ec 5 [43]]),(22,hs 9 [ec 3 [79,80],ec 7 [83,84]]),(27,[en 0,en 1,en 2,en 3,en 4,en 5,en 6,en 7,en 8,ec 9 [102,103],en 10]),(28,hs 6 [ec 4 [109]]),(31,[en 0,en 1,en 2,en 3,en 4,en 5,en 6,en 7,en 9,en 10,en 11,en 12,en 13,en 15,eh 8,ec 14 [126],eh 16]),(34,hs 5 [ec 3 [134,135]]),(39,[en 0,en 1,en 2,en 3,en 4,en 5,en 6,en 8,en 9,en 10,en 11,en 12,eh 7,ec 13 [156],eh 14]),(41,hs 7 [ec 4 [162,164]]),(42,[en 0,en 1,en 2,en 3,en 4,en 5,en 6,en 7,en 8,en 9,en 10,en 11,en 12,en 14,en 15,en 16,en 17,en 18,en 20,eh 13,ec 19 [183],eh 21]),(43,hs 4 [ec 3 [186,188]]),(46,hs 5 [ec 3 [193]])]⟩
def zGq:Hint:=⟨[],[],[(1,hs 6 [ec 3 [9]]),(2,hs 3 [ec 1 [12]])]⟩
def zEX:Hint:=⟨[],[],[(1,hs 9 [ec 6 [13]]),(3,hs 6 [ec 3 [20]]),(4,[en 0,en 1,en 2,en 3,eh 4,en 5])]⟩
def yC (Q:QT [.int .i64]) (N0:Nat) (a0:Option Addr) (e0:List D) (c0:Nat) (s1:ByteArray) (n7 n8:Int) (N:Nat):Prop:=AT prog 219 [.int .i64] Q N0 .ord (zF prog 219 2) ⟨.sv a0 0 e0 c0::.str s1::an 5 (.int .i64 n7::.int .i64 n8::an 10 []),[],N,none⟩
def yR (Q:QT [.bool]) (N0:Nat) (s0:ByteArray) (n6 n7:Int) (N:Nat):Prop:=AT prog 113 [.bool] Q N0 .ord (zF prog 113 2) ⟨.str s0::an 5 (.int .i64 n6::.int .i64 n7::an 40 []),[],N,none⟩
def ya (Q:QT [.int .i64]) (N0:Nat) (n3:Int) (a7:Option Addr) (e7:List D) (c7:Nat) (n8 n9:Int) (N:Nat):Prop:=AT prog 174 [.int .i64] Q N0 .ord (zF prog 174 3) ⟨an 3 (.int .i64 n3::an 3 (.sv a7 2 e7 c7::.int .i64 n8::.int .i64 n9::an 9 [])),[],N,none⟩
def yN (Q:QT [.int .i64]) (N0:Nat) (n3:Int) (a7:Option Addr) (e7:List D) (c7:Nat) (n8 n9:Int) (N:Nat):Prop:=AT prog 175 [.int .i64] Q N0 .ord (zF prog 175 3) ⟨an 3 (.int .i64 n3::an 3 (.sv a7 2 e7 c7::.int .i64 n8::.int .i64 n9::an 10 [])),[],N,none⟩
def y6 (Q:QT [.int .i64]) (N0:Nat) (a0:Option Addr) (e0:List D) (c0:Nat) (s1:ByteArray) (n5:Int) (N:Nat):Prop:=AT prog 103 [.int .i64] Q N0 .ord (zF prog 103 2) ⟨.sv a0 4 e0 c0::.str s1::an 3 (.int .i64 n5::an 15 []),[],N,none⟩
def wP (Q:QT [.ag 2]) (N0:Nat) (a10:Option Addr) (e10:List D) (c10:Nat) (n11 n12 n0_0:Int) (a0_1:Option Addr) (e0_1:List D) (c0_1:Nat) (n1_0:Int) (a1_1:Option Addr) (e1_1:List D) (c1_1:Nat) (N:Nat):Prop:=AT prog 104 [.ag 2] Q N0 .ord (zF prog 104 3) ⟨an 2 (.pb 0 0 0 0::.pb 1 0 0 0::an 6 (.sv a10 2 e10 c10::.int .i64 n11::.int .i64 n12::an 12 [])),[.var [.int .i64 n0_0,.sv a0_1 2 e0_1 c0_1],.var [.int .i64 n1_0,.sv a1_1 2 e1_1 c1_1]],N,none⟩
def zN (Q:QT [.ag 2]) (N0:Nat) (a22:Option Addr) (e22:List D) (c22:Nat) (n23 n24 n0_0:Int) (a0_1:Option Addr) (e0_1:List D) (c0_1:Nat) (y1 y2:D) (N:Nat):Prop:=AT prog 211 [.ag 2] Q N0 .ord (zF prog 211 11) ⟨an 4 (.pb 0 0 0 0::.pb 1 0 0 0::.pb 2 0 0 0::an 15 (.sv a22 2 e22 c22::.int .i64 n23::.int .i64 n24::an 10 [])),[.var [.int .i64 n0_0,.sv a0_1 2 e0_1 c0_1],.vd y1 2,.vd y2 2],N,none⟩
def zt (Q:QT [.sl 4]) (N0:Nat) (a0:Option Addr) (e0:List D) (c0:Nat) (n1:Int) (m5 c5:Nat) (a9:Option Addr) (e9:List D) (c9:Nat) (n10 n11:Int) (r0:List D) (q0:Nat) (N:Nat):Prop:=AT prog 37 [.sl 4] Q N0 .ord (zF prog 37 3) ⟨.sv a0 4 e0 c0::.int .i64 n1::an 3 (.sb 0 4 0 m5 c5::an 3 (.sv a9 4 e9 c9::.int .i64 n10::.int .i64 n11::an 34 [])),[.arr 65 4 r0 q0],N,none⟩
def yH (Q:QT [.ag 2]) (N0:Nat) (m9 c9:Nat) (n57 n58:Int) (y0:D) (n1_0:Int) (a1_1:Option Addr) (e1_1:List D) (c1_1:Nat) (a2_0:Option Addr) (e2_0:List D) (c2_0:Nat) (n3_0:Int) (r4:List D) (q4:Nat) (N:Nat):Prop:=AT prog 165 [.ag 2] Q N0 .ord (zF prog 165 15) ⟨an 4 (.pb 0 0 0 0::an 1 (.pb 1 0 0 0::.fn 208 [.pb 2 0 0 0,.pb 0 0 0 0,.pb 3 0 0 0]::an 1 (.sb 4 2 0 m9 c9::an 47 (.int .i64 n57::.int .i64 n58::an 137 [])))),[.vd y0 9,.var [.int .i64 n1_0,.sv a1_1 2 e1_1 c1_1],.var [.sv a2_0 4 e2_0 c2_0],.var [.int .i64 n3_0],.arr 27 2 r4 q4],N,none⟩
def zQ (Q:QT [.bool]) (N0:Nat) (a1:Option Addr) (e1:List D) (c1:Nat) (a15:Option Addr) (e15:List D) (c15:Nat) (n16 n17:Int) (N:Nat):Prop:=AT prog 98 [.bool] Q N0 .ord (zF prog 98 4) ⟨an 1 (.sv a1 2 e1 c1::.fn 33 []::an 12 (.sv a15 2 e15 c15::.int .i64 n16::.int .i64 n17::an 14 [])),[],N,none⟩
def xo (Q:QT [.bool]) (N0:Nat) (n1:Int) (a15:Option Addr) (e15:List D) (c15:Nat) (n16 n17:Int) (y0:D) (N:Nat):Prop:=AT prog 163 [.bool] Q N0 .ord (zF prog 163 4) ⟨an 1 (.int .i64 n1::.fn 164 []::.pb 0 0 0 0::an 11 (.sv a15 9 e15 c15::.int .i64 n16::.int .i64 n17::an 11 [])),[.vd y0 9],N,none⟩
def yO (Q:QT [.ag 2]) (N0:Nat) (a10:Option Addr) (e10:List D) (c10:Nat) (n11 n12 n0_0:Int) (a0_1:Option Addr) (e0_1:List D) (c0_1:Nat) (n1_0:Int) (m1_1 c1_1:Nat) (r2:List D) (q2:Nat) (N:Nat):Prop:=AT prog 104 [.ag 2] Q N0 .ord (zF prog 104 3) ⟨an 2 (.pb 0 0 0 0::.pb 1 0 0 0::an 6 (.sv a10 2 e10 c10::.int .i64 n11::.int .i64 n12::an 12 [])),[.var [.int .i64 n0_0,.sv a0_1 2 e0_1 c0_1],.var [.int .i64 n1_0,.sb 2 2 0 m1_1 c1_1],.arr 27 2 r2 q2],N,none⟩
def zV (Q:QT [.int .i64]) (N0:Nat) (a0:Option Addr) (e0:List D) (c0:Nat) (n7 n8:Int) (N:Nat):Prop:=AT prog 172 [.int .i64] Q N0 .ord (zF prog 172 2) ⟨.sv a0 4 e0 c0::.fn 112 []::an 5 (.int .i64 n7::.int .i64 n8::an 10 []),[],N,none⟩
def zi (Q:QT [.int .i64]) (N0:Nat) (a0:Option Addr) (e0:List D) (c0:Nat) (a1_0:Addr) (n7 n8:Int) (N:Nat):Prop:=AT prog 247 [.int .i64] Q N0 .ord (zF prog 247 2) ⟨.sv a0 2 e0 c0::.fn 221 [.pd a1_0 0 (.fn 177 [])]::an 5 (.int .i64 n7::.int .i64 n8::an 10 []),[],N,none⟩
def zj (Q:QT [.int .i64]) (N0:Nat) (a0:Option Addr) (e0:List D) (c0:Nat) (a1_0:Addr) (n7 n8:Int) (N:Nat):Prop:=AT prog 236 [.int .i64] Q N0 .ord (zF prog 236 2) ⟨.sv a0 9 e0 c0::.fn 189 [.pd a1_0 0 (.fn 179 [])]::an 5 (.int .i64 n7::.int .i64 n8::an 10 []),[],N,none⟩
theorem zEE (N:Nat) (n0 n1 n2:Int) (Q:QT [.bool]) (h :
Br (decide (n1<=n0)) (∀ a,N<=a->Q (decide (n0<=n2)) a) (∀ a,N<=a->Q false a)):ACalls prog 115 [.bool] [PV.int .i64 n0,PV.int .i64 n1,PV.int .i64 n2] N Q:=
 eE (H:=zDq) (by kernel_rfl) (by kernel_rfl) h
theorem rH (N:Nat) (a0:Option Addr) (e0:List D) (c0:Nat) (s1:ByteArray) (Q:QT [.int .i64]) (h :
Bel N (D.sl a0 0 e0 c0)->yC Q N a0 e0 c0 s1 (e0.length:Int) 0 N):ACalls prog 219 [.int .i64] [PV.sv a0 0 e0 c0,PV.str s1] N Q:=
 eE (H:=vN) (by kernel_rfl) (by kernel_rfl) h
theorem tC (N:Nat) (a0:Option Addr) (e0:List D) (c0:Nat) (s1:ByteArray) (Q:QT [.bool]) (h :
Bel N (D.sl a0 0 e0 c0)->∀ a,N<=a->ACalls prog 219 [.int .i64] [.sv a0 0 e0 c0,.str s1] a (fun n b=>a<=b->∀ a,b<=a->Q (decide (n ≥
 0)) a)):ACalls prog 173 [.bool] [PV.sv a0 0 e0 c0,PV.str s1] N Q:=
  eE (H:=tB) (by kernel_rfl) (by kernel_rfl) h
theorem zDx (N:Nat) (s0:ByteArray) (Q:QT [.bool]) (h :
yR Q N s0 (s0.size:Int) 0 N):ACalls prog 113 [.bool] [PV.str s0] N Q:=
 eE (H:=qQ) (by kernel_rfl) (by kernel_rfl) h
theorem qt (N:Nat) (x0:D) (Q:QT [.int .i64]) (h :
Bel N x0->∃ a b,∃ c:Nat,(x0.cell 1)=D.sl a 2 b c/\ya Q N 1 a b c (b.length:Int) 0 N):ACalls prog 174 [.int .i64] [PV.dg 2 x0] N Q:=
 eE (H:=uK) (by kernel_rfl) (by kernel_rfl) h
theorem ry (N:Nat) (x0:D) (Q:QT [.int .i64]) (h :
Bel N x0->∃ a b,∃ c:Nat,(x0.cell 1)=D.sl a 2 b c/\yN Q N 0 a b c (b.length:Int) 0 N):ACalls prog 175 [.int .i64] [PV.dg 2 x0] N Q:=
 eE (H:=vm) (by kernel_rfl) (by kernel_rfl) h
theorem sc (N:Nat) (x0:D) (Q:QT [.bool]) (h :
Bel N x0->∃ n:Int,(x0.cell 0)=D.lit (.int .i64 n)/\∀ d,N<=d->ACalls prog 115 [.bool] [.int .i64 n,.int .i64 1,.int .i64 4] d (fun b e=>d
 <= e->Br b (∃ a b,∃ c:Nat,(x0.cell 1)=D.sl a 2 b c/\∃ a:Int,(x0.cell 0)=D.lit (.int .i64 a)/\(0<=IntKind.i64.wrap (a - 1)/\IntKind.i64.wrap
 (a - 1)<4/\(0+(IntKind.i64.wrap (a - 1)).toNat:Nat)<4)/\(0+(IntKind.i64.wrap (a - 1)).toNat:Nat)<4/\∃ c:Int,List.getD [D.lit (.int .i64
 0),D.lit (.int .i64 0),D.lit (.int .i64 2),D.lit (.int .i64 1)] (0+(IntKind.i64.wrap (a - 1)).toNat:Nat) default=D.lit (.int .i64 c)/\∀ a,e <=
 a->Q ((b.length:Int)==c) a) (∀ a,e<=a->Q false a))):ACalls prog 177 [.bool] [PV.dg 2 x0] N Q:=
  eE (H:=sa) (by kernel_rfl) (by kernel_rfl) h
theorem qW (N:Nat) (x0:D) (Q:QT [.bool]) (h :
Bel N x0->∀ a,N<=a->ACalls prog 174 [.int .i64] [.dg 2 x0] a (fun n c=>a<=c->Br (decide (n<=30)) (∀ a,c<=a->ACalls prog 175 [.int .i64]
 [.dg 2 x0] a (fun c d=>a<=d->Br (decide (c<=8)) (∀ a,d<=a->ACalls prog 176 [.bool] [.dg 2 x0,.fn 177 []] a (fun b c=>a<=c ->
 ∀ a,c<=a->Q b a)) (∀ a,d<=a->Q false a))) (∀ a,c<=a->Q false a))):ACalls prog 114 [.bool] [PV.dg 2 x0] N Q:=
  eE (H:=r9) (by kernel_rfl) (by kernel_rfl) h
theorem zCf (N:Nat) (x0:D) (Q:QT [.bool]) (h :
Bel N x0->∃ s,(x0.cell 0)=D.lit (.string s)/\∀ a,N<=a->ACalls prog 113 [.bool] [.str s] a (fun b c=>a<=c->Br (!b) (∀ a,c<=a->Q true
 a) (∀ a,c<=a->ACalls prog 114 [.bool] [.dg 2 (D.sub x0 1 2)] a (fun b c=>a<=c->Br (!b) (∀ a,c<=a->Q true a) (∃ n:Int,(x0.cell
 3)=D.lit (.int .i64 n)/\∀ a,c<=a->ACalls prog 115 [.bool] [.int .i64 n,.int .i64 0,.int .i64 2] a (fun b c=>a<=c->∀ a,c<=a ->
 Q (!b) a)))))):ACalls prog 112 [.bool] [PV.dg 4 x0] N Q:=
  eE (H:=zCq) (by kernel_rfl) (by kernel_rfl) h
theorem zGr (N:Nat) (a0:Option Addr) (e0:List D) (c0:Nat) (Q:QT [.bool]) (h :
Bel N (D.sl a0 4 e0 c0)->Br (decide ((e0.length:Int)<=12)) (∀ a,N<=a->ACalls prog 111 [.bool] [.sv a0 4 e0 c0,.fn 112 []] a (fun b c=>a<=c
 -> ∀ a,c<=a->Q (!b) a)) (∀ a,N<=a->Q false a)):ACalls prog 43 [.bool] [PV.sv a0 4 e0 c0] N Q:=
  eE (H:=zGt) (by kernel_rfl) (by kernel_rfl) h
theorem zCr (N:Nat) (s0:ByteArray) (Q:QT [.int .i64]) (h :
Br (ByteArray.toList s0==ByteArray.toList (bytes [43])) (∀ a,N<=a->Q 2 a) (Br (ByteArray.toList s0==ByteArray.toList (bytes [45])) (∀ a,N<=a ->
 Q 2 a) (Br (ByteArray.toList s0==ByteArray.toList (bytes [42])) (∀ a,N<=a->Q 2 a) (Br (ByteArray.toList s0==ByteArray.toList (bytes [61])) (∀ a,
 N<=a->Q 2 a) (Br (ByteArray.toList s0==ByteArray.toList (bytes [60])) (∀ a,N<=a->Q 2 a) (Br (ByteArray.toList s0==ByteArray.toList (bytes [38]))
 (∀ a,N<=a->Q 2 a) (Br (ByteArray.toList s0==ByteArray.toList (bytes [124])) (∀ a,N<=a->Q 2 a) (Br (ByteArray.toList s0==ByteArray.toList (bytes
 [33])) (∀ a,N<=a->Q 1 a) (∀ a,N<=a->Q 0 a))))))))):ACalls prog 250 [.int .i64] [PV.str s0] N Q:=
  eE (H:=zCh) (by kernel_rfl) (by kernel_rfl) h
theorem zGc (N:Nat) (x0:D) (Q:QT [.int .i64]) (h :
Bel N x0->∃ n:Int,(x0.cell 0)=D.lit (.int .i64 n)/\Br (n==4) (∃ s,(x0.cell 1)=D.lit (.string s)/\∀ a,N<=a->ACalls prog 250 [.int .i64] [.str
 s] a (fun b c=>a<=c->∀ a,c<=a->Q b a)) (Br (n==5) (∀ a,N<=a->Q 3 a) (Br (n==7) (∀ a,N<=a->Q 2 a) (Br (n==8) (∀
 a,N<=a->Q 2 a) (Br (n==6) (∀ a,N<=a->Q 1 a) (Br (n==9) (∀ a,N<=a->Q 1 a) (Br (n==10) (∀ a,N<=a->Q 1 a) (Br (n==11) (∀
 a,N<=a->Q 1 a) (Br (n==12) (∀ a,N<=a->Q 1 a) (Br (n==13) (∀ a,N<=a->Q 1 a) (∀ a,N<=a->Q 0 a))))))))))):ACalls prog 227 [.int .i64] [PV.dg 9 x0] N Q:=
  eE (H:=zGB) (by kernel_rfl) (by kernel_rfl) h
theorem zBW (N:Nat) (n0:Int) (Q:QT [.bool]) (h :
∀ a,N<=a->ACalls prog 115 [.bool] [.int .i64 n0,.int .i64 0,.int .i64 10006] a (fun b c=>a<=c->∀ a,c<=a->Q b a)):ACalls prog 238 [.bool] [PV.int .i64 n0] N Q:=
  eE (H:=zBH) (by kernel_rfl) (by kernel_rfl) h
theorem zDA (N:Nat) (x0:D) (Q:QT [.bool]) (h :
Bel N x0->∃ n:Int,(x0.cell 0)=D.lit (.int .i64 n)/\Br (n==1) (∃ s,(x0.cell 1)=D.lit (.string s)/\∀ a,N<=a->ACalls prog 113 [.bool] [.str s] a
 (fun b c=>a<=c->∀ a,c<=a->Q b a)) (Br (n==8) (∃ a,(x0.cell 1)=D.lit (.string a)/\∀ b,N<=b->ACalls prog 113 [.bool] [.str a]
 b (fun a c=>b<=c->∀ b,c<=b->Q a b)) (Br (n==2) (∃ a:Int,(x0.cell 3)=D.lit (.int .i64 a)/\∀ b,N<=b->ACalls prog 238
 [.bool] [.int .i64 a] b (fun a c=>b<=c->∀ b,c<=b->Q a b)) (Br (n==3) (∃ a:Int,(x0.cell 3)=D.lit (.int .i64 a)/\∀ b,N
 <= b->ACalls prog 115 [.bool] [.int .i64 a,.int .i64 0,.int .i64 1] b (fun a c=>b<=c->∀ b,c<=b->Q a b)) (Br (n==4) (∃
 a,(x0.cell 1)=D.lit (.string a)/\∀ b,N<=b->ACalls prog 250 [.int .i64] [.str a] b (fun a c=>b<=c->∀ b,c<=b->Q (decide
 (a>0)) b)) (Br (n==6) (∃ a,(x0.cell 1)=D.lit (.string a)/\∀ b,N<=b->ACalls prog 113 [.bool] [.str a] b (fun a c=>b<=c
 -> Br a (∀ a,c<=a->ACalls prog 114 [.bool] [.dg 2 (D.sub x0 4 2)] a (fun b c=>a<=c->∀ a,c<=a->Q b a)) (∀ a,c
 <= a->Q false a))) (Br (n==9) (∃ a,(x0.cell 1)=D.lit (.string a)/\∀ b,N<=b->ACalls prog 113 [.bool] [.str a] b (fun a c=>b
 <= c->Br a (∃ a,(x0.cell 2)=D.lit (.string a)/\∀ b,c<=b->ACalls prog 113 [.bool] [.str a] b (fun a c=>b<=c->Br a (∃
 a,(x0.cell 1)=D.lit (.string a)/\∃ b,(x0.cell 2)=D.lit (.string b)/\Br (!(ByteArray.toList a==ByteArray.toList b)) (∀ a,c<=a->ACalls
 prog 114 [.bool] [.dg 2 (D.sub x0 4 2)] a (fun b c=>a<=c->Br b (∀ a,c<=a->ACalls prog 114 [.bool] [.dg 2 (D.sub x0 6 2)] a (fun
 b c=>a<=c->∀ a,c<=a->Q b a)) (∀ a,c<=a->Q false a))) (∀ a,c<=a->Q false a)) (∀ a,c<=a ->
 Q false a))) (∀ a,c<=a->Q false a))) (∃ a:Int,(x0.cell 0)=D.lit (.int .i64 a)/\∀ b,N<=b->ACalls prog 115 [.bool] [.int .i64
 a,.int .i64 1,.int .i64 13] b (fun a c=>b<=c->∀ b,c<=b->Q a b))))))))):ACalls prog 228 [.bool] [PV.dg 9 x0] N Q:=
  eE (H:=zCz) (by kernel_rfl) (by kernel_rfl) h
theorem zAC (N:Nat) (x0 x1:D) (Q:QT [.bool]) (h :
Bel N x0->Bel N x1->∃ n:Int,(x0.cell 0)=D.lit (.int .i64 n)/\∃ d:Int,(x1.cell 0)=D.lit (.int .i64 d)/\Br (n==d) (∃ a d,∃ c:Nat,(x0.cell
 1)=D.sl a 2 d c/\∃ e f,∃ g:Nat,(x1.cell 1)=D.sl e 2 f g/\∀ h,N<=h->ACalls prog 98 [.bool] [.sv a 2 d c,.sv e 2 f g,.fn
 33 []] h (fun b a=>h<=a->∀ c,a<=c->Q b c)) (∀ a,N<=a->Q false a)):ACalls prog 33 [.bool] [PV.dg 2 x0,PV.dg 2 x1] N Q:=
  eE (H:=zAR) (by kernel_rfl) (by kernel_rfl) h
theorem zDv (N:Nat) (x0:D) (Q:QT [.bool]) (h :
Bel N x0->∃ a d,∃ c:Nat,(x0.cell 8)=D.sl a 9 d c/\∀ a,N<=a->ACalls prog 227 [.int .i64] [.dg 9 x0] a (fun n c=>a<=c->Br (bne (d.length
 : Int) n) (∀ a,c<=a->Q false a) (∃ a:Int,(x0.cell 0)=D.lit (.int .i64 a)/\∃ a:Int,(x0.cell 0)=D.lit (.int .i64 a)/\Br (a==1) (∃
 s,(x0.cell 1)=D.lit (.string s)/\∀ a,c<=a->ACalls prog 228 [.bool] [.dg 9 x0] a (fun b c=>a<=c->Br b (∃ a,(x0.cell 1)=D.lit (.string
 a)/\Br (ByteArray.toList a==ByteArray.toList s) (∃ a,(x0.cell 2)=D.lit (.string a)/\Br (ByteArray.toList a==ByteArray.toList (bytes [])) (∃ a
 : Int,(x0.cell 3)=D.lit (.int .i64 a)/\Br (a==0) (∀ a,c<=a->ACalls prog 33 [.bool] [.dg 2 (D.sub x0 4 2),.dg 2 (D.ag [D.lit (.int .i64 0),D.sl
 Option.none 2 [] 0])] a (fun b c=>a<=c->Br b (∀ a,c<=a->ACalls prog 33 [.bool] [.dg 2 (D.sub x0 6 2),.dg 2 (D.ag [D.lit (.int .i64 0),
 D.sl Option.none 2 [] 0])] a (fun b c=>a<=c->∀ a,c<=a->Q b a)) (∀ a,c<=a->Q false a))) (∀ a,c<=a->Q false
 a)) (∀ a,c<=a->Q false a)) (∀ a,c<=a->Q false a)) (∀ a,c<=a->Q false a))) (Br (a==8) (∃ a,(x0.cell 1)=D.lit
 (.string a)/\∀ b,c<=b->ACalls prog 228 [.bool] [.dg 9 x0] b (fun c d=>b<=d->Br c (∃ b,(x0.cell 1)=D.lit (.string b)/\Br
 (ByteArray.toList b==ByteArray.toList a) (∃ a,(x0.cell 2)=D.lit (.string a)/\Br (ByteArray.toList a==ByteArray.toList (bytes [])) (∃ a:Int,
 (x0.cell 3)=D.lit (.int .i64 a)/\Br (a==0) (∀ a,d<=a->ACalls prog 33 [.bool] [.dg 2 (D.sub x0 4 2),.dg 2 (D.ag [D.lit (.int .i64 0),D.sl Option.none
 2 [] 0])] a (fun b c=>a<=c->Br b (∀ a,c<=a->ACalls prog 33 [.bool] [.dg 2 (D.sub x0 6 2),.dg 2 (D.ag [D.lit (.int .i64 0),D.sl
 Option.none 2 [] 0])] a (fun b c=>a<=c->∀ a,c<=a->Q b a)) (∀ a,c<=a->Q false a))) (∀ a,d<=a->Q false
 a)) (∀ a,d<=a->Q false a)) (∀ a,d<=a->Q false a)) (∀ a,d<=a->Q false a))) (Br (a==2) (∃ a:Int,(x0.cell 3)
 = D.lit (.int .i64 a)/\∀ b,c<=b->ACalls prog 228 [.bool] [.dg 9 x0] b (fun c d=>b<=d->Br c (∃ b,(x0.cell 1)=D.lit (.string
 b)/\Br (ByteArray.toList b==ByteArray.toList (bytes [])) (∃ b,(x0.cell 2)=D.lit (.string b)/\Br (ByteArray.toList b==ByteArray.toList (bytes []))
 (∃ b:Int,(x0.cell 3)=D.lit (.int .i64 b)/\Br (b==a) (∀ a,d<=a->ACalls prog 33 [.bool] [.dg 2 (D.sub x0 4 2),.dg 2 (D.ag [D.lit (.int
 .i64 0),D.sl Option.none 2 [] 0])] a (fun b c=>a<=c->Br b (∀ a,c<=a->ACalls prog 33 [.bool] [.dg 2 (D.sub x0 6 2),.dg 2 (D.ag [D.lit
 (.int .i64 0),D.sl Option.none 2 [] 0])] a (fun b c=>a<=c->∀ a,c<=a->Q b a)) (∀ a,c<=a->Q false a))) (∀ a,
 d<=a->Q false a)) (∀ a,d<=a->Q false a)) (∀ a,d<=a->Q false a)) (∀ a,d<=a->Q false a))) (Br (a==3) (∃
 a:Int,(x0.cell 3)=D.lit (.int .i64 a)/\∀ b,c<=b->ACalls prog 228 [.bool] [.dg 9 x0] b (fun c d=>b<=d->Br c (∃ b,(x0.cell
 1)=D.lit (.string b)/\Br (ByteArray.toList b==ByteArray.toList (bytes [])) (∃ b,(x0.cell 2)=D.lit (.string b)/\Br (ByteArray.toList b==ByteArray.toList
 (bytes [])) (∃ b:Int,(x0.cell 3)=D.lit (.int .i64 b)/\Br (b==a) (∀ a,d<=a->ACalls prog 33 [.bool] [.dg 2 (D.sub x0 4 2),.dg 2 (D.ag
 [D.lit (.int .i64 0),D.sl Option.none 2 [] 0])] a (fun b c=>a<=c->Br b (∀ a,c<=a->ACalls prog 33 [.bool] [.dg 2 (D.sub x0 6 2),
 .dg 2 (D.ag [D.lit (.int .i64 0),D.sl Option.none 2 [] 0])] a (fun b c=>a<=c->∀ a,c<=a->Q b a)) (∀ a,c<=a->Q false
 a))) (∀ a,d<=a->Q false a)) (∀ a,d<=a->Q false a)) (∀ a,d<=a->Q false a)) (∀ a,d<=a->Q false a)))
 (Br (a==4) (∃ a,(x0.cell 1)=D.lit (.string a)/\∀ b,c<=b->ACalls prog 228 [.bool] [.dg 9 x0] b (fun c d=>b<=d->Br c
 (∃ b,(x0.cell 1)=D.lit (.string b)/\Br (ByteArray.toList b==ByteArray.toList a) (∃ a,(x0.cell 2)=D.lit (.string a)/\Br (ByteArray.toList
 a==ByteArray.toList (bytes [])) (∃ a:Int,(x0.cell 3)=D.lit (.int .i64 a)/\Br (a==0) (∀ a,d<=a->ACalls prog 33 [.bool] [.dg 2 (D.sub
 x0 4 2),.dg 2 (D.ag [D.lit (.int .i64 0),D.sl Option.none 2 [] 0])] a (fun b c=>a<=c->Br b (∀ a,c<=a->ACalls prog 33 [.bool]
 [.dg 2 (D.sub x0 6 2),.dg 2 (D.ag [D.lit (.int .i64 0),D.sl Option.none 2 [] 0])] a (fun b c=>a<=c->∀ a,c<=a->Q b a)) (∀ a,
 c<=a->Q false a))) (∀ a,d<=a->Q false a)) (∀ a,d<=a->Q false a)) (∀ a,d<=a->Q false a)) (∀ a,d<=a
 -> Q false a))) (Br (a==6) (∃ a,(x0.cell 1)=D.lit (.string a)/\∀ b,c<=b->ACalls prog 228 [.bool] [.dg 9 x0] b (fun c d=>b
 <= d->Br c (∃ b,(x0.cell 1)=D.lit (.string b)/\Br (ByteArray.toList b==ByteArray.toList a) (∃ a,(x0.cell 2)=D.lit (.string a) /\
 Br (ByteArray.toList a==ByteArray.toList (bytes [])) (∃ a:Int,(x0.cell 3)=D.lit (.int .i64 a)/\Br (a==0) (∀ a,d<=a->ACalls prog
 33 [.bool] [.dg 2 (D.sub x0 4 2),.dg 2 (D.ag [D.cell (D.sub x0 4 2) 0,D.cell (D.sub x0 4 2) 1])] a (fun b c=>a<=c->Br b (∀ a,c<=a
 -> ACalls prog 33 [.bool] [.dg 2 (D.sub x0 6 2),.dg 2 (D.ag [D.lit (.int .i64 0),D.sl Option.none 2 [] 0])] a (fun b c=>a<=c->∀ a,c <=
 a->Q b a)) (∀ a,c<=a->Q false a))) (∀ a,d<=a->Q false a)) (∀ a,d<=a->Q false a)) (∀ a,d<=a->Q
 false a)) (∀ a,d<=a->Q false a))) (Br (a==9) (∃ a,(x0.cell 1)=D.lit (.string a)/\∃ b,(x0.cell 2)=D.lit (.string b)/\∀ d,
 c<=d->ACalls prog 228 [.bool] [.dg 9 x0] d (fun c e=>d<=e->Br c (∃ c,(x0.cell 1)=D.lit (.string c)/\Br (ByteArray.toList c
 == ByteArray.toList a) (∃ a,(x0.cell 2)=D.lit (.string a)/\Br (ByteArray.toList a==ByteArray.toList b) (∃ a:Int,(x0.cell 3)=D.lit (.int
 .i64 a)/\Br (a==0) (∀ a,e<=a->ACalls prog 33 [.bool] [.dg 2 (D.sub x0 4 2),.dg 2 (D.ag [D.cell (D.sub x0 4 2) 0,D.cell (D.sub x0 4 2) 1])]
 a (fun b c=>a<=c->Br b (∀ a,c<=a->ACalls prog 33 [.bool] [.dg 2 (D.sub x0 6 2),.dg 2 (D.ag [D.cell (D.sub x0 6 2) 0,D.cell (D.sub
 x0 6 2) 1])] a (fun b c=>a<=c->∀ a,c<=a->Q b a)) (∀ a,c<=a->Q false a))) (∀ a,e<=a->Q false a))
 (∀ a,e<=a->Q false a)) (∀ a,e<=a->Q false a)) (∀ a,e<=a->Q false a))) (∀ a,c<=a->ACalls prog 228 [.bool]
 [.dg 9 x0] a (fun b c=>a<=c->Br b (∃ a,(x0.cell 1)=D.lit (.string a)/\Br (ByteArray.toList a==ByteArray.toList (bytes [])) (∃
 a,(x0.cell 2)=D.lit (.string a)/\Br (ByteArray.toList a==ByteArray.toList (bytes [])) (∃ a:Int,(x0.cell 3)=D.lit (.int .i64 a)/\Br (a
 == 0) (∀ a,c<=a->ACalls prog 33 [.bool] [.dg 2 (D.sub x0 4 2),.dg 2 (D.ag [D.lit (.int .i64 0),D.sl Option.none 2 [] 0])] a (fun b c=>a
 <= c->Br b (∀ a,c<=a->ACalls prog 33 [.bool] [.dg 2 (D.sub x0 6 2),.dg 2 (D.ag [D.lit (.int .i64 0),D.sl Option.none 2 [] 0])] a (fun b
 c=>a<=c->∀ a,c<=a->Q b a)) (∀ a,c<=a->Q false a))) (∀ a,c<=a->Q false a)) (∀ a,c<=a->Q false
 a)) (∀ a,c<=a->Q false a)) (∀ a,c<=a->Q false a)))))))))))):ACalls prog 179 [.bool] [PV.dg 9 x0] N Q:=
  eE (H:=zFa) (by kernel_rfl) (by kernel_rfl) h
theorem zEz (N:Nat) (x0:D) (Q:QT [.bool]) (h :
Bel N x0->∀ a,N<=a->ACalls prog 133 [.bool] [.dg 9 x0,.fn 179 []] a (fun b c=>a<=c->∀ a,c<=a->Q b a)):ACalls prog 119 [.bool] [PV.dg 9 x0] N Q:=
 eE (H:=zFA) (by kernel_rfl) (by kernel_rfl) h
theorem qm (N:Nat) (x0:D) (n1:Int) (Q:QT [.bool]) (h :
Bel N x0->∀ a,N<=a->ACalls prog 115 [.bool] [.int .i64 n1,.int .i64 0,.int .i64 2] a (fun b c=>a<=c->∀ a,c<=a->Q b a)):ACalls prog 164 [.bool] [PV.dg 9 x0,PV.int .i64 n1] N Q:=
 eE (H:=pO) (by kernel_rfl) (by kernel_rfl) h
theorem zAd (N:Nat) (x0:D) (n1:Int) (Q:QT [.int .i64]) (h :
Bel N x0->∃ n:Int,(x0.cell 0)=D.lit (.int .i64 n)/\Br (n==10) (∀ a,N<=a->Q (IntKind.i64.wrap (n1+1)) a) (Br (n==11) (∀ a,N<=a->Q (IntKind.i64.wrap
 (n1 - 1)) a) (∀ a,N<=a->Q n1 a))):ACalls prog 207 [.int .i64] [PV.dg 9 x0,PV.int .i64 n1] N Q:=
  eE (H:=zAK) (by kernel_rfl) (by kernel_rfl) h
theorem zBl (N:Nat) (x0:D) (n1:Int) (Q:QT [.bool]) (h :
Bel N x0->∀ a,N<=a->ACalls prog 119 [.bool] [.dg 9 x0] a (fun b c=>a<=c->Br b (∀ a,c<=a->ACalls prog 163 [.bool] [.dg 9 x0,.int .i64
 n1,.fn 164 []] a (fun b c=>a<=c->∀ a,c<=a->Q b a)) (∀ a,c<=a->Q false a))):ACalls prog 94 [.bool] [PV.dg 9 x0,PV.int .i64 n1] N Q:=
  eE (H:=zAz) (by kernel_rfl) (by kernel_rfl) h
theorem zB3 (N:Nat) (a0:Option Addr) (e0:List D) (c0:Nat) (s1:ByteArray) (Q:QT [.int .i64]) (h :
Bel N (D.sl a0 4 e0 c0)->y6 Q N a0 e0 c0 s1 (IntKind.i64.wrap ((e0.length:Int) - 1)) N):ACalls prog 103 [.int .i64] [PV.sv a0 4 e0 c0,PV.str s1] N Q:=
 eE (H:=tl) (by kernel_rfl) (by kernel_rfl) h
theorem zCL (N:Nat) (x0:D) (Q:QT [.ag 2]) (h :
Bel N x0->∃ n:Int,(x0.cell 0)=D.lit (.int .i64 n)/\∃ a b,∃ c:Nat,(x0.cell 1)=D.sl a 2 b c/\wP Q N a b c (b.length:Int) 0 0 Option.none
 [] 0 n Option.none [] 0 N):ACalls prog 104 [.ag 2] [PV.dg 2 x0] N Q:=
  eE (H:=vF) (by kernel_rfl) (by kernel_rfl) h
theorem zGE (N:Nat)  (Q:QT [.ag 2]) (h :
∀ a,N<=a->Q (D.ag [D.lit (.int .i64 1),D.sl Option.none 2 [] 0]) a):ACalls prog 209 [.ag 2] [] N Q:=
  eE (H:=zGe) (by kernel_rfl) (by kernel_rfl) h
theorem zFE (N:Nat)  (Q:QT [.ag 2]) (h :
∀ a,N<=a->Q (D.ag [D.lit (.int .i64 2),D.sl Option.none 2 [] 0]) a):ACalls prog 210 [.ag 2] [] N Q:=
  eE (H:=zD2) (by kernel_rfl) (by kernel_rfl) h
theorem zEH (N:Nat) (s0:ByteArray) (a1:Option Addr) (e1:List D) (c1:Nat) (Q:QT [.ag 2]) (h :
Bel N (D.sl a1 2 e1 c1)->∀ a,N<=a->ACalls prog 209 [.ag 2] [] a (fun x b=>a<=b->Bel b x->∀ a,b<=a->ACalls prog 209 [.ag 2] [] a
 (fun b c=>a<=c->Bel c b->Br (ByteArray.toList s0==ByteArray.toList (bytes [61])) (∀ a,c<=a->ACalls prog 210 [.ag 2] [] a (fun b c
 => a<=c->Bel c b->zN Q N a1 e1 c1 (e1.length:Int) 0 0 Option.none [] 0 x b c)) (Br (ByteArray.toList s0==ByteArray.toList (bytes
 [60])) (∀ a,c<=a->ACalls prog 210 [.ag 2] [] a (fun b c=>a<=c->Bel c b->zN Q N a1 e1 c1 (e1.length:Int) 0 0 Option.none
 [] 0 x b c)) (Br (ByteArray.toList s0==ByteArray.toList (bytes [38])) (∀ a,c<=a->ACalls prog 210 [.ag 2] [] a (fun b c=>a<=c->Bel
 c b->∀ a,c<=a->ACalls prog 210 [.ag 2] [] a (fun c d=>a<=d->Bel d c->zN Q N a1 e1 c1 (e1.length:Int) 0
 0 Option.none [] 0 b c d))) (Br (ByteArray.toList s0==ByteArray.toList (bytes [124])) (∀ a,c<=a->ACalls prog 210 [.ag 2] [] a (fun b c
 => a<=c->Bel c b->∀ a,c<=a->ACalls prog 210 [.ag 2] [] a (fun c d=>a<=d->Bel d c->zN Q N a1 e1 c1
 (e1.length:Int) 0 0 Option.none [] 0 b c d))) (Br (ByteArray.toList s0==ByteArray.toList (bytes [33])) (∀ a,c<=a->ACalls prog 210 [.ag 2] []
 a (fun b c=>a<=c->Bel c b->∀ a,c<=a->ACalls prog 210 [.ag 2] [] a (fun c d=>a<=d->Bel d c->zN
 Q N a1 e1 c1 (e1.length:Int) 0 0 Option.none [] 0 b c d))) (zN Q N a1 e1 c1 (e1.length:Int) 0 0 Option.none [] 0 x b c)))))))):ACalls prog 211 [.ag 2] [PV.str s0,PV.sv a1 2 e1 c1] N Q:=
  eE (H:=rr) (by kernel_rfl) (by kernel_rfl) h
theorem tj (N:Nat) (a0:Option Addr) (e0:List D) (c0:Nat) (Q:QT [.row 65 4]) (h :
Bel N (D.sl a0 4 e0 c0)->Br (Option.isNone a0) (∀ a,N<=a->Q [] 0 a) ((0=0/\0=0)/\zA [] e0 56/\∀ (c:Nat),(([]++e0).length=([]++e0).length
 /\ c=c)/\∀ a,N<=a->Q ([]++e0) c a)):ACalls prog 243 [.row 65 4] [PV.sv a0 4 e0 c0] N Q:=
  eE (H:=tf) (by kernel_rfl) (by kernel_rfl) h
theorem zHF (N:Nat) (a0:Option Addr) (e0:List D) (c0:Nat) (a1:Option Addr) (e1:List D) (c1:Nat) (Q:QT [.sl 4]) (h :
Bel N (D.sl a0 4 e0 c0)->Bel N (D.sl a1 4 e1 c1)->∀ b,N<=b->ACalls prog 243 [.row (OfNat.ofNat 65) 4] [.sv a0 4 e0 c0] b (fun c d e=>b<=e ->
 Bel e (D.ag c)->(c.length=c.length/\d=d)/\zA c e1 56/\∀ (b:Nat),((c++e1).length=(c++e1).length/\b=b)/\((c++e1).length
 = (c++e1).length/\b=b)/\∀ a d,e<=d->Fresh N d a [D.ag (c++e1)]->∀ e,d<=e->Q a (c++e1) b e)):ACalls prog 212 [.sl 4] [PV.sv a0 4 e0 c0,PV.sv a1 4 e1 c1] N Q:=
  eE (H:=zHM) (by kernel_rfl) (by kernel_rfl) h
theorem zFo (N:Nat) (x0 x1:D) (Q:QT [.ag 2]) (h :
Bel N x0->Bel N x1->∀ b,N<=b->ACalls prog 104 [.ag 2] [.dg 2 x0] b (fun x c=>b<=c->Bel c x->∀ b,c<=b->ACalls prog 104 [.ag 2] [.dg
 2 x1] b (fun c d=>b<=d->Bel d c->(2=([x,c]).length/\2=2)/\(2=([x,c]).length/\2=2)/\(2=([x,c]).length/\2=2)/\∀ a b,
 d<=b->Fresh N b a [D.ag [x,c]]->∀ d,b<=d->Q (D.ag [D.lit (.int .i64 3),D.sl a 2 [x,c] 2]) d))):ACalls prog 213 [.ag 2] [PV.dg 2 x0,PV.dg 2 x1] N Q:=
  eE (H:=zGG) (by kernel_rfl) (by kernel_rfl) h
theorem zEL (N:Nat) (x0:D) (Q:QT [.ag 2]) (h :
Bel N x0->∀ b,N<=b->ACalls prog 104 [.ag 2] [.dg 2 x0] b (fun x c=>b<=c->Bel c x->(1=([x]).length/\1=1)/\(1=([x]).length/\1=1)
 /\ (1=([x]).length/\1=1)/\∀ a b,c<=b->Fresh N b a [D.ag [x]]->∀ c,b<=c->Q (D.ag [D.lit (.int .i64 4),D.sl a 2 [x] 1]) c)):ACalls prog 244 [.ag 2] [PV.dg 2 x0] N Q:=
  eE (H:=zFD) (by kernel_rfl) (by kernel_rfl) h
theorem zES (N:Nat) (x0:D) (Q:QT [.ag 2]) (h :
Bel N x0->∃ n:Int,(x0.cell 0)=D.lit (.int .i64 n)/\Br (bne n 4) (∀ a,N<=a->Q (D.ag [D.lit (.int .i64 0),D.sl Option.none 2 [] 0]) a) (∃ a b,∃
 c:Nat,(x0.cell 1)=D.sl a 2 b c/\((0:Int)<=(0:Int)/\0<(b.length:Int))/\∀ a,N<=a->ACalls prog 104 [.ag 2] [.dg 2 (List.getD b 0 default)]
 a (fun x b=>a<=b->Bel b x->∀ a,b<=a->Q x a))):ACalls prog 245 [.ag 2] [PV.dg 2 x0] N Q:=
  eE (H:=zEO) (by kernel_rfl) (by kernel_rfl) h
theorem zFH (N:Nat) (x0:D) (Q:QT [.bool]) (h :
Bel N x0->∃ n:Int,(x0.cell 0)=D.lit (.int .i64 n)/\∀ d,N<=d->ACalls prog 115 [.bool] [.int .i64 n,.int .i64 1,.int .i64 2] d (fun b e=>d
 <= e->Br b (∃ a b,∃ c:Nat,(x0.cell 1)=D.sl a 2 b c/\∀ a,e<=a->Q ((b.length:Int)==0) a) (∀ a,e<=a->Q false a))):ACalls prog 102 [.bool] [PV.dg 2 x0] N Q:=
  eE (H:=zD9) (by kernel_rfl) (by kernel_rfl) h
theorem zCg (N:Nat) (a0:Option Addr) (e0:List D) (c0:Nat) (n1:Int) (Q:QT [.sl 4]) (h :
Bel N (D.sl a0 4 e0 c0)->zt Q N a0 e0 c0 n1 0 0 a0 e0 c0 (e0.length:Int) 0 [] 0 N):ACalls prog 37 [.sl 4] [PV.sv a0 4 e0 c0,PV.int .i64 n1] N Q:=
 eE (H:=sw) (by kernel_rfl) (by kernel_rfl) h
theorem zAh (N:Nat) (a0:Option Addr) (e0:List D) (c0:Nat) (x1:D) (n2:Int) (Q:QT [.ag 2]) (h :
Bel N (D.sl a0 4 e0 c0)->Bel N x1->∃ n:Int,(x1.cell 0)=D.lit (.int .i64 n)/\Br (n==10) (∃ a b,∃ c:Nat,(x1.cell 8)=D.sl a 9 b c/\((0:Int)<=(0
 : Int)/\0<(b.length:Int))/\∀ a,N<=a->ACalls prog 95 [.ag 2] [.sv a0 4 e0 c0,.dg 9 (List.getD b 0 default),.int .i64 (IntKind.i64.wrap (n2+1))]
 a (fun x b=>a<=b->Bel b x->∃ a:Int,(x.cell 0)=D.lit (.int .i64 a)/\Br (bne a 0) (∀ a,b<=a->ACalls prog 244 [.ag 2] [.dg 2 x]
 a (fun b c=>a<=c->Bel c b->∀ a,c<=a->Q b a)) (∀ a,b<=a->Q (D.ag [D.lit (.int .i64 0),D.sl Option.none 2 [] 0]) a))) (Br
 (n==11) (∃ a b,∃ c:Nat,(x1.cell 8)=D.sl a 9 b c/\((0:Int)<=(0:Int)/\0<(b.length:Int))/\∀ a,N<=a->ACalls prog 95 [.ag
 2] [.sv a0 4 e0 c0,.dg 9 (List.getD b 0 default),.int .i64 (IntKind.i64.wrap (n2 - 1))] a (fun b c=>a<=c->Bel c b->∀ a,c<=a->ACalls
 prog 245 [.ag 2] [.dg 2 b] a (fun b c=>a<=c->Bel c b->∀ a,c<=a->Q b a))) (Br (n==12) (∃ a b,∃ c:Nat,(x1.cell
 8)=D.sl a 9 b c/\((0:Int)<=(0:Int)/\0<(b.length:Int))/\∀ a,N<=a->ACalls prog 37 [.sl 4] [.sv a0 4 e0 c0,.int .i64 n2] a (fun
 c d e f=>a<=f->Bel f (D.sl c 4 d e)->∀ a,f<=a->ACalls prog 95 [.ag 2] [.sv c 4 d e,.dg 9 (List.getD b 0 default),
 .int .i64 n2] a (fun b c=>a<=c->Bel c b->∀ a,c<=a->ACalls prog 245 [.ag 2] [.dg 2 b] a (fun b c=>a<=c->Bel
 c b->∀ a,c<=a->Q b a)))) (Br (n==13) (∃ a c,∃ d:Nat,(x1.cell 8)=D.sl a 9 c d/\((0:Int)<=(0:Int)/\0<(c.length
 : Int))/\∀ a,N<=a->ACalls prog 95 [.ag 2] [.sv a0 4 e0 c0,.dg 9 (List.getD c 0 default),.int .i64 n2] a (fun c d=>a<=d->Bel d
 c->∀ a,d<=a->ACalls prog 102 [.bool] [.dg 2 c] a (fun b d=>a<=d->Br b (∀ a,d<=a->ACalls prog 244 [.ag 2] [.dg 2 c]
 a (fun b c=>a<=c->Bel c b->∀ a,c<=a->Q b a)) (∀ a,d<=a->Q (D.ag [D.lit (.int .i64 0),D.sl Option.none 2 []
 0]) a)))) (∀ a,N<=a->Q (D.ag [D.lit (.int .i64 0),D.sl Option.none 2 [] 0]) a))))):ACalls prog 214 [.ag 2] [PV.sv a0 4 e0 c0,PV.dg 9 x1,PV.int .i64 n2] N Q:=
  eE (H:=zAb) (by kernel_rfl) (by kernel_rfl) h
theorem zR (N:Nat) (a0:Option Addr) (e0:List D) (c0:Nat) (x1:D) (n2:Int) (Q:QT [.ag 2]) (h :
Bel N (D.sl a0 4 e0 c0)->Bel N x1->∃ n:Int,(x1.cell 0)=D.lit (.int .i64 n)/\Br (n==1) (∃ s,(x1.cell 1)=D.lit (.string s)/\∀ a,N<=a->ACalls prog
 103 [.int .i64] [.sv a0 4 e0 c0,.str s] a (fun b c=>a<=c->Br (decide (b≥0)) ((0<=b/\b<(e0.length:Int))/\∃ a:Int,(if 0=0 then
 D.cell (List.getD e0 b.toNat default) 3 else D.sub (List.getD e0 b.toNat default) 3 0)=D.lit (.int .i64 a)/\Br (a==n2) ((0<=b/\b<(e0.length
 : Int))/\∀ a,c<=a->ACalls prog 104 [.ag 2] [.dg 2 (if 2=0 then D.cell (List.getD e0 b.toNat default) 1 else D.sub (List.getD e0 b.toNat default)
 1 2)] a (fun x b=>a<=b->Bel b x->∀ a,b<=a->Q x a)) (∀ a,c<=a->Q (D.ag [D.lit (.int .i64 0),D.sl Option.none 2 [] 0]) a)) (∀
 a,c<=a->Q (D.ag [D.lit (.int .i64 0),D.sl Option.none 2 [] 0]) a))) (Br (n==2) (∀ a,N<=a->ACalls prog 209 [.ag 2] [] a (fun b c=>a
 <= c->Bel c b->∀ a,c<=a->Q b a)) (Br (n==3) (∀ a,N<=a->ACalls prog 210 [.ag 2] [] a (fun b c=>a<=c->Bel c
 b->∀ a,c<=a->Q b a)) (Br (n==4) (∃ a b,∃ c:Nat,(x1.cell 8)=D.sl a 9 b c/\yH Q N 0 0 (b.length:Int) 0 x1 0 Option.none
 [] 0 a0 e0 c0 n2 [] 0 N) (Br (n==5) (∀ a,ApA (Option.some a) [D.sl a0 4 e0 c0]->∀ c,ApA (Option.some c) [x1]->∀ d,ApA (Option.some d) [D.lit
 (.int .i64 n2)]->∀ e,N<=e->vQ e [Option.some a,Option.some c,Option.some d]->ACalls prog 208 [.ag 2] [.int .i64 1,.pd a 0 (D.sl a0 4 e0
 c0),.pd c 9 x1,.pd d 0 (D.lit (.int .i64 n2))] e (fun f g=>e<=g->Off [Option.some a,Option.some c,Option.some d] f/\(Bel g
 f->∀ a,ApA (Option.some a) [D.sl a0 4 e0 c0]->∀ c,ApA (Option.some c) [x1]->∀ d,ApA (Option.some d) [D.lit (.int .i64 n2)]->∀ e,g
 <= e->vQ e [Option.some a,Option.some c,Option.some d]->ACalls prog 208 [.ag 2] [.int .i64 2,.pd a 0 (D.sl a0 4 e0 c0),.pd c 9 x1,.pd
 d 0 (D.lit (.int .i64 n2))] e (fun g h=>e<=h->Off [Option.some a,Option.some c,Option.some d] g/\(Bel h g->∀ a,ApA (Option.some
 a) [D.sl a0 4 e0 c0]->∀ c,ApA (Option.some c) [x1]->∀ d,ApA (Option.some d) [D.lit (.int .i64 n2)]->∀ e,h<=e->vQ e [Option.some
 a,Option.some c,Option.some d]->ACalls prog 208 [.ag 2] [.int .i64 0,.pd a 0 (D.sl a0 4 e0 c0),.pd c 9 x1,.pd d 0 (D.lit (.int .i64 n2))]
 e (fun h i=>e<=i->Off [Option.some a,Option.some c,Option.some d] h/\(Bel i h->∀ a,i<=a->ACalls prog 210 [.ag 2]
 [] a (fun c d=>a<=d->Bel d c->∀ a,d<=a->ACalls prog 33 [.bool] [.dg 2 h,.dg 2 c] a (fun b c=>a<=c->Br b
 (∀ a,c<=a->ACalls prog 33 [.bool] [.dg 2 f,.dg 2 g] a (fun b c=>a<=c->Br b (∀ a,c<=a->Q f a) (∀ a,c
 <= a->Q (D.ag [D.lit (.int .i64 0),D.sl Option.none 2 [] 0]) a))) (∀ a,c<=a->Q (D.ag [D.lit (.int .i64 0),D.sl Option.none 2 [] 0]) a))))))))))
 (Br (n==7) (∀ a,ApA (Option.some a) [D.sl a0 4 e0 c0]->∀ b,ApA (Option.some b) [x1]->∀ c,ApA (Option.some c) [D.lit (.int .i64 n2)]
 -> ∀ d,N<=d->vQ d [Option.some a,Option.some b,Option.some c]->ACalls prog 208 [.ag 2] [.int .i64 0,.pd a 0 (D.sl a0 4 e0 c0),.pd
 b 9 x1,.pd c 0 (D.lit (.int .i64 n2))] d (fun e f=>d<=f->Off [Option.some a,Option.some b,Option.some c] e/\(Bel f
 e->∀ a,ApA (Option.some a) [D.sl a0 4 e0 c0]->∀ b,ApA (Option.some b) [x1]->∀ c,ApA (Option.some c) [D.lit (.int .i64 n2)]->∀ d,
 f<=d->vQ d [Option.some a,Option.some b,Option.some c]->ACalls prog 208 [.ag 2] [.int .i64 1,.pd a 0 (D.sl a0 4 e0 c0),.pd b
 9 x1,.pd c 0 (D.lit (.int .i64 n2))] d (fun f g=>d<=g->Off [Option.some a,Option.some b,Option.some c] f/\(Bel g f ->
 ∃ a:Int,(e.cell 0)=D.lit (.int .i64 a)/\Br (a==3) (∃ a b,∃ c:Nat,(e.cell 1)=D.sl a 2 b c/\((0:Int)<=(0:Int)/\0<(b.length
 : Int))/\∀ a,g<=a->ACalls prog 33 [.bool] [.dg 2 (List.getD b 0 default),.dg 2 f] a (fun b c=>a<=c->Br b (∃ a b,∃ d
 : Nat,(e.cell 1)=D.sl a 2 b d/\((0:Int)<=(1:Int)/\1<(b.length:Int))/\∀ a,c<=a->ACalls prog 104 [.ag 2] [.dg 2 (List.getD b
 1 default)] a (fun b c=>a<=c->Bel c b->∀ a,c<=a->Q b a)) (∀ a,c<=a->Q (D.ag [D.lit (.int .i64 0),D.sl Option.none
 2 [] 0]) a))) (∀ a,g<=a->Q (D.ag [D.lit (.int .i64 0),D.sl Option.none 2 [] 0]) a)))))) (Br (n==6) (∃ a,(x1.cell 1)=D.lit (.string a)
 /\ ∃ b c,∃ d:Nat,(x1.cell 8)=D.sl b 9 c d/\((0:Int)<=(0:Int)/\0<(c.length:Int))/\(1=([D.ag [D.lit (.string a),D.cell (D.sub
 x1 4 2) 0,D.cell (D.sub x1 4 2) 1,D.lit (.int .i64 n2)]]).length/\1=1)/\∀ b,ApA b [D.ag [D.lit (.string a),D.cell (D.sub x1 4 2) 0,D.cell (D.sub x1
 4 2) 1,D.lit (.int .i64 n2)]]->Off [b] (D.sl a0 4 e0 c0)->∀ d,N<=d->vQ d [b]->ACalls prog 212 [.sl 4] [.sv a0 4 e0 c0,.sv b 4 [D.ag [D.lit
 (.string a),D.cell (D.sub x1 4 2) 0,D.cell (D.sub x1 4 2) 1,D.lit (.int .i64 n2)]] 1] d (fun a e f g=>d<=g->Off [b] (D.sl a 4 e
 f)/\(Bel g (D.sl a 4 e f)->∀ b,g<=b->ACalls prog 95 [.ag 2] [.sv a 4 e f,.dg 9 (List.getD c 0 default),.int .i64 n2] b (fun
 a c=>b<=c->Bel c a->∃ b:Int,(a.cell 0)=D.lit (.int .i64 b)/\Br (b==0) (∀ a,c<=a->Q (D.ag [D.lit (.int .i64 0),
 D.sl Option.none 2 [] 0]) a) (∀ b,c<=b->ACalls prog 213 [.ag 2] [.dg 2 (D.sub x1 4 2),.dg 2 a] b (fun a c=>b<=c->Bel c a
 -> ∀ b,c<=b->Q a b)))))) (Br (n==8) (∀ a,ApA (Option.some a) [D.sl a0 4 e0 c0]->∀ b,ApA (Option.some b) [x1]->∀ c,ApA
 (Option.some c) [D.lit (.int .i64 n2)]->∀ d,N<=d->vQ d [Option.some a,Option.some b,Option.some c]->ACalls prog 208 [.ag 2] [.int
 .i64 0,.pd a 0 (D.sl a0 4 e0 c0),.pd b 9 x1,.pd c 0 (D.lit (.int .i64 n2))] d (fun e f=>d<=f->Off [Option.some a,Option.some
 b,Option.some c] e/\(Bel f e->∃ a:Int,(e.cell 0)=D.lit (.int .i64 a)/\Br (a==0) (∀ a,f<=a->Q (D.ag [D.lit (.int
 .i64 0),D.sl Option.none 2 [] 0]) a) (∃ a,(x1.cell 1)=D.lit (.string a)/\∃ b c,∃ d:Nat,(x1.cell 8)=D.sl b 9 c d/\((0:Int)<=(1
 : Int)/\1<(c.length:Int))/\(1=([D.ag [D.lit (.string a),(e.cell 0),(e.cell 1),D.lit (.int .i64 n2)]]).length/\1=1)/\∀ b,ApA b [D.ag
 [D.lit (.string a),(e.cell 0),(e.cell 1),D.lit (.int .i64 n2)]]->Off [b] (D.sl a0 4 e0 c0)->∀ d,f<=d->vQ d [b]->ACalls prog 212
 [.sl 4] [.sv a0 4 e0 c0,.sv b 4 [D.ag [D.lit (.string a),(e.cell 0),(e.cell 1),D.lit (.int .i64 n2)]] 1] d (fun a e f g=>d<=g
 -> Off [b] (D.sl a 4 e f)/\(Bel g (D.sl a 4 e f)->∀ b,g<=b->ACalls prog 95 [.ag 2] [.sv a 4 e f,.dg 9 (List.getD c 1 default),
 .int .i64 n2] b (fun a c=>b<=c->Bel c a->∀ b,c<=b->Q a b))))))) (Br (n==9) (∀ a,N<=a->ACalls prog 213 [.ag
 2] [.dg 2 (D.sub x1 4 2),.dg 2 (D.sub x1 6 2)] a (fun b c=>a<=c->Bel c b->∃ a,(x1.cell 1)=D.lit (.string a)/\∃ d,(x1.cell 2)
 = D.lit (.string d)/\∃ e f,∃ g:Nat,(x1.cell 8)=D.sl e 9 f g/\((0:Int)<=(0:Int)/\0<(f.length:Int))/\(2=([D.ag [D.lit (.string
 a),(b.cell 0),(b.cell 1),D.lit (.int .i64 n2)],D.ag [D.lit (.string d),D.cell (D.sub x1 4 2) 0,D.cell (D.sub x1 4 2) 1,D.lit (.int .i64 n2)]]).length
 /\ 2=2)/\∀ e,ApA e [D.ag [D.lit (.string a),(b.cell 0),(b.cell 1),D.lit (.int .i64 n2)],D.ag [D.lit (.string d),D.cell (D.sub x1 4 2) 0,
 D.cell (D.sub x1 4 2) 1,D.lit (.int .i64 n2)]]->Off [e] (D.sl a0 4 e0 c0)->∀ g,c<=g->vQ g [e]->ACalls prog 212 [.sl 4] [.sv a0 4 e0 c0,
 .sv e 4 [D.ag [D.lit (.string a),(b.cell 0),(b.cell 1),D.lit (.int .i64 n2)],D.ag [D.lit (.string d),D.cell (D.sub x1 4 2) 0,D.cell (D.sub x1
 4 2) 1,D.lit (.int .i64 n2)]] 2] g (fun a c d h=>g<=h->Off [e] (D.sl a 4 c d)/\(Bel h (D.sl a 4 c d)->∀ e,h
 <= e->ACalls prog 95 [.ag 2] [.sv a 4 c d,.dg 9 (List.getD f 0 default),.int .i64 n2] e (fun a c=>e<=c->Bel c a->∀ d,
 c<=d->ACalls prog 33 [.bool] [.dg 2 a,.dg 2 (D.sub x1 6 2)] d (fun a c=>d<=c->Br a (∀ a,c<=a->Q b a) (∀ a,c
 <= a->Q (D.ag [D.lit (.int .i64 0),D.sl Option.none 2 [] 0]) a))))))) (∀ a,N<=a->ACalls prog 214 [.ag 2] [.sv a0 4 e0 c0,.dg 9 x1,.int .i64 n2]
 a (fun b c=>a<=c->Bel c b->∀ a,c<=a->Q b a))))))))))):ACalls prog 165 [.ag 2] [PV.sv a0 4 e0 c0,PV.dg 9 x1,PV.int .i64 n2] N Q:=
  eE (H:=tX) (by kernel_rfl) (by kernel_rfl) h
theorem zF2 (N:Nat) (a0:Option Addr) (e0:List D) (c0:Nat) (x1:D) (n2:Int) (Q:QT [.ag 2]) (h :
Bel N (D.sl a0 4 e0 c0)->Bel N x1->∀ a,N<=a->ACalls prog 165 [.ag 2] [.sv a0 4 e0 c0,.dg 9 x1,.int .i64 n2] a (fun x c=>a<=c->Bel c x ->
 ∀ a,c<=a->ACalls prog 114 [.bool] [.dg 2 x] a (fun b c=>a<=c->Br (!b) (∀ a,c<=a->Q (D.ag [D.lit (.int .i64 0),D.sl Option.none 2 []
 0]) a) (∀ a,c<=a->Q x a)))):ACalls prog 95 [.ag 2] [PV.sv a0 4 e0 c0,PV.dg 9 x1,PV.int .i64 n2] N Q:=
  eE (H:=zGq) (by kernel_rfl) (by kernel_rfl) h
theorem zEW (N:Nat) (a0:Option Addr) (e0:List D) (c0:Nat) (x1:D) (n2:Int) (Q:QT [.ag 2,.bool]) (h :
Bel N (D.sl a0 4 e0 c0)->Bel N x1->∀ a,N<=a->ACalls prog 43 [.bool] [.sv a0 4 e0 c0] a (fun b c=>a<=c->Br (!b) (∀ a,c<=a->Q (D.ag [D.lit
 (.int .i64 0),D.sl Option.none 2 [] 0]) false a) (∀ a,c<=a->ACalls prog 94 [.bool] [.dg 9 x1,.int .i64 n2] a (fun b c=>a<=c->Br (!b)
 (∀ a,c<=a->Q (D.ag [D.lit (.int .i64 0),D.sl Option.none 2 [] 0]) false a) (∀ a,c<=a->ACalls prog 95 [.ag 2] [.sv a0 4 e0 c0,.dg 9 x1,.int
 .i64 n2] a (fun x b=>a<=b->Bel b x->∃ n:Int,(x.cell 0)=D.lit (.int .i64 n)/\∀ a,b<=a->Q x (bne n 0) a)))))):ACalls prog 31 [.ag 2,.bool] [PV.sv a0 4 e0 c0,PV.dg 9 x1,PV.int .i64 n2] N Q:=
  eE (H:=zEX) (by kernel_rfl) (by kernel_rfl) h
theorem wd (Q:QT [.int .i64]) (N0:Nat) (a0:Option Addr) (e0:List D) (c0:Nat) (s1:ByteArray) (n7 n8:Int) (N:Nat) (h :
Br (decide (n8<n7)) ((0<=n8/\n8<(e0.length:Int))/\∃ s,List.getD e0 n8.toNat default=D.lit (.string s)/\Br (ByteArray.toList s1==ByteArray.toList s)
 (∀ a,N<=a->Q n8 a) (yC Q N0 a0 e0 c0 s1 n7 (IntKind.i64.wrap (n8+1)) N)) (∀ a,N<=a->Q (-1) a)):yC Q N0 a0 e0 c0 s1 n7 n8 N:=
  hE (H:=vN) (by kernel_rfl) h
theorem tY (Q:QT [.bool]) (N0:Nat) (s0:ByteArray) (n6 n7:Int) (N:Nat) (h :
Br (decide (n7<n6)) ((0<=n7/\n7<(s0.size:Int))/\Br (decide ((UInt8.toNat (Array.getD (ByteArray.data s0) n7.toNat (OfNat.ofNat 0)):Int)≥97)) ((0<=n7
 /\ n7<(s0.size:Int))/\Br (!(decide ((UInt8.toNat (Array.getD (ByteArray.data s0) n7.toNat (OfNat.ofNat 0)):Int)<=122))) (Br (n7==0) (∀ a,N<=a->Q
 false a) ((0<=n7/\n7<(s0.size:Int))/\Br (decide ((UInt8.toNat (Array.getD (ByteArray.data s0) n7.toNat (OfNat.ofNat 0)):Int)<48)) (∀ a,N<=a ->
 Q false a) ((0<=n7/\n7<(s0.size:Int))/\Br (decide ((UInt8.toNat (Array.getD (ByteArray.data s0) n7.toNat (OfNat.ofNat 0)):Int)>57)) (∀ a,N<=a
 -> Q false a) (yR Q N0 s0 n6 (IntKind.i64.wrap (n7+1)) N)))) (yR Q N0 s0 n6 (IntKind.i64.wrap (n7+1)) N)) (Br (n7==0) (∀ a,N
 <= a->Q false a) ((0<=n7/\n7<(s0.size:Int))/\Br (decide ((UInt8.toNat (Array.getD (ByteArray.data s0) n7.toNat (OfNat.ofNat 0)):Int)<48)) (∀ a,
 N<=a->Q false a) ((0<=n7/\n7<(s0.size:Int))/\Br (decide ((UInt8.toNat (Array.getD (ByteArray.data s0) n7.toNat (OfNat.ofNat 0)):Int)>57)) (∀ a,
 N<=a->Q false a) (yR Q N0 s0 n6 (IntKind.i64.wrap (n7+1)) N))))) (∀ c,N<=c->ACalls prog 115 [.bool] [.int .i64 (s0.size:Int),.int
 .i64 1,.int .i64 4] c (fun b d=>c<=d->Br b ((5=5/\5=5)/\∀ a,ApA a [D.lit (.string (bytes [105,102])),D.lit (.string (bytes [108,101,116])),
 D.lit (.string (bytes [108,105,102,116])),D.lit (.string (bytes [114,101,99])),D.lit (.string (bytes [114,117,110]))]->∀ b,d<=b->vQ b [a]
 -> ACalls prog 173 [.bool] [.sv a 0 [D.lit (.string (bytes [105,102])),D.lit (.string (bytes [108,101,116])),D.lit (.string (bytes [108,105,102,116])),D.lit
 (.string (bytes [114,101,99])),D.lit (.string (bytes [114,117,110]))] 5,.str s0] b (fun a c=>b<=c->∀ b,c<=b->Q (!a) b)) (∀
 a,d<=a->Q false a)))):yR Q N0 s0 n6 n7 N:=
  hE (H:=qQ) (by kernel_rfl) h
theorem vK (Q:QT [.int .i64]) (N0:Nat) (n3:Int) (a7:Option Addr) (e7:List D) (c7:Nat) (n8 n9:Int) (N:Nat) (h :
Br (decide (n9<n8)) ((0<=n9/\n9<(e7.length:Int))/\∀ a,N<=a->ACalls prog 174 [.int .i64] [.dg 2 (List.getD e7 n9.toNat default)] a (fun n b=>
 a<=b->ya Q N0 (IntKind.i64.wrap (n3+n)) a7 e7 c7 n8 (IntKind.i64.wrap (n9+1)) b)) (∀ a,N<=a->Q n3 a)):ya Q N0 n3 a7 e7 c7 n8 n9 N:=
  hE (H:=uK) (by kernel_rfl) h
theorem wo (Q:QT [.int .i64]) (N0:Nat) (n3:Int) (a7:Option Addr) (e7:List D) (c7:Nat) (n8 n9:Int) (N:Nat) (h :
Br (decide (n9<n8)) ((0<=n9/\n9<(e7.length:Int))/\∀ a,N<=a->ACalls prog 175 [.int .i64] [.dg 2 (List.getD e7 n9.toNat default)] a (fun n b=>
 a<=b->yN Q N0 (if n>n3 then n else n3) a7 e7 c7 n8 (IntKind.i64.wrap (n9+1)) b)) (∀ a,N<=a->Q (IntKind.i64.wrap (n3+1)) a) 
 ):yN Q N0 n3 a7 e7 c7 n8 n9 N:=
  hE (H:=vm) (by kernel_rfl) h
theorem rq (N:Nat) (x0:D) (Q:QT [.bool]) (h :
Bel N x0->∀ d,N<=d->ACalls prog 177 [.bool] [.dg 2 x0] d (fun b e=>d<=e->Br b (∃ a b,∃ c:Nat,(x0.cell 1)=D.sl a 2 b c/\∀ d,ApA (Option.some
 d) [D.fn (OfNat.ofNat 177) []]->Off [Option.some d] (D.sl a 2 b c)->∀ f,e<=f->vQ f [Option.some d]->ACalls prog 220 [.bool] [.sv a 2 b c,.fn
 221 [.pd d 0 (.fn 177 [])]] f (fun a b=>f<=b->∀ c,b<=c->Q (!a) c)) (∀ a,e<=a->Q false a))):ACalls prog 176 [.bool] [.dg 2 x0,.fn 177 []] N Q:=
  eE (H:=zCH) (by kernel_rfl) (by kernel_rfl) h
theorem wM (N:Nat) (a0:Option Addr) (e0:List D) (c0:Nat) (Q:QT [.bool]) (h :
Bel N (D.sl a0 4 e0 c0)->∀ a,N<=a->ACalls prog 172 [.int .i64] [.sv a0 4 e0 c0,.fn 112 []] a (fun n b=>a<=b->∀ a,b<=a->Q (decide (n
 ≥ 0)) a)):ACalls prog 111 [.bool] [.sv a0 4 e0 c0,.fn 112 []] N Q:=
  eE (H:=w4) (by kernel_rfl) (by kernel_rfl) h
theorem vS (N:Nat) (a0:Option Addr) (e0:List D) (c0:Nat) (a1:Option Addr) (e1:List D) (c1:Nat) (Q:QT [.bool]) (h :
Bel N (D.sl a0 2 e0 c0)->Bel N (D.sl a1 2 e1 c1)->Br (bne (e0.length:Int) (e1.length:Int)) (∀ a,N<=a->Q false a) (zQ Q N a1
 e1 c1 a0 e0 c0 (e0.length:Int) 0 N)):ACalls prog 98 [.bool] [.sv a0 2 e0 c0,.sv a1 2 e1 c1,.fn 33 []] N Q:=
  eE (H:=xu) (by kernel_rfl) (by kernel_rfl) h
theorem rZ (N:Nat) (x0:D) (Q:QT [.bool]) (h :
Bel N x0->∀ d,N<=d->ACalls prog 179 [.bool] [.dg 9 x0] d (fun b e=>d<=e->Br b (∃ a b,∃ c:Nat,(x0.cell 8)=D.sl a 9 b c/\∀ d,ApA (Option.some
 d) [D.fn (OfNat.ofNat 179) []]->Off [Option.some d] (D.sl a 9 b c)->∀ f,e<=f->vQ f [Option.some d]->ACalls prog 188 [.bool] [.sv a 9 b c,.fn
 189 [.pd d 0 (.fn 179 [])]] f (fun a b=>f<=b->∀ c,b<=c->Q (!a) c)) (∀ a,e<=a->Q false a))):ACalls prog 133 [.bool] [.dg 9 x0,.fn 179 []] N Q:=
  eE (H:=zCN) (by kernel_rfl) (by kernel_rfl) h
theorem zAD (N:Nat) (x0:D) (n1:Int) (Q:QT [.bool]) (h :
Bel N x0->∀ d,N<=d->ACalls prog 164 [.bool] [.dg 9 x0,.int .i64 n1] d (fun b e=>d<=e->Br (!b) (∀ a,e<=a->Q false a) (∃ a b,∃ c
 : Nat,(x0.cell 8)=D.sl a 9 b c/\xo Q N n1 a b c (b.length:Int) 0 x0 e))):ACalls prog 163 [.bool] [.dg 9 x0,.int .i64 n1,.fn 164 []] N Q:=
  eE (H:=qD) (by kernel_rfl) (by kernel_rfl) h
theorem uC (Q:QT [.int .i64]) (N0:Nat) (a0:Option Addr) (e0:List D) (c0:Nat) (s1:ByteArray) (n5:Int) (N:Nat) (h :
Br (decide (n5≥0)) ((0<=n5/\n5<(e0.length:Int))/\∃ s,(if 0=0 then D.cell (List.getD e0 n5.toNat default) 0 else D.sub (List.getD e0 n5.toNat default)
 0 0)=D.lit (.string s)/\Br (ByteArray.toList s==ByteArray.toList s1) (∀ a,N<=a->Q n5 a) (y6 Q N0 a0 e0 c0 s1 (IntKind.i64.wrap (n5 -
 1)) N)) (∀ a,N<=a->Q (-1) a)):y6 Q N0 a0 e0 c0 s1 n5 N:=
  hE (H:=tl) (by kernel_rfl) h
theorem v9 (Q:QT [.ag 2]) (N0:Nat) (a10:Option Addr) (e10:List D) (c10:Nat) (n11 n12 n0_0:Int) (a0_1:Option Addr) (e0_1:List D) (c0_1:Nat) (n1_0:Int) (a1_1:Option Addr) (e1_1:List D) (c1_1:Nat) (N:Nat) (h :
Br (decide (n12<n11)) ((0<=n12/\n12<(e10.length:Int))/\∀ a,N<=a->ACalls prog 104 [.ag 2] [.dg 2 (List.getD e10 n12.toNat default)] a (fun x b
 => a<=b->Bel b x->zMn a1_1 e1_1 c1_1 [x]/\zA e1_1 [x] 32/\∀ (c:Nat),yO Q N0 a10 e10 c10 n11 (IntKind.i64.wrap (n12+1)) n0_0
 a0_1 e0_1 c0_1 n1_0 (e1_1++[x]).length c (e1_1++[x]) c b)) (∀ a,N<=a->Q (D.ag [D.lit (.int .i64 n1_0),D.sl a1_1 2 e1_1 c1_1]) a)):wP Q N0 a10 e10 c10 n11 n12 n0_0 a0_1 e0_1 c0_1 n1_0 a1_1 e1_1 c1_1 N:=
  hE (H:=vF) (by kernel_rfl) h
theorem ux (Q:QT [.ag 2]) (N0:Nat) (a22:Option Addr) (e22:List D) (c22:Nat) (n23 n24 n0_0:Int) (a0_1:Option Addr) (e0_1:List D) (c0_1:Nat) (y1 y2:D) (N:Nat) (h :
Br (decide (n24<n23)) ((0<=n24/\n24<(e22.length:Int))/\∀ a,N<=a->ACalls prog 33 [.bool] [.dg 2 (List.getD e22 n24.toNat default),.dg 2 y1] a (fun
 b c=>a<=c->Br (!b) (∀ a,c<=a->Q (D.ag [D.lit (.int .i64 0),D.sl Option.none 2 [] 0]) a) (zN Q N0 a22 e22 c22 n23 (IntKind.i64.wrap
 (n24+1)) n0_0 a0_1 e0_1 c0_1 y1 y2 c))) (∀ a,N<=a->Q y2 a)):zN Q N0 a22 e22 c22 n23 n24 n0_0 a0_1 e0_1 c0_1 y1 y2 N:=
  hE (H:=rr) (by kernel_rfl) h
theorem uv (Q:QT [.sl 4]) (N0:Nat) (a0:Option Addr) (e0:List D) (c0:Nat) (n1:Int) (m5 c5:Nat) (a9:Option Addr) (e9:List D) (c9:Nat) (n10 n11:Int) (r0:List D) (q0:Nat) (N:Nat) (h :
Br (decide (n11<n10)) ((0<=n11/\n11<(e9.length:Int))/\∀ a,N<=a->ACalls prog 102 [.bool] [.dg 2 (D.sub (List.getD e9 n11.toNat default) 1 2)] a
 (fun b d=>a<=d->Br b (∃ n:Int,D.cell (List.getD e9 n11.toNat default) 3=D.lit (.int .i64 n)/\Br (decide (n<=n1)) (∃ s,D.cell (List.getD e9 n11.toNat
 default) 0=D.lit (.string s)/\∀ a,d<=a->ACalls prog 103 [.int .i64] [.sv a0 4 e0 c0,.str s] a (fun b d=>a<=d->Br (b==n11) (∃ a,
 D.cell (List.getD e9 n11.toNat default) 0=D.lit (.string a)/\∃ b:Int,D.cell (List.getD e9 n11.toNat default) 3=D.lit (.int .i64 b)/\∀ e,d<=e
 -> ACalls prog 104 [.ag 2] [.dg 2 (D.sub (List.getD e9 n11.toNat default) 1 2)] e (fun x d=>e<=d->Bel d x->(m5=r0.length/\c5=q0)/\zA r0
 [D.ag [D.lit (.string a),(x.cell 0),(x.cell 1),D.lit (.int .i64 b)]] 56/\∀ (c:Nat),zt Q N0 a0 e0 c0 n1 (r0++[D.ag [D.lit (.string a),
 (x.cell 0),(x.cell 1),D.lit (.int .i64 b)]]).length c a9 e9 c9 n10 (IntKind.i64.wrap (n11+1)) (r0++[D.ag [D.lit (.string a),(x.cell 0),(x.cell 1),D.lit
 (.int .i64 b)]]) c d)) (zt Q N0 a0 e0 c0 n1 m5 c5 a9 e9 c9 n10 (IntKind.i64.wrap (n11+1)) r0 q0 d))) (zt Q N0 a0 e0 c0 n1 m5
 c5 a9 e9 c9 n10 (IntKind.i64.wrap (n11+1)) r0 q0 d)) (zt Q N0 a0 e0 c0 n1 m5 c5 a9 e9 c9 n10 (IntKind.i64.wrap (n11+1)) r0 q0 d))) ((m5=r0.length
 /\ c5=q0)/\(m5=r0.length/\c5=q0)/\(m5=r0.length/\c5=q0)/\∀ a b,N<=b->Fresh N0 b a [D.ag r0]->∀ c,b<=c->Q a r0 q0 c)):zt Q N0 a0 e0 c0 n1 m5 c5 a9 e9 c9 n10 n11 r0 q0 N:=
  hE (H:=sw) (by kernel_rfl) h
theorem va (Q:QT [.ag 2]) (N0:Nat) (m9 c9:Nat) (n57 n58:Int) (y0:D) (n1_0:Int) (a1_1:Option Addr) (e1_1:List D) (c1_1:Nat) (a2_0:Option Addr) (e2_0:List D) (c2_0:Nat) (n3_0:Int) (r4:List D) (q4:Nat) (N:Nat) (h :
Br (decide (n58<n57)) (∀ a,ApA (Option.some a) [D.sl a2_0 4 e2_0 c2_0]->∀ b,ApA (Option.some b) [y0]->∀ d,ApA (Option.some d) [D.lit (.int .i64
 n3_0)]->∀ e,N<=e->vQ e [Option.some a,Option.some b,Option.some d]->ACalls prog 208 [.ag 2] [.int .i64 n58,.pd a 0 (D.sl a2_0 4 e2_0 c2_0),
 .pd b 9 y0,.pd d 0 (D.lit (.int .i64 n3_0))] e (fun x f=>e<=f->Off [Option.some a,Option.some b,Option.some d] x/\(Bel f x->(m9 =
 r4.length/\c9=q4)/\zA r4 [x] 32/\∀ (c:Nat),yH Q N0 (r4++[x]).length c n57 (IntKind.i64.wrap (n58+1)) y0 n1_0 a1_1 e1_1 c1_1 a2_0
 e2_0 c2_0 n3_0 (r4++[x]) c f))) (∃ s,(y0.cell 1)=D.lit (.string s)/\(m9=r4.length/\c9=q4)/\∀ a,ApA a r4->∀ b,N<=b->vQ b [a]->ACalls prog
 211 [.ag 2] [.str s,.sv a 2 r4 c9] b (fun c d=>b<=d->Off [a] c/\(Bel d c->∀ a,d<=a->Q c a)))):yH Q N0 m9 c9 n57 n58 y0 n1_0 a1_1 e1_1 c1_1 a2_0 e2_0 c2_0 n3_0 r4 q4 N:=
  hE (H:=tX) (by kernel_rfl) h
theorem sX (N:Nat) (n0:Int) (a1:Addr) (x1_:D) (a2:Addr) (x2_:D) (a3:Addr) (x3_:D) (Q:QT [.ag 2]) (h :
∃ a b,∃ c:Nat,x1_=D.sl a 4 b c/\∃ d e,∃ f:Nat,(if 0=0 then (x2_.cell 8) else D.sub x2_ 8 0)=D.sl d 9 e f/\(0<=n0/\n0<(e.length
 : Int))/\∃ n:Int,x3_=D.lit (.int .i64 n)/\∀ d,N<=d->ACalls prog 95 [.ag 2] [.sv a 4 b c,.dg 9 (List.getD e n0.toNat default),.int .i64 n] d
 (fun x a=>d<=a->Bel a x->∀ b,a<=b->Q x b)):ACalls prog 208 [.ag 2] [.int .i64 n0,.pd a1 0 x1_,.pd a2 9 x2_,.pd a3 0 x3_] N Q:=
  eE (H:=pQ) (by kernel_rfl) (by kernel_rfl) h
theorem wk (N:Nat) (a0:Option Addr) (e0:List D) (c0:Nat) (a1_0:Addr) (Q:QT [.bool]) (h :
Bel N (D.sl a0 2 e0 c0)->∀ a,N<=a->ACalls prog 247 [.int .i64] [.sv a0 2 e0 c0,.fn 221 [.pd a1_0 0 (.fn 177 [])]] a (fun n b=>a<=b->∀ a,b
 <= a->Q (decide (n≥0)) a)):ACalls prog 220 [.bool] [.sv a0 2 e0 c0,.fn 221 [.pd a1_0 0 (.fn 177 [])]] N Q:=
  eE (H:=vT) (by kernel_rfl) (by kernel_rfl) h
theorem w5 (N:Nat) (a0:Option Addr) (e0:List D) (c0:Nat) (Q:QT [.int .i64]) (h :
Bel N (D.sl a0 4 e0 c0)->zV Q N a0 e0 c0 (e0.length:Int) 0 N):ACalls prog 172 [.int .i64] [.sv a0 4 e0 c0,.fn 112 []] N Q:=
 eE (H:=xC) (by kernel_rfl) (by kernel_rfl) h
theorem xF (Q:QT [.bool]) (N0:Nat) (a1:Option Addr) (e1:List D) (c1:Nat) (a15:Option Addr) (e15:List D) (c15:Nat) (n16 n17:Int) (N:Nat) (h :
Br (decide (n17<n16)) ((0<=n17/\n17<(e15.length:Int))/\(0<=n17/\n17<(e1.length:Int))/\∀ a,N<=a->ACalls prog 33 [.bool] [.dg 2 (List.getD e15
 n17.toNat default),.dg 2 (List.getD e1 n17.toNat default)] a (fun b c=>a<=c->Br (!b) (∀ a,c<=a->Q false a) (zQ Q N0
 a1 e1 c1 a15 e15 c15 n16 (IntKind.i64.wrap (n17+1)) c))) (∀ a,N<=a->Q true a)):zQ Q N0 a1 e1 c1 a15 e15 c15 n16 n17 N:=
  hE (H:=xu) (by kernel_rfl) h
theorem wl (N:Nat) (a0:Option Addr) (e0:List D) (c0:Nat) (a1_0:Addr) (Q:QT [.bool]) (h :
Bel N (D.sl a0 9 e0 c0)->∀ a,N<=a->ACalls prog 236 [.int .i64] [.sv a0 9 e0 c0,.fn 189 [.pd a1_0 0 (.fn 179 [])]] a (fun n b=>a<=b->∀ a,b
 <= a->Q (decide (n≥0)) a)):ACalls prog 188 [.bool] [.sv a0 9 e0 c0,.fn 189 [.pd a1_0 0 (.fn 179 [])]] N Q:=
  eE (H:=vR) (by kernel_rfl) (by kernel_rfl) h
theorem tS (Q:QT [.bool]) (N0:Nat) (n1:Int) (a15:Option Addr) (e15:List D) (c15:Nat) (n16 n17:Int) (y0:D) (N:Nat) (h :
Br (decide (n17<n16)) ((0<=n17/\n17<(e15.length:Int))/\∀ a,N<=a->ACalls prog 207 [.int .i64] [.dg 9 y0,.int .i64 n1] a (fun n c=>a<=c
 -> ∀ a,c<=a->ACalls prog 163 [.bool] [.dg 9 (List.getD e15 n17.toNat default),.int .i64 n,.fn 164 []] a (fun b c=>a<=c->Br (!b) (∀ a,c
 <= a->Q false a) (xo Q N0 n1 a15 e15 c15 n16 (IntKind.i64.wrap (n17+1)) y0 c)))) (∀ a,N<=a->Q true a)):xo Q N0 n1 a15 e15 c15 n16 n17 y0 N:=
  hE (H:=qD) (by kernel_rfl) h
theorem wq (Q:QT [.ag 2]) (N0:Nat) (a10:Option Addr) (e10:List D) (c10:Nat) (n11 n12 n0_0:Int) (a0_1:Option Addr) (e0_1:List D) (c0_1:Nat) (n1_0:Int) (m1_1 c1_1:Nat) (r2:List D) (q2:Nat) (N:Nat) (h :
Br (decide (n12<n11)) ((0<=n12/\n12<(e10.length:Int))/\∀ a,N<=a->ACalls prog 104 [.ag 2] [.dg 2 (List.getD e10 n12.toNat default)] a (fun x b
 => a<=b->Bel b x->(m1_1=r2.length/\c1_1=q2)/\zA r2 [x] 32/\∀ (c:Nat),yO Q N0 a10 e10 c10 n11 (IntKind.i64.wrap (n12+1))
 n0_0 a0_1 e0_1 c0_1 n1_0 (r2++[x]).length c (r2++[x]) c b)) ((m1_1=r2.length/\c1_1=q2)/\(m1_1=r2.length/\c1_1=q2)/\(m1_1=r2.length/\c1_1=q2)
 /\ ∀ a b,N<=b->Fresh N0 b a [D.ag r2]->∀ c,b<=c->Q (D.ag [D.lit (.int .i64 n1_0),D.sl a 2 r2 q2]) c)):yO Q N0 a10 e10 c10 n11 n12 n0_0 a0_1 e0_1 c0_1 n1_0 m1_1 c1_1 r2 q2 N:=
  hE (H:=vF) (by kernel_rfl) h
theorem vU (N:Nat) (a0:Option Addr) (e0:List D) (c0:Nat) (a1_0:Addr) (Q:QT [.int .i64]) (h :
Bel N (D.sl a0 2 e0 c0)->zi Q N a0 e0 c0 a1_0 (e0.length:Int) 0 N):ACalls prog 247 [.int .i64] [.sv a0 2 e0 c0,.fn 221 [.pd a1_0 0 (.fn 177 [])]] N Q:=
 eE (H:=wF) (by kernel_rfl) (by kernel_rfl) h
theorem yx (Q:QT [.int .i64]) (N0:Nat) (a0:Option Addr) (e0:List D) (c0:Nat) (n7 n8:Int) (N:Nat) (h :
Br (decide (n8<n7)) ((0<=n8/\n8<(e0.length:Int))/\∀ a,N<=a->ACalls prog 112 [.bool] [.dg 4 (List.getD e0 n8.toNat default)] a (fun b c=>a
 <= c->Br b (∀ a,c<=a->Q n8 a) (zV Q N0 a0 e0 c0 n7 (IntKind.i64.wrap (n8+1)) c))) (∀ a,N<=a->Q (-1) a)):zV Q N0 a0 e0 c0 n7 n8 N:=
  hE (H:=xC) (by kernel_rfl) h
theorem vV (N:Nat) (a0:Option Addr) (e0:List D) (c0:Nat) (a1_0:Addr) (Q:QT [.int .i64]) (h :
Bel N (D.sl a0 9 e0 c0)->zj Q N a0 e0 c0 a1_0 (e0.length:Int) 0 N):ACalls prog 236 [.int .i64] [.sv a0 9 e0 c0,.fn 189 [.pd a1_0 0 (.fn 179 [])]] N Q:=
 eE (H:=wH) (by kernel_rfl) (by kernel_rfl) h
theorem xJ (Q:QT [.int .i64]) (N0:Nat) (a0:Option Addr) (e0:List D) (c0:Nat) (a1_0:Addr) (n7 n8:Int) (N:Nat) (h :
Br (decide (n8<n7)) ((0<=n8/\n8<(e0.length:Int))/\∀ a,N<=a->ACalls prog 221 [.bool] [.dg 2 (List.getD e0 n8.toNat default),.pd a1_0 0 (.fn 177 [])]
 a (fun b c=>a<=c->Br b (∀ a,c<=a->Q n8 a) (zi Q N0 a0 e0 c0 a1_0 n7 (IntKind.i64.wrap (n8+1)) c))) (∀ a,N <=
 a->Q (-1) a)):zi Q N0 a0 e0 c0 a1_0 n7 n8 N:=
  hE (H:=wF) (by kernel_rfl) h
theorem xE (Q:QT [.int .i64]) (N0:Nat) (a0:Option Addr) (e0:List D) (c0:Nat) (a1_0:Addr) (n7 n8:Int) (N:Nat) (h :
Br (decide (n8<n7)) ((0<=n8/\n8<(e0.length:Int))/\∀ a,N<=a->ACalls prog 189 [.bool] [.dg 9 (List.getD e0 n8.toNat default),.pd a1_0 0 (.fn 179 [])]
 a (fun b c=>a<=c->Br b (∀ a,c<=a->Q n8 a) (zj Q N0 a0 e0 c0 a1_0 n7 (IntKind.i64.wrap (n8+1)) c))) (∀ a,N <=
 a->Q (-1) a)):zj Q N0 a0 e0 c0 a1_0 n7 n8 N:=
  hE (H:=wH) (by kernel_rfl) h
theorem sV (N:Nat) (x0:D) (a1:Addr) (Q:QT [.bool]) (h :
Bel N x0->∀ a,N<=a->ACalls prog 176 [.bool] [.dg 2 x0,.fn 177 []] a (fun b c=>a<=c->∀ a,c<=a->Q (!b) a)):ACalls prog 221 [.bool] [.dg 2 x0,.pd a1 0 (.fn 177 [])] N Q:=
 eE (H:=qp) (by kernel_rfl) (by kernel_rfl) h
theorem sY (N:Nat) (x0:D) (a1:Addr) (Q:QT [.bool]) (h :
Bel N x0->∀ a,N<=a->ACalls prog 133 [.bool] [.dg 9 x0,.fn 179 []] a (fun b c=>a<=c->∀ a,c<=a->Q (!b) a)):ACalls prog 189 [.bool] [.dg 9 x0,.pd a1 0 (.fn 179 [])] N Q:=
 eE (H:=qw) (by kernel_rfl) (by kernel_rfl) h
end Go.Proofs.YtkdjhkfiolhkiaaGreat
