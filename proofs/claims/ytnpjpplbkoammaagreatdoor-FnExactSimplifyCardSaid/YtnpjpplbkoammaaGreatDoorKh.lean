/- Printed by gen.py: what the functions come to. -/
import Derived.Test.YtnpjpplbkoammaaGreatDoorJh
set_option linter.unusedVariables false
set_option maxRecDepth 100000
namespace Go.Proofs.YtnpjpplbkoammaaGreatDoor
open Go Go.Proofs Go.Proofs.Tryz
def zCV:Hint:=⟨[],[],[]⟩
def zAh:Hint:=⟨[],[],[]⟩
def rY:Hint:=⟨[hc 5 [1,2,4,5,15,16,17]],[],[(11,[en 0,en 1,en 2,en 3,en 4,en 5,en 6,en 7,eh 8,en 9,en 10,en 11,en 12,en 13])]⟩
def zGn:Hint:=⟨[],[],[]⟩
def zDg:Hint:=⟨[],[],[]⟩
def zDv:Hint:=⟨[],[],[]⟩
def zFh:Hint:=⟨[],[],[]⟩
def zKM:Hint:=⟨[],[],[]⟩
def yC (Q:QT [.ag 9,.bool]) (N0:Nat) (n4:Int) (m5 c5:Nat) (a15:Option Addr) (e15:List D) (c15:Nat) (n16 n17:Int) (y0:D) (n1_0:Int) (s1_1 s1_2:ByteArray) (n1_3 n1_4:Int) (a1_5:Option Addr) (e1_5:List D) (c1_5:Nat) (n1_6:Int) (a1_7:Option Addr) (e1_7:List D) (c1_7:Nat) (a1_8:Option Addr) (e1_8:List D) (c1_8:Nat) (r2:List D) (q2:Nat) (N:Nat):Prop:=AT prog 111 [.ag 9,.bool] Q N0 .ord (zF prog 111 5) ⟨an 1 (.pb 0 0 0 0::.pb 1 0 0 0::an 1 (.int .i64 n4::.sb 2 0 0 m5 c5::an 9 (.sv a15 9 e15 c15::.int .i64 n16::.int .i64 n17::an 33 []))),[.vd y0 9,.var [.int .i64 n1_0,.str s1_1,.str s1_2,.int .i64 n1_3,.int .i64 n1_4,.sv a1_5 2 e1_5 c1_5,.int .i64 n1_6,.sv a1_7 2 e1_7 c1_7,.sv a1_8 9 e1_8 c1_8],.arr 3 0 r2 q2],N,none⟩
theorem zCE (N:Nat) (s0:ByteArray) (Q:QT [.bool]) (h :
Br (ByteArray.toList s0==ByteArray.toList (bytes [38])) (∀ a,N≤a→Q true a) (Br (ByteArray.toList s0==ByteArray.toList (bytes [124])) (∀ a,N≤a
 → Q true a) (∀ a,N≤a→Q (ByteArray.toList s0==ByteArray.toList (bytes [33])) a))):ACalls prog 145 [.bool] [PV.str s0] N Q:=
  eE (H:=zCV) (by kernel_rfl) (by kernel_rfl) h
theorem zAk (N:Nat) (s0:ByteArray) (Q:QT [.bool]) (h :
∀ a,N≤a→ACalls prog 145 [.bool] [.str s0] a (fun b c=>a≤c→Br b (∀ a,c≤a→Q true a) (Br (ByteArray.toList s0==ByteArray.toList
 (bytes [61])) (∀ a,c≤a→Q true a) (∀ a,c≤a→Q (ByteArray.toList s0==ByteArray.toList (bytes [60])) a)))):ACalls prog 148 [.bool] [PV.str s0] N Q:=
  eE (H:=zAh) (by kernel_rfl) (by kernel_rfl) h
theorem zDW (N:Nat) (x0:D) (Q:QT [.ag 9,.bool]) (h :
Bel N x0→∃ s,(x0.cell 1)=D.lit (.string s)∧∀ d,N≤d→ACalls prog 145 [.bool] [.str s] d (fun b e=>d≤e→Br b (∃ a b,∃ c:Nat,(x0.cell
 8)=D.sl a 9 b c∧yC Q N 3 2 2 a b c (b.length:Int) 0 x0 0 (bytes []) (bytes []) 0 0 Option.none [] 0 0 Option.none [] 0 Option.none [] 0 [D.lit
 (.int .i64 0),D.lit (.int .i64 0)] 2 e) (∃ a b,∃ c:Nat,(x0.cell 8)=D.sl a 9 b c∧yC Q N 2 2 2 a b c (b.length:Int)
 0 x0 0 (bytes []) (bytes []) 0 0 Option.none [] 0 0 Option.none [] 0 Option.none [] 0 [D.lit (.int .i64 0),D.lit (.int .i64 0)] 2 e))):ACalls prog 111 [.ag 9,.bool] [PV.dg 9 x0] N Q:=
  eE (H:=rY) (by kernel_rfl) (by kernel_rfl) h
theorem zHd (N:Nat) (n0:Int) (Q:QT [.ag 9]) (h :
∀ a,N≤a→Q (D.ag [D.lit (.int .i64 2),D.lit (.string (bytes [])),D.lit (.string (bytes [])),D.lit (.int .i64 n0),D.lit (.int .i64 0),D.sl Option.none
 2 [] 0,D.lit (.int .i64 0),D.sl Option.none 2 [] 0,D.sl Option.none 9 [] 0]) a):ACalls prog 181 [.ag 9] [PV.int .i64 n0] N Q:=
  eE (H:=zGn) (by kernel_rfl) (by kernel_rfl) h
theorem zDR (N:Nat) (n0:Int) (b1:Bool) (Q:QT [.ag 9]) (h :
Br b1 (∀ a,N≤a→Q (D.ag [D.lit (.int .i64 3),D.lit (.string (bytes [])),D.lit (.string (bytes [])),D.lit (.int .i64 n0),D.lit (.int .i64 0),D.sl Option.none
 2 [] 0,D.lit (.int .i64 0),D.sl Option.none 2 [] 0,D.sl Option.none 9 [] 0]) a) (∀ a,N≤a→ACalls prog 181 [.ag 9] [.int .i64 n0] a (fun x b=>a
 ≤ b→Bel b x→∀ a,b≤a→Q x a))):ACalls prog 147 [.ag 9] [PV.int .i64 n0,PV.bool b1] N Q:=
  eE (H:=zDg) (by kernel_rfl) (by kernel_rfl) h
theorem zC9 (N:Nat) (s0:ByteArray) (n1 n2:Int) (Q:QT [.int .i64,.bool]) (h :
∀ a,N≤a→ACalls prog 177 [.bool] [.int .i64 n1] a (fun b c=>a≤c→Br (!b) (∀ a,c≤a→Q 0 false a) (∀ a,c≤a→ACalls prog
 177 [.bool] [.int .i64 n2] a (fun b c=>a≤c→Br (!b) (∀ a,c≤a→Q 0 false a) (Br (ByteArray.toList s0==ByteArray.toList (bytes [43]))
 (∀ a,c≤a→ACalls prog 179 [.int .i64] [.int .i64 (IntKind.i64.wrap (n1+n2))] a (fun n b=>a≤b→∀ a,b≤a→Q n true a)) (Br (ByteArray.toList
 s0==ByteArray.toList (bytes [45])) (∀ a,c≤a→ACalls prog 179 [.int .i64] [.int .i64 (IntKind.i64.wrap (n1 - n2))] a (fun b c=>a≤c
 → ∀ a,c≤a→Q b true a)) (Br (ByteArray.toList s0==ByteArray.toList (bytes [42])) (∀ a,c≤a→ACalls prog 179 [.int .i64] [.int .i64
 (IntKind.i64.wrap (n1*n2))] a (fun b c=>a≤c→∀ a,c≤a→Q b true a)) (Br (ByteArray.toList s0==ByteArray.toList (bytes [61]))
 (∀ a,c≤a→ACalls prog 180 [.int .i64] [.bool (n1==n2)] a (fun b c=>a≤c→∀ a,c≤a→Q b true a)) (Br (ByteArray.toList
 s0==ByteArray.toList (bytes [60])) (∀ a,c≤a→ACalls prog 180 [.int .i64] [.bool (decide (n1<n2))] a (fun b c=>a≤c→∀ a,c
 ≤ a→Q b true a)) (Br (ByteArray.toList s0==ByteArray.toList (bytes [38])) (Br (n1==1) (∀ a,c≤a→ACalls prog 180 [.int .i64] [.bool (n2
 == 1)] a (fun b c=>a≤c→∀ a,c≤a→Q b true a)) (∀ a,c≤a→ACalls prog 180 [.int .i64] [.bool false] a (fun b
 c=>a≤c→∀ a,c≤a→Q b true a))) (Br (ByteArray.toList s0==ByteArray.toList (bytes [124])) (Br (n1==1) (∀ a,c≤a→ACalls
 prog 180 [.int .i64] [.bool true] a (fun b c=>a≤c→∀ a,c≤a→Q b true a)) (∀ a,c≤a→ACalls prog 180 [.int .i64] [.bool
 (n2==1)] a (fun b c=>a≤c→∀ a,c≤a→Q b true a))) (Br (ByteArray.toList s0==ByteArray.toList (bytes [33])) (∀ a,c ≤
 a→ACalls prog 180 [.int .i64] [.bool (n1==0)] a (fun b c=>a≤c→∀ a,c≤a→Q b true a)) (∀ a,c≤a→Q 0 false
 a))))))))))))):ACalls prog 146 [.int .i64,.bool] [PV.str s0,PV.int .i64 n1,PV.int .i64 n2] N Q:=
  eE (H:=zDv) (by kernel_rfl) (by kernel_rfl) h
theorem zEw (N:Nat) (n0:Int) (Q:QT [.int .i64]) (h :
(10007:Int)≠(0:Int)∧(10007:Int)≠(0:Int)∧∀ a,N≤a→Q (Int.tmod (IntKind.i64.wrap (Int.tmod n0 10007+10007)) 10007) a):ACalls prog 179 [.int .i64] [PV.int .i64 n0] N Q:=
 eE (H:=zFh) (by kernel_rfl) (by kernel_rfl) h
theorem zJr (N:Nat) (b0:Bool) (Q:QT [.int .i64]) (h :
Br b0 (∀ a,N≤a→Q 1 a) (∀ a,N≤a→Q 0 a)):ACalls prog 180 [.int .i64] [PV.bool b0] N Q:=
 eE (H:=zKM) (by kernel_rfl) (by kernel_rfl) h
theorem tB (Q:QT [.ag 9,.bool]) (N0:Nat) (n4:Int) (m5 c5:Nat) (a15:Option Addr) (e15:List D) (c15:Nat) (n16 n17:Int) (y0:D) (n1_0:Int) (s1_1 s1_2:ByteArray) (n1_3 n1_4:Int) (a1_5:Option Addr) (e1_5:List D) (c1_5:Nat) (n1_6:Int) (a1_7:Option Addr) (e1_7:List D) (c1_7:Nat) (a1_8:Option Addr) (e1_8:List D) (c1_8:Nat) (r2:List D) (q2:Nat) (N:Nat) (h :
Br (decide (n17<n16)) ((0≤n17∧n17<(e15.length:Int))∧∃ n:Int,D.cell (List.getD e15 n17.toNat default) 0=D.lit (.int .i64 n)∧Br (bne n n4) (∀ a,
 N≤a→Q (D.ag [D.lit (.int .i64 0),D.lit (.string (bytes [])),D.lit (.string (bytes [])),D.lit (.int .i64 0),D.lit (.int .i64 0),D.sl Option.none 2 [] 0,
 D.lit (.int .i64 0),D.sl Option.none 2 [] 0,D.sl Option.none 9 [] 0]) false a) (∃ a:Int,D.cell (List.getD e15 n17.toNat default) 3=D.lit (.int .i64 a)
 ∧ (0≤n17∧n17<(m5:Int)∧(0+n17.toNat:Nat)<r2.length)∧(0+n17.toNat:Nat)<r2.length∧yC Q N0 n4 m5 c5 a15 e15 c15 n16 (IntKind.i64.wrap
 (n17+1)) y0 n1_0 s1_1 s1_2 n1_3 n1_4 a1_5 e1_5 c1_5 n1_6 a1_7 e1_7 c1_7 a1_8 e1_8 c1_8 (List.set r2 (0+n17.toNat:Nat) (D.lit (.int .i64 a))) q2 N)) (∃ s,
 (y0.cell 1)=D.lit (.string s)∧((0:Int)≤(0:Int)∧0<(m5:Int)∧0<r2.length)∧0<r2.length∧∃ a:Int,List.getD r2 0 default=D.lit (.int .i64
 a)∧((0:Int)≤(1:Int)∧1<(m5:Int)∧1<r2.length)∧1<r2.length∧∃ c:Int,List.getD r2 1 default=D.lit (.int .i64 c)∧∀ d,N≤d →
 ACalls prog 146 [.int .i64,.bool] [.str s,.int .i64 a,.int .i64 c] d (fun a b c=>d≤c→∃ d,(y0.cell 1)=D.lit (.string d)∧∀ e,c
 ≤ e→ACalls prog 148 [.bool] [.str d] e (fun c d=>e≤d→∀ e,d≤e→ACalls prog 147 [.ag 9] [.int .i64 a,.bool c] e (fun x a=>
 e≤a→Bel a x→∀ c,a≤c→Q x b c))))):yC Q N0 n4 m5 c5 a15 e15 c15 n16 n17 y0 n1_0 s1_1 s1_2 n1_3 n1_4 a1_5 e1_5 c1_5 n1_6 a1_7 e1_7 c1_7 a1_8 e1_8 c1_8 r2 q2 N:=
  hE (H:=rY) (by kernel_rfl) h
end Go.Proofs.YtnpjpplbkoammaaGreatDoor
set_option maxRecDepth 100000
namespace Go.Proofs.YtnpjpplbkoammaaGreatDoor
open Go Go.Proofs Go.Proofs.Tryz
def zAP:Hint:=⟨[hc 2 [1,2,5]],[],[(4,hs 7 [ec 6 [17]])]⟩
def rX:Hint:=⟨[hc 2 [1,3]],[],[(4,hs 7 [ec 5 [15]]),(6,hs 16 [ec 6 [23],ec 12 [29]])]⟩
def zDT:Hint:=⟨[],[],[(1,hs 7 [ec 1 [3],ec 4 [6]])]⟩
def zG8:Hint:=⟨[],[],[]⟩
def zFI:Hint:=⟨[],[],[]⟩
def rm:Hint:=⟨[hc 2 [1,3]],[],[(4,hs 7 [ec 5 [15]])]⟩
def qq:Hint:=⟨[hc 3 [2,3,4]],[],[(1,hs 4 [ec 1 [5]]),(5,[en 0,en 1,en 2,en 3,en 4,en 5,en 6,en 7,ec 8 [21],en 9,eh 10]),(6,hs 3 [ec 1 [24]])]⟩
def zCF:Hint:=⟨[],[],[(1,hs 3 [ec 1 [3]]),(2,hs 3 [ec 1 [6]]),(3,hs 3 [ec 1 [8]])]⟩
def zDk:Hint:=⟨[],[],[]⟩
def rP:Hint:=⟨[],[],[]⟩
def pN:Hint:=⟨[],[],[(1,hs 7 [ec 1 [3],ec 4 [6]])]⟩
def zAt:Hint:=⟨[],[],[(2,hs 24 [ec 10 [21],ec 18 [29]])]⟩
def zDs:Hint:=⟨[],[],[(1,hs 7 [ec 1 [3],ec 4 [6]])]⟩
def zGX:Hint:=⟨[],[],[]⟩
def zEs:Hint:=⟨[],[],[]⟩
def zAy:Hint:=⟨[],[],[]⟩
def zAY:Hint:=⟨[hc 3 [1,5,13,14,15]],[],[(1,hs 5 [ec 2 [9]]),(5,hs 6 [ec 3 [20]])]⟩
def zDf:Hint:=⟨[],[],[(1,hs 4 [ec 1 [3]])]⟩
def zAC:Hint:=⟨[],[],[(3,hs 3 [ec 1 [8]]),(6,[en 0,en 1,en 2,en 3,en 4,en 5,en 6,en 7,en 8,en 9,eh 10]),(9,hs 10 [ec 8 [41]]),(10,[en 0,en 1,en 2,en 3,en 4,en 5,en 6,en 7,en 8,en 9,ec 10 [47,53],eh 11]),(12,hs 6 [ec 4 [61]]),(13,[en 0,en 1,en 2,en 3,en 4,en 5,en 6,en 7,en 8,en 9,ec 10 [66,72],eh 11]),(14,[en 0,en 1,en 2,en 3,ec 4 [78],en 5,en 6,en 7,en 8,en 9,en 11,en 12,ec 10 [84],eh 13,en 14,en 15,en 16])]⟩
def zBg:Hint:=⟨[],[],[(1,hs 4 [ec 1 [3],ec 2 [4]])]⟩
def zCO:Hint:=⟨[],[],[(1,hs 3 [ec 1 [3]]),(2,hs 3 [ec 1 [6]]),(3,hs 4 [ec 1 [8],ec 2 [9]])]⟩
def tY:Hint:=⟨[],[],[(2,hs 4 [ec 2 [11]]),(5,hs 5 [ec 1 [16],ec 2 [17]]),(6,hs 4 [ec 1 [19]]),(7,hs 4 [ec 1 [21]]),(8,hs 4 [ec 2 [23,24]]),(10,[en 0,en 1,ec 2 [28],ec 3 [27,29],en 4]),(13,hs 4 [em 2 (some 5) [1,4,6,7]]),(14,hs 8 [ec 5 [38,39]]),(17,hs 4 [em 2 (some 6) [1,4,6,8]]),(19,hs 4 [ec 2 [46]]),(24,hs 5 [ec 1 [54],ec 2 [55]]),(25,hs 4 [ec 2 [57,58]]),(28,hs 4 [ec 2 [61]])]⟩
def zBD:Hint:=⟨[],[],[(1,hs 11 [ec 2 [6]])]⟩
def qd:Hint:=⟨[],[],[(1,hs 5 [ec 2 [4]])]⟩
def vR:Hint:=⟨[],[],[]⟩
def xm:Hint:=⟨[hc 2 [0,1,7,8]],[],[(4,hs 6 [ec 5 [15]])]⟩
def zA4:Hint:=⟨[],[],[(1,hs 11 [ec 2 [6]])]⟩
def qr:Hint:=⟨[],[],[(1,hs 5 [ec 2 [4]])]⟩
def vi:Hint:=⟨[],[],[]⟩
def xi:Hint:=⟨[hc 2 [0,1,7,8]],[],[(4,hs 6 [ec 5 [15]])]⟩
def vP:Hint:=⟨[hc 3 [1,2,4,5,10,11,12] [(5,34,9)]],[],[(5,hs 7 [{ i:=3,hard:=true,cl:=[18],fs:=[5,18] },{ i:=4,hard:=true,cl:=[19],fs:=[5,19] }]),(7,hs 4 [{ i:=2,hard:=true,cl:=[23],fs:=[5,23] }])]⟩
def wV (Q:QT [.bool]) (N0:Nat) (n1 n5:Int) (y0:D) (N:Nat):Prop:=AT prog 117 [.bool] Q N0 .ord (zF prog 117 2) ⟨an 1 (.int .i64 n1::.pb 0 0 0 0::an 2 (.int .i64 n5::an 18 [])),[.vd y0 2],N,none⟩
def xS (Q:QT [.bool]) (N0:Nat) (n3:Int) (y0:D) (N:Nat):Prop:=AT prog 91 [.bool] Q N0 .ord (zF prog 91 2) ⟨an 1 (.pb 0 0 0 0::an 1 (.int .i64 n3::an 29 [])),[.vd y0 9],N,none⟩
def xR (Q:QT [.bool]) (N0:Nat) (n3:Int) (y0:D) (N:Nat):Prop:=AT prog 120 [.bool] Q N0 .ord (zF prog 120 2) ⟨an 1 (.pb 0 0 0 0::an 1 (.int .i64 n3::an 17 [])),[.vd y0 9],N,none⟩
def wK (Q:QT [.ag 9]) (N0:Nat) (n4 n0_0:Int) (s0_1 s0_2:ByteArray) (n0_3 n0_4:Int) (a0_5:Option Addr) (e0_5:List D) (c0_5:Nat) (n0_6:Int) (a0_7:Option Addr) (e0_7:List D) (c0_7:Nat) (a0_8:Option Addr) (e0_8:List D) (c0_8:Nat) (n1_0:Int) (s1_1 s1_2:ByteArray) (n1_3:Int) (x1_4 x1_5 x1_6 x1_7:D) (m1_8 c1_8:Nat) (r2:List D) (q2:Nat) (N:Nat):Prop:=AT prog 59 [.ag 9] Q N0 .ord (zF prog 59 3) ⟨an 2 (.pb 0 0 0 0::.pb 1 0 0 0::.int .i64 n4::an 21 []),[.var [.int .i64 n0_0,.str s0_1,.str s0_2,.int .i64 n0_3,.int .i64 n0_4,.sv a0_5 2 e0_5 c0_5,.int .i64 n0_6,.sv a0_7 2 e0_7 c0_7,.sv a0_8 9 e0_8 c0_8],.var [.int .i64 n1_0,.str s1_1,.str s1_2,.int .i64 n1_3,.dc x1_4,.dc x1_5,.dc x1_6,.dc x1_7,.sb 2 9 0 m1_8 c1_8],.arr 34 9 r2 q2],N,none⟩
def wY (Q:QT [.int .i64]) (N0:Nat) (n5:Int) (a13:Option Addr) (e13:List D) (c13:Nat) (n14 n15:Int) (N:Nat):Prop:=AT prog 163 [.int .i64] Q N0 .ord (zF prog 163 3) ⟨an 1 (.fn 164 []::an 3 (.int .i64 n5::an 7 (.sv a13 9 e13 c13::.int .i64 n14::.int .i64 n15::an 10 []))),[],N,none⟩
def yG (Q:QT [.pk,.int .i64,.str,.str,.int .i64,.dc,.dc,.dc,.dc,.row 34 9]) (N0:Nat) (m5 c5:Nat) (a10:Option Addr) (e10:List D) (c10:Nat) (n11 n12:Int) (y0:D) (n1_0:Int) (s1_1 s1_2:ByteArray) (n1_3 n1_4:Int) (a1_5:Option Addr) (e1_5:List D) (c1_5:Nat) (n1_6:Int) (a1_7:Option Addr) (e1_7:List D) (c1_7:Nat) (a1_8:Option Addr) (e1_8:List D) (c1_8:Nat) (r2:List D) (q2:Nat) (N:Nat):Prop:=AT prog 75 [.pk,.int .i64,.str,.str,.int .i64,.dc,.dc,.dc,.dc,.row 34 9] Q N0 .ord (zF prog 75 3) ⟨an 1 (.fn 61 []::.pb 0 0 0 0::an 1 (.pb 1 0 0 0::.sb 2 9 0 m5 c5::an 4 (.sv a10 9 e10 c10::.int .i64 n11::.int .i64 n12::an 13 []))),[.vd y0 9,.var [.int .i64 n1_0,.str s1_1,.str s1_2,.int .i64 n1_3,.int .i64 n1_4,.sv a1_5 2 e1_5 c1_5,.int .i64 n1_6,.sv a1_7 2 e1_7 c1_7,.sv a1_8 9 e1_8 c1_8],.arr 34 9 r2 q2],N,none⟩
def zZ (Q:QT [.int .i64]) (N0:Nat) (a0:Option Addr) (e0:List D) (c0:Nat) (a1_0:Addr) (n7 n8:Int) (N:Nat):Prop:=AT prog 185 [.int .i64] Q N0 .ord (zF prog 185 2) ⟨.sv a0 2 e0 c0::.fn 161 [.pd a1_0 0 (.fn 127 [])]::an 5 (.int .i64 n7::.int .i64 n8::an 10 []),[],N,none⟩
def za (Q:QT [.int .i64]) (N0:Nat) (a0:Option Addr) (e0:List D) (c0:Nat) (a1_0:Addr) (n7 n8:Int) (N:Nat):Prop:=AT prog 156 [.int .i64] Q N0 .ord (zF prog 156 2) ⟨.sv a0 9 e0 c0::.fn 124 [.pd a1_0 0 (.fn 94 [])]::an 5 (.int .i64 n7::.int .i64 n8::an 10 []),[],N,none⟩
theorem zGf (N:Nat) (x0:D) (n1:Int) (Q:QT [.bool]) (h :
Bel N x0→wV Q N n1 0 x0 N):ACalls prog 117 [.bool] [PV.dg 2 x0,PV.int .i64 n1] N Q:=
 eE (H:=zAP) (by kernel_rfl) (by kernel_rfl) h
theorem zC4 (N:Nat) (x0:D) (Q:QT [.bool]) (h :
Bel N x0→xS Q N 0 x0 N):ACalls prog 91 [.bool] [PV.dg 9 x0] N Q:=
 eE (H:=rX) (by kernel_rfl) (by kernel_rfl) h
theorem zDK (N:Nat) (x0:D) (Q:QT [.bool]) (h :
Bel N x0→∀ a,N≤a→ACalls prog 63 [.bool] [.dg 9 x0] a (fun b c=>a≤c→Br b (∀ a,c≤a→ACalls prog 91 [.bool] [.dg 9 x0] a (fun b
 c=>a≤c→∀ a,c≤a→Q b a)) (∀ a,c≤a→Q false a))):ACalls prog 58 [.bool] [PV.dg 9 x0] N Q:=
  eE (H:=zDT) (by kernel_rfl) (by kernel_rfl) h
theorem zG7 (N:Nat) (x0:D) (n1:Int) (Q:QT [.bool]) (h :
Bel N x0→∃ n:Int,(x0.cell 0)=D.lit (.int .i64 n)∧Br (n==2) (∃ a:Int,(x0.cell 3)=D.lit (.int .i64 a)∧∀ b,N≤b→Q (a==n1) b) (∀
 a,N≤a→Q false a)):ACalls prog 153 [.bool] [PV.dg 9 x0,PV.int .i64 n1] N Q:=
  eE (H:=zG8) (by kernel_rfl) (by kernel_rfl) h
theorem zEt (N:Nat) (x0:D) (Q:QT [.bool]) (h :
Bel N x0→∃ n:Int,(x0.cell 0)=D.lit (.int .i64 n)∧∀ a,N≤a→ACalls prog 52 [.bool] [.int .i64 n,.int .i64 1,.int .i64 3] a (fun b c=>a ≤
 c→∀ a,c≤a→Q b a)):ACalls prog 119 [.bool] [PV.dg 9 x0] N Q:=
  eE (H:=zFI) (by kernel_rfl) (by kernel_rfl) h
theorem zC0 (N:Nat) (x0:D) (Q:QT [.bool]) (h :
Bel N x0→xR Q N 0 x0 N):ACalls prog 120 [.bool] [PV.dg 9 x0] N Q:=
 eE (H:=rm) (by kernel_rfl) (by kernel_rfl) h
theorem zFQ (N:Nat) (x0:D) (Q:QT [.ag 9]) (h :
Bel N x0→∀ a,N≤a→ACalls prog 35 [Sh.pk,.int .i64,.str,.str,.int .i64,Sh.dc,Sh.dc,Sh.dc,Sh.dc,.row (OfNat.ofNat 34) 9] [.dg 9 x0] a (fun n s
 b c x d e f g h i=>a≤i→Bel i (D.ag g)→wK Q N 0 0 (bytes []) (bytes []) 0 0 Option.none [] 0 0 Option.none [] 0 Option.none
 [] 0 n s b c x d e f g.length h g h i)):ACalls prog 59 [.ag 9] [PV.dg 9 x0] N Q:=
  eE (H:=qq) (by kernel_rfl) (by kernel_rfl) h
theorem zBm (N:Nat) (x0:D) (Q:QT [.ag 9]) (h :
Bel N x0→∀ d,N≤d→ACalls prog 58 [.bool] [.dg 9 x0] d (fun b e=>d≤e→Br (!b) (∀ b,e≤b→ACalls prog 35 [Sh.pk,.int .i64,.str,.str,
 .int .i64,Sh.dc,Sh.dc,Sh.dc,Sh.dc,.row (OfNat.ofNat 34) 9] [.dg 9 x0] b (fun n s c d x e f g h i j=>b≤j→Bel j (D.ag h)→(h.length
 = h.length∧i=i)∧(h.length=h.length∧i=i)∧∀ a b,j≤b→Fresh N b a [D.ag h,x,e,f,g]→∀ j,b≤j→Q (D.ag [D.lit (.int
 .i64 n),D.lit (.string s),D.lit (.string c),D.lit (.int .i64 d),x,e,f,g,D.sl a 9 h i]) j)) (∀ a,e≤a→ACalls prog 59 [.ag 9] [.dg 9
 x0] a (fun b c=>a≤c→Bel c b→∀ a,c≤a→Q b a)))):ACalls prog 30 [.ag 9] [PV.dg 9 x0] N Q:=
  eE (H:=zCF) (by kernel_rfl) (by kernel_rfl) h
theorem zC7 (N:Nat) (n0:Int) (Q:QT [.bool]) (h :
∀ a,N≤a→ACalls prog 56 [.bool] [.int .i64 n0,.int .i64 10,.int .i64 13] a (fun b c=>a≤c→∀ a,c≤a→Q b a)):ACalls prog 95 [.bool] [PV.int .i64 n0] N Q:=
  eE (H:=zDk) (by kernel_rfl) (by kernel_rfl) h
theorem rJ (N:Nat) (x0:D) (Q:QT [.bool]) (h :
Bel N x0→∃ n:Int,(x0.cell 0)=D.lit (.int .i64 n)∧∀ a,N≤a→Q (bne n 4) a):ACalls prog 127 [.bool] [PV.dg 2 x0] N Q:=
 eE (H:=rP) (by kernel_rfl) (by kernel_rfl) h
theorem qT (N:Nat) (x0:D) (Q:QT [.bool]) (h :
Bel N x0→∀ a,N≤a→ACalls prog 125 [.bool] [.dg 2 x0] a (fun b c=>a≤c→Br b (∀ a,c≤a→ACalls prog 126 [.bool] [.dg 2 x0,.fn 127
 []] a (fun b c=>a≤c→∀ a,c≤a→Q b a)) (∀ a,c≤a→Q false a))):ACalls prog 96 [.bool] [PV.dg 2 x0] N Q:=
  eE (H:=pN) (by kernel_rfl) (by kernel_rfl) h
theorem zBH (N:Nat) (x0:D) (Q:QT [.bool]) (h :
Bel N x0→∃ n:Int,(x0.cell 0)=D.lit (.int .i64 n)∧Br (n==6) (∃ a:Int,(x0.cell 0)=D.lit (.int .i64 a)∧∀ c,N≤c→ACalls prog 95 [.bool]
 [.int .i64 a] c (fun b a=>c≤a→Br (!b) (∀ b,a≤b→ACalls prog 96 [.bool] [.dg 2 (D.sub x0 4 2)] b (fun a c=>b≤c→Br a (∃
 a:Int,(x0.cell 0)=D.lit (.int .i64 a)∧Br (a==6) (∀ a,c≤a→Q true a) (∀ a,c≤a→ACalls prog 96 [.bool] [.dg 2 (D.sub x0 6 2)]
 a (fun b c=>a≤c→∀ a,c≤a→Q b a))) (∀ a,c≤a→Q false a))) (∀ b,a≤b→Q false b))) (∃ a:Int,(x0.cell 0)
 = D.lit (.int .i64 a)∧∃ b:Int,(x0.cell 0)=D.lit (.int .i64 b)∧∀ c,N≤c→ACalls prog 95 [.bool] [.int .i64 b] c (fun b d=>c
 ≤ d→Br (!b) (Br (!(a==9)) (∀ a,d≤a→Q true a) (∀ a,d≤a→ACalls prog 96 [.bool] [.dg 2 (D.sub x0 4 2)] a (fun b c
 => a≤c→Br b (∃ a:Int,(x0.cell 0)=D.lit (.int .i64 a)∧Br (a==6) (∀ a,c≤a→Q true a) (∀ a,c≤a→ACalls prog
 96 [.bool] [.dg 2 (D.sub x0 6 2)] a (fun b c=>a≤c→∀ a,c≤a→Q b a))) (∀ a,c≤a→Q false a)))) (∀ a,d ≤
 a→Q false a)))):ACalls prog 94 [.bool] [PV.dg 9 x0] N Q:=
  eE (H:=zAt) (by kernel_rfl) (by kernel_rfl) h
theorem zDO (N:Nat) (x0:D) (Q:QT [.bool]) (h :
Bel N x0→∀ a,N≤a→ACalls prog 72 [.bool] [.dg 9 x0] a (fun b c=>a≤c→Br b (∀ a,c≤a→ACalls prog 93 [.bool] [.dg 9 x0,.fn 94 []]
 a (fun b c=>a≤c→∀ a,c≤a→Q b a)) (∀ a,c≤a→Q false a))):ACalls prog 60 [.bool] [PV.dg 9 x0] N Q:=
  eE (H:=zDs) (by kernel_rfl) (by kernel_rfl) h
theorem zGF (N:Nat) (x0:D) (n1:Int) (Q:QT [.bool]) (h :
Bel N x0→∃ n:Int,(x0.cell 0)=D.lit (.int .i64 n)∧Br (n==2) (∃ a:Int,(x0.cell 3)=D.lit (.int .i64 a)∧∀ b,N≤b→Q (a==n1) b) (∀
 a,N≤a→Q false a)):ACalls prog 162 [.bool] [PV.dg 9 x0,PV.int .i64 n1] N Q:=
  eE (H:=zGX) (by kernel_rfl) (by kernel_rfl) h
theorem zFe (N:Nat) (x0:D) (Q:QT [.bool]) (h :
Bel N x0→∃ n:Int,(x0.cell 0)=D.lit (.int .i64 n)∧Br (n==2) (∀ a,N≤a→Q true a) (∃ a:Int,(x0.cell 0)=D.lit (.int .i64 a)∧Br (a ==
 3) (∀ a,N≤a→Q true a) (∃ a:Int,(x0.cell 0)=D.lit (.int .i64 a)∧∀ b,N≤b→Q (a==1) b))):ACalls prog 129 [.bool] [PV.dg 9 x0] N Q:=
  eE (H:=zEs) (by kernel_rfl) (by kernel_rfl) h
theorem zAn (N:Nat) (x0:D) (Q:QT [.bool]) (h :
Bel N x0→∃ n:Int,(x0.cell 0)=D.lit (.int .i64 n)∧∀ a,N≤a→Q (n==7) a):ACalls prog 164 [.bool] [PV.dg 9 x0] N Q:=
 eE (H:=zAy) (by kernel_rfl) (by kernel_rfl) h
theorem zDD (N:Nat) (x0:D) (Q:QT [.bool]) (h :
Bel N x0→∀ a,N≤a→ACalls prog 163 [.int .i64] [.dg 9 x0,.fn 164 []] a (fun n b=>a≤b→∀ a,b≤a→Q (n==0) a)):ACalls prog 130 [.bool] [PV.dg 9 x0] N Q:=
 eE (H:=zDf) (by kernel_rfl) (by kernel_rfl) h
theorem pP (N:Nat) (x0:D) (Q:QT [.ag 9]) (h :
Bel N x0→∃ n:Int,(x0.cell 0)=D.lit (.int .i64 n)∧Br (n==4) (∀ a,N≤a→ACalls prog 128 [.ag 9] [.dg 9 x0] a (fun x b=>a≤b→Bel b
 x→∀ a,b≤a→Q x a)) (Br (n==5) (∃ a b,∃ c:Nat,(x0.cell 8)=D.sl a 9 b c∧((0:Int)≤(0:Int)∧0<(b.length:Int))∧∃ a:Int,(if
 0=0 then D.cell (List.getD b 0 default) 0 else D.sub (List.getD b 0 default) 0 0)=D.lit (.int .i64 a)∧Br (a==3) (∃ a b,∃ c:Nat,(x0.cell
 8)=D.sl a 9 b c∧∃ a c,∃ d:Nat,(x0.cell 8)=D.sl a 9 c d∧((0:Int)≤(0:Int)∧0<(c.length:Int))∧∃ a:Int,(if 0 =
 0 then D.cell (List.getD c 0 default) 3 else D.sub (List.getD c 0 default) 3 0)=D.lit (.int .i64 a)∧(0≤IntKind.i64.wrap (2 - a)∧IntKind.i64.wrap
 (2 - a)<(b.length:Int))∧∀ c,N≤c→Q (List.getD b (IntKind.i64.wrap (2 - a)).toNat default) c) (∀ a,N≤a→Q x0 a)) (Br (n==7)
 (∃ a c,∃ d:Nat,(x0.cell 8)=D.sl a 9 c d∧((0:Int)≤(0:Int)∧0<(c.length:Int))∧∃ a:Int,D.cell (List.getD c 0 default)
 0=D.lit (.int .i64 a)∧Br (a==6) (∃ a d,∃ e:Nat,(x0.cell 8)=D.sl a 9 d e∧((0:Int)≤(1:Int)∧1<(d.length:Int))∧∀ a,
 N≤a→ACalls prog 129 [.bool] [.dg 9 (List.getD d 1 default)] a (fun b d=>a≤d→Br b (∃ a b,∃ e:Nat,D.cell (List.getD c 0 default)
 8=D.sl a 9 b e∧((0:Int)≤(0:Int)∧0<(b.length:Int))∧∃ s,D.cell (List.getD c 0 default) 1=D.lit (.string s)∧∃ a c,∃ e :
 Nat,(x0.cell 8)=D.sl a 9 c e∧((0:Int)≤(1:Int)∧1<(c.length:Int))∧∀ a,d≤a→ACalls prog 112 [.ag 9] [.dg 9 (List.getD b 0
 default),.str s,.dg 9 (List.getD c 1 default)] a (fun b c=>a≤c→Bel c b→∀ a,c≤a→Q b a)) (∀ a,d≤a→Q x0 a)))
 (∀ a,N≤a→Q x0 a)) (Br (n==8) (∃ a b,∃ c:Nat,(x0.cell 8)=D.sl a 9 b c∧((0:Int)≤(0:Int)∧0<(b.length:Int))∧∀
 a,N≤a→ACalls prog 129 [.bool] [.dg 9 (List.getD b 0 default)] a (fun b c=>a≤c→Br b (∃ a b,∃ d:Nat,(x0.cell 8)=D.sl
 a 9 b d∧((0:Int)≤(1:Int)∧1<(b.length:Int))∧∃ a,(x0.cell 1)=D.lit (.string a)∧∃ d e,∃ f:Nat,(x0.cell 8)=D.sl d 9
 e f∧((0:Int)≤(0:Int)∧0<(e.length:Int))∧∀ d,c≤d→ACalls prog 112 [.ag 9] [.dg 9 (List.getD b 1 default),.str a,.dg 9 (List.getD
 e 0 default)] d (fun a b=>d≤b→Bel b a→∀ c,b≤c→Q a c)) (∃ a b,∃ d:Nat,(x0.cell 8)=D.sl a 9 b
 d∧((0:Int)≤(0:Int)∧0<(b.length:Int))∧∀ a,c≤a→ACalls prog 130 [.bool] [.dg 9 (List.getD b 0 default)] a (fun b c
 => a≤c→Br b (∃ a b,∃ d:Nat,(x0.cell 8)=D.sl a 9 b d∧((0:Int)≤(1:Int)∧1<(b.length:Int))∧∃ a,(x0.cell
 1)=D.lit (.string a)∧∀ d,c≤d→ACalls prog 132 [.row (OfNat.ofNat 9) 0] [.dg 9 (List.getD b 1 default)] d (fun b c e=>d ≤
 e→Bel e (D.ag b)→(b.length=b.length∧c=c)∧∀ d,ApA d b→∀ f,e≤f→tL f [d]→ACalls prog 131 [.bool]
 [.sv d 0 b c,.str a] f (fun a b=>f≤b→Br (!a) (∃ a c,∃ d:Nat,(x0.cell 8)=D.sl a 9 c d∧((0:Int) ≤
 (1:Int)∧1<(c.length:Int))∧∀ a,b≤a→Q (List.getD c 1 default) a) (∀ a,b≤a→Q x0 a)))) (∀ a,c≤a→Q x0
 a))))) (∀ a,N≤a→Q x0 a))))):ACalls prog 97 [.ag 9] [PV.dg 9 x0] N Q:=
  eE (H:=zAC) (by kernel_rfl) (by kernel_rfl) h
theorem zCg (N:Nat) (x0:D) (Q:QT [.ag 9]) (h :
Bel N x0→∀ b,N≤b→ACalls prog 75 [Sh.pk,.int .i64,.str,.str,.int .i64,Sh.dc,Sh.dc,Sh.dc,Sh.dc,.row (OfNat.ofNat 34) 9] [.dg 9 x0,.fn 61 []] b
 (fun n s c d x e f g h i j=>b≤j→Bel j (D.ag h)→(h.length=h.length∧i=i)∧∀ a b,j≤b→Fresh N b a [D.ag h]→∀ j,
 b≤j→ACalls prog 97 [.ag 9] [.dg 9 (D.ag [D.lit (.int .i64 n),D.lit (.string s),D.lit (.string c),D.lit (.int .i64 d),x,e,f,g,D.sl a 9 h
 i])] j (fun a b=>j≤b→Bel b a→∀ c,b≤c→Q a c))):ACalls prog 61 [.ag 9] [PV.dg 9 x0] N Q:=
  eE (H:=zBg) (by kernel_rfl) (by kernel_rfl) h
theorem zCC (N:Nat) (x0:D) (Q:QT [.ag 9]) (h :
Bel N x0→∀ d,N≤d→ACalls prog 60 [.bool] [.dg 9 x0] d (fun b e=>d≤e→Br (!b) (∀ b,e≤b→ACalls prog 40 [Sh.pk,.int .i64,.str,.str,
 .int .i64,Sh.dc,Sh.dc,Sh.dc,Sh.dc,.row (OfNat.ofNat 34) 9] [.dg 9 x0] b (fun n s c d x e f g h i j=>b≤j→Bel j (D.ag h)→(h.length
 = h.length∧i=i)∧(h.length=h.length∧i=i)∧∀ a b,j≤b→Fresh N b a [D.ag h,x,e,f,g]→∀ j,b≤j→Q (D.ag [D.lit (.int
 .i64 n),D.lit (.string s),D.lit (.string c),D.lit (.int .i64 d),x,e,f,g,D.sl a 9 h i]) j)) (∀ a,e≤a→ACalls prog 61 [.ag 9] [.dg 9
 x0] a (fun b c=>a≤c→Bel c b→∀ a,c≤a→ACalls prog 40 [Sh.pk,.int .i64,.str,.str,.int .i64,Sh.dc,Sh.dc,Sh.dc,Sh.dc,.row (OfNat.ofNat
 34) 9] [.dg 9 b] a (fun b c d e f g h i j k l=>a≤l→Bel l (D.ag j)→(j.length=j.length∧k=k)∧(j.length
 = j.length∧k=k)∧∀ a m,l≤m→Fresh N m a [D.ag j,f,g,h,i]→∀ l,m≤l→Q (D.ag [D.lit (.int .i64 b),D.lit
 (.string c),D.lit (.string d),D.lit (.int .i64 e),f,g,h,i,D.sl a 9 j k]) l))))):ACalls prog 31 [.ag 9] [PV.dg 9 x0] N Q:=
  eE (H:=zCO) (by kernel_rfl) (by kernel_rfl) h
theorem tW (N:Nat) (x0:D) (Q:QT [.bool]) (h :
Bel N x0→∀ a,N≤a→ACalls prog 9 [.int .i64] [.dg 9 x0,.int .i64 1048576] a (fun n c=>a≤c→Br (decide (n<0)) (∀ a,c≤a→Q true
 a) (∀ a,c≤a→ACalls prog 11 [.ag 9] [.dg 9 x0] a (fun x c=>a≤c→Bel c x→∀ a,c≤a→ACalls prog 30 [.ag 9] [.dg 9 x] a (fun
 c d=>a≤d→Bel d c→∀ a,d≤a→ACalls prog 11 [.ag 9] [.dg 9 x0] a (fun d e=>a≤e→Bel e d→∀ a,e≤a→ACalls
 prog 31 [.ag 9] [.dg 9 d] a (fun e f=>a≤f→Bel f e→∀ a,f≤a→ACalls prog 13 [.bool] [.dg 9 e,.dg 9 c] a (fun b f
 => a≤f→Br (!b) (∀ a,f≤a→Q false a) (∀ a,f≤a→ACalls prog 11 [.ag 9] [.dg 9 x0] a (fun b f=>a≤f→Bel f
 b→∀ a,f≤a→ACalls prog 13 [.bool] [.dg 9 d,.dg 9 b] a (fun b f=>a≤f→Br (!b) (∀ a,f≤a→Q false a) (Tree
 d∧Low N d∧d=d∧Dis d [x0,c,e]∧∀ a,f≤a→MC prog 14 d 1 a (fun b d f=>a≤f→Br (decide (d<0)) (∀ a,
 f≤a→Q false a) (∀ a,f≤a→ACalls prog 13 [.bool] [.dg 9 e,.dg 9 c] a (fun d f=>a≤f→Br (!d) (∀ a,f≤a
 → Q false a) (Tree e∧Low N e∧e=e∧Dis e [x0,c,b]∧∀ a,f≤a→MC prog 14 e 1 a (fun b d e=>a≤e→∀ a,
 e≤a→ACalls prog 15 [.int .i64] [.dg 9 b,.int .i64 1] a (fun e f=>a≤f→Br (decide (e<0)) (∀ a,f≤a→Q false a)
 (Br (bne e d) (∀ a,f≤a→Q false a) (∀ a,f≤a→ACalls prog 11 [.ag 9] [.dg 9 x0] a (fun e f=>a≤f→Bel f e
 → ∀ a,f≤a→ACalls prog 31 [.ag 9] [.dg 9 e] a (fun e f=>a≤f→Bel f e→∀ a,f≤a→ACalls prog 13 [.bool] [.dg 9
 e,.dg 9 c] a (fun c e=>a≤e→Br (!c) (∀ a,e≤a→Q false a) (∀ a,e≤a→ACalls prog 15 [.int .i64] [.dg 9 b,
 .int .i64 1] a (fun b c=>a≤c→Br (decide (b<0)) (∀ a,c≤a→Q false a) (Br (bne b d) (∀ a,c≤a→Q false a)
 (∀ a,c≤a→Q true a))))))))))))))))))))))))))):ACalls prog 8 [.bool] [PV.dg 9 x0] N Q:=
  eE (H:=tY) (by kernel_rfl) (by kernel_rfl) h
theorem rR (Q:QT [.bool]) (N0:Nat) (n1 n5:Int) (y0:D) (N:Nat) (h :
∃ a d,∃ c:Nat,(y0.cell 1)=D.sl a 2 d c∧Br (decide (n5<(d.length:Int))) (∃ a c,∃ d:Nat,(y0.cell 1)=D.sl a 2 c d∧(0≤n5∧n5
 < (c.length:Int))∧∀ a,N≤a→ACalls prog 117 [.bool] [.dg 2 (List.getD c n5.toNat default),.int .i64 n1] a (fun b c=>a≤c→Br b (∀ a,
 c≤a→Q true a) (wV Q N0 n1 (IntKind.i64.wrap (n5+1)) y0 c))) (∃ n:Int,(y0.cell 0)=D.lit (.int .i64 n)∧∀ a,N≤a→Q (n==n1)
 a)):wV Q N0 n1 n5 y0 N:=
  hE (H:=zAP) (by kernel_rfl) h
theorem tP (Q:QT [.bool]) (N0:Nat) (n3:Int) (y0:D) (N:Nat) (h :
∃ a d,∃ c:Nat,(y0.cell 8)=D.sl a 9 d c∧Br (decide (n3<(d.length:Int))) (∃ a c,∃ d:Nat,(y0.cell 8)=D.sl a 9 c d∧(0≤n3∧n3
 < (c.length:Int))∧∀ a,N≤a→ACalls prog 91 [.bool] [.dg 9 (List.getD c n3.toNat default)] a (fun b c=>a≤c→Br (!b) (∀ a,c≤a
 → Q false a) (xS Q N0 (IntKind.i64.wrap (n3+1)) y0 c))) (∃ n:Int,(y0.cell 0)=D.lit (.int .i64 n)∧Br (decide (n<10)) (∀ a,N≤a
 → ACalls prog 117 [.bool] [.dg 2 (D.sub y0 4 2),.int .i64 4] a (fun b c=>a≤c→Br (!b) (∀ a,c≤a→ACalls prog 117 [.bool] [.dg 2 (D.sub
 y0 6 2),.int .i64 4] a (fun b c=>a≤c→∀ a,c≤a→Q (!b) a)) (∀ a,c≤a→Q false a))) (∀ a,N≤a→Q false a))):xS Q N0 n3 y0 N:=
  hE (H:=rX) (by kernel_rfl) h
theorem tI (Q:QT [.bool]) (N0:Nat) (n3:Int) (y0:D) (N:Nat) (h :
∃ a d,∃ c:Nat,(y0.cell 8)=D.sl a 9 d c∧Br (decide (n3<(d.length:Int))) (∃ a c,∃ d:Nat,(y0.cell 8)=D.sl a 9 c d∧(0≤n3∧n3
 < (c.length:Int))∧∀ a,N≤a→ACalls prog 120 [.bool] [.dg 9 (List.getD c n3.toNat default)] a (fun b c=>a≤c→Br (!b) (∀ a,c≤a
 → Q false a) (xR Q N0 (IntKind.i64.wrap (n3+1)) y0 c))) (∃ n:Int,(y0.cell 0)=D.lit (.int .i64 n)∧∀ a,N≤a→Q (bne n 7) a)):xR Q N0 n3 y0 N:=
  hE (H:=rm) (by kernel_rfl) h
theorem t8 (Q:QT [.ag 9]) (N0:Nat) (n4 n0_0:Int) (s0_1 s0_2:ByteArray) (n0_3 n0_4:Int) (a0_5:Option Addr) (e0_5:List D) (c0_5:Nat) (n0_6:Int) (a0_7:Option Addr) (e0_7:List D) (c0_7:Nat) (a0_8:Option Addr) (e0_8:List D) (c0_8:Nat) (n1_0:Int) (s1_1 s1_2:ByteArray) (n1_3:Int) (x1_4 x1_5 x1_6 x1_7:D) (m1_8 c1_8:Nat) (r2:List D) (q2:Nat) (N:Nat) (h :
Br (decide (n4<(m1_8:Int))) ((0≤n4∧n4<(m1_8:Int)∧(0+n4.toNat:Nat)<r2.length)∧(0+n4.toNat:Nat)<r2.length∧∀ a,N≤a→ACalls prog
 59 [.ag 9] [.dg 9 (List.getD r2 (0+n4.toNat:Nat) default)] a (fun x b=>a≤b→Bel b x→(0≤n4∧n4<(m1_8:Int)∧(0+n4.toNat:Nat)<r2.length)
 ∧ (0+n4.toNat:Nat)<r2.length∧wK Q N0 (IntKind.i64.wrap (n4+1)) n0_0 s0_1 s0_2 n0_3 n0_4 a0_5 e0_5 c0_5 n0_6 a0_7 e0_7 c0_7 a0_8 e0_8 c0_8
 n1_0 s1_1 s1_2 n1_3 x1_4 x1_5 x1_6 x1_7 m1_8 c1_8 (List.set r2 (0+n4.toNat:Nat) x) q2 b)) ((m1_8=r2.length∧c1_8=q2)∧(m1_8=r2.length∧c1_8=q2)
 ∧ (m1_8=r2.length∧c1_8=q2)∧∀ a b,N≤b→Fresh N0 b a [D.ag r2]→∀ c,b≤c→ACalls prog 92 [.ag 9] [.dg 9 (D.ag [D.lit (.int .i64 n1_0),
 D.lit (.string s1_1),D.lit (.string s1_2),D.lit (.int .i64 n1_3),x1_4,x1_5,x1_6,x1_7,D.sl a 9 r2 q2])] c (fun a b=>c≤b→Bel b a→∀ c,
 b≤c→Q a c))):wK Q N0 n4 n0_0 s0_1 s0_2 n0_3 n0_4 a0_5 e0_5 c0_5 n0_6 a0_7 e0_7 c0_7 a0_8 e0_8 c0_8 n1_0 s1_1 s1_2 n1_3 x1_4 x1_5 x1_6 x1_7 m1_8 c1_8 r2 q2 N:=
  hE (H:=qq) (by kernel_rfl) h
theorem r8 (N:Nat) (x0:D) (Q:QT [.bool]) (h :
Bel N x0→∀ d,N≤d→ACalls prog 127 [.bool] [.dg 2 x0] d (fun b e=>d≤e→Br b (∃ a b,∃ c:Nat,(x0.cell 1)=D.sl a 2 b c∧∀ d,ApA (Option.some
 d) [D.fn (OfNat.ofNat 127) []]→Off [Option.some d] (D.sl a 2 b c)→∀ f,e≤f→tL f [Option.some d]→ACalls prog 160 [.bool] [.sv a 2 b c,.fn
 161 [.pd d 0 (.fn 127 [])]] f (fun a b=>f≤b→∀ c,b≤c→Q (!a) c)) (∀ a,e≤a→Q false a))):ACalls prog 126 [.bool] [.dg 2 x0,.fn 127 []] N Q:=
  eE (H:=zA4) (by kernel_rfl) (by kernel_rfl) h
theorem qD (N:Nat) (x0:D) (Q:QT [.bool]) (h :
Bel N x0→∀ d,N≤d→ACalls prog 94 [.bool] [.dg 9 x0] d (fun b e=>d≤e→Br b (∃ a b,∃ c:Nat,(x0.cell 8)=D.sl a 9 b c∧∀ d,ApA (Option.some
 d) [D.fn (OfNat.ofNat 94) []]→Off [Option.some d] (D.sl a 9 b c)→∀ f,e≤f→tL f [Option.some d]→ACalls prog 123 [.bool] [.sv a 9 b c,.fn
 124 [.pd d 0 (.fn 94 [])]] f (fun a b=>f≤b→∀ c,b≤c→Q (!a) c)) (∀ a,e≤a→Q false a))):ACalls prog 93 [.bool] [.dg 9 x0,.fn 94 []] N Q:=
  eE (H:=zBD) (by kernel_rfl) (by kernel_rfl) h
theorem zB8 (N:Nat) (x0:D) (Q:QT [.int .i64]) (h :
Bel N x0→∀ d,N≤d→ACalls prog 164 [.bool] [.dg 9 x0] d (fun b e=>d≤e→∀ d,e≤d→ACalls prog 180 [.int .i64] [.bool b] d (fun n
 b=>d≤b→∃ a d,∃ c:Nat,(x0.cell 8)=D.sl a 9 d c∧wY Q N n a d c (d.length:Int) 0 b))):ACalls prog 163 [.int .i64] [.dg 9 x0,.fn 164 []] N Q:=
  eE (H:=zAY) (by kernel_rfl) (by kernel_rfl) h
theorem tX (N:Nat) (x0:D) (Q:QT [.pk,.int .i64,.str,.str,.int .i64,.dc,.dc,.dc,.dc,.row 34 9]) (h :
Bel N x0→∃ a b,∃ c:Nat,(x0.cell 8)=D.sl a 9 b c∧yG Q N 0 0 a b c (b.length:Int) 0 x0 0 (bytes []) (bytes []) 0 0 Option.none []
 0 0 Option.none [] 0 Option.none [] 0 [] 0 N):ACalls prog 75 [.pk,.int .i64,.str,.str,.int .i64,.dc,.dc,.dc,.dc,.row 34 9] [.dg 9 x0,.fn 61 []] N Q:=
  eE (H:=vP) (by kernel_rfl) (by kernel_rfl) h
theorem we (N:Nat) (a0:Option Addr) (e0:List D) (c0:Nat) (a1_0:Addr) (Q:QT [.bool]) (h :
Bel N (D.sl a0 2 e0 c0)→∀ a,N≤a→ACalls prog 185 [.int .i64] [.sv a0 2 e0 c0,.fn 161 [.pd a1_0 0 (.fn 127 [])]] a (fun n b=>a≤b→∀ a,b
 ≤ a→Q (decide (n≥0)) a)):ACalls prog 160 [.bool] [.sv a0 2 e0 c0,.fn 161 [.pd a1_0 0 (.fn 127 [])]] N Q:=
  eE (H:=vi) (by kernel_rfl) (by kernel_rfl) h
theorem wq (N:Nat) (a0:Option Addr) (e0:List D) (c0:Nat) (a1_0:Addr) (Q:QT [.bool]) (h :
Bel N (D.sl a0 9 e0 c0)→∀ a,N≤a→ACalls prog 156 [.int .i64] [.sv a0 9 e0 c0,.fn 124 [.pd a1_0 0 (.fn 94 [])]] a (fun n b=>a≤b→∀ a,b
 ≤ a→Q (decide (n≥0)) a)):ACalls prog 123 [.bool] [.sv a0 9 e0 c0,.fn 124 [.pd a1_0 0 (.fn 94 [])]] N Q:=
  eE (H:=vR) (by kernel_rfl) (by kernel_rfl) h
theorem rW (Q:QT [.int .i64]) (N0:Nat) (n5:Int) (a13:Option Addr) (e13:List D) (c13:Nat) (n14 n15:Int) (N:Nat) (h :
Br (decide (n15<n14)) ((0≤n15∧n15<(e13.length:Int))∧∀ a,N≤a→ACalls prog 163 [.int .i64] [.dg 9 (List.getD e13 n15.toNat default),.fn 164 []]
 a (fun n b=>a≤b→wY Q N0 (IntKind.i64.wrap (n5+n)) a13 e13 c13 n14 (IntKind.i64.wrap (n15+1)) b)) (∀ a,N≤a→Q n5 a)):wY Q N0 n5 a13 e13 c13 n14 n15 N:=
  hE (H:=zAY) (by kernel_rfl) h
theorem wd (Q:QT [.pk,.int .i64,.str,.str,.int .i64,.dc,.dc,.dc,.dc,.row 34 9]) (N0:Nat) (m5 c5:Nat) (a10:Option Addr) (e10:List D) (c10:Nat) (n11 n12:Int) (y0:D) (n1_0:Int) (s1_1 s1_2:ByteArray) (n1_3 n1_4:Int) (a1_5:Option Addr) (e1_5:List D) (c1_5:Nat) (n1_6:Int) (a1_7:Option Addr) (e1_7:List D) (c1_7:Nat) (a1_8:Option Addr) (e1_8:List D) (c1_8:Nat) (r2:List D) (q2:Nat) (N:Nat) (h :
Br (decide (n12<n11)) ((0≤n12∧n12<(e10.length:Int))∧∀ a,N≤a→ACalls prog 61 [.ag 9] [.dg 9 (List.getD e10 n12.toNat default)] a (fun x b
 => a≤b→Bel b x→(m5=r2.length∧c5=q2)∧zK r2 [x] 136∧∀ (c:Nat),yG Q N0 (r2++[x]).length c a10 e10 c10 n11 (IntKind.i64.wrap
 (n12+1)) y0 n1_0 s1_1 s1_2 n1_3 n1_4 a1_5 e1_5 c1_5 n1_6 a1_7 e1_7 c1_7 a1_8 e1_8 c1_8 (r2++[x]) c b)) ((m5=r2.length∧c5=q2)∧∀ a,ApA a r2→Off [a]
 y0→∀ b,N≤b→tL b [a]→ACalls prog 78 [Sh.pk,.int .i64,.str,.str,.int .i64,Sh.dc,Sh.dc,Sh.dc,Sh.dc,Sh.bk 1] [.dg 9 y0,.sv a 9 r2 c5] b
 (fun n s c d e f g h i j=>b≤j→i=D.sl a 9 r2 c5∧Off [a] e∧Off [a] f∧Off [a] g∧Off [a] h∧(m5=r2.length∧c5=q2)
 ∧ ∀ a,j≤a→Q n s c d e f g h r2 c5 a))):yG Q N0 m5 c5 a10 e10 c10 n11 n12 y0 n1_0 s1_1 s1_2 n1_3 n1_4 a1_5 e1_5 c1_5 n1_6 a1_7 e1_7 c1_7 a1_8 e1_8 c1_8 r2 q2 N:=
  hE (H:=vP) (by kernel_rfl) h
theorem vQ (N:Nat) (a0:Option Addr) (e0:List D) (c0:Nat) (a1_0:Addr) (Q:QT [.int .i64]) (h :
Bel N (D.sl a0 2 e0 c0)→zZ Q N a0 e0 c0 a1_0 (e0.length:Int) 0 N):ACalls prog 185 [.int .i64] [.sv a0 2 e0 c0,.fn 161 [.pd a1_0 0 (.fn 127 [])]] N Q:=
 eE (H:=xi) (by kernel_rfl) (by kernel_rfl) h
theorem vF (N:Nat) (a0:Option Addr) (e0:List D) (c0:Nat) (a1_0:Addr) (Q:QT [.int .i64]) (h :
Bel N (D.sl a0 9 e0 c0)→za Q N a0 e0 c0 a1_0 (e0.length:Int) 0 N):ACalls prog 156 [.int .i64] [.sv a0 9 e0 c0,.fn 124 [.pd a1_0 0 (.fn 94 [])]] N Q:=
 eE (H:=xm) (by kernel_rfl) (by kernel_rfl) h
theorem xE (Q:QT [.int .i64]) (N0:Nat) (a0:Option Addr) (e0:List D) (c0:Nat) (a1_0:Addr) (n7 n8:Int) (N:Nat) (h :
Br (decide (n8<n7)) ((0≤n8∧n8<(e0.length:Int))∧∀ a,N≤a→ACalls prog 161 [.bool] [.dg 2 (List.getD e0 n8.toNat default),.pd a1_0 0 (.fn 127 [])]
 a (fun b c=>a≤c→Br b (∀ a,c≤a→Q n8 a) (zZ Q N0 a0 e0 c0 a1_0 n7 (IntKind.i64.wrap (n8+1)) c))) (∀ a,N ≤
 a→Q (-1) a)):zZ Q N0 a0 e0 c0 a1_0 n7 n8 N:=
  hE (H:=xi) (by kernel_rfl) h
theorem xC (Q:QT [.int .i64]) (N0:Nat) (a0:Option Addr) (e0:List D) (c0:Nat) (a1_0:Addr) (n7 n8:Int) (N:Nat) (h :
Br (decide (n8<n7)) ((0≤n8∧n8<(e0.length:Int))∧∀ a,N≤a→ACalls prog 124 [.bool] [.dg 9 (List.getD e0 n8.toNat default),.pd a1_0 0 (.fn 94 [])]
 a (fun b c=>a≤c→Br b (∀ a,c≤a→Q n8 a) (za Q N0 a0 e0 c0 a1_0 n7 (IntKind.i64.wrap (n8+1)) c))) (∀ a,N ≤
 a→Q (-1) a)):za Q N0 a0 e0 c0 a1_0 n7 n8 N:=
  hE (H:=xm) (by kernel_rfl) h
theorem sI (N:Nat) (x0:D) (a1:Addr) (Q:QT [.bool]) (h :
Bel N x0→∀ a,N≤a→ACalls prog 126 [.bool] [.dg 2 x0,.fn 127 []] a (fun b c=>a≤c→∀ a,c≤a→Q (!b) a)):ACalls prog 161 [.bool] [.dg 2 x0,.pd a1 0 (.fn 127 [])] N Q:=
 eE (H:=qr) (by kernel_rfl) (by kernel_rfl) h
theorem sQ (N:Nat) (x0:D) (a1:Addr) (Q:QT [.bool]) (h :
Bel N x0→∀ a,N≤a→ACalls prog 93 [.bool] [.dg 9 x0,.fn 94 []] a (fun b c=>a≤c→∀ a,c≤a→Q (!b) a)):ACalls prog 124 [.bool] [.dg 9 x0,.pd a1 0 (.fn 94 [])] N Q:=
 eE (H:=qd) (by kernel_rfl) (by kernel_rfl) h
end Go.Proofs.YtnpjpplbkoammaaGreatDoor
set_option maxRecDepth 100000
namespace Go.Proofs.YtnpjpplbkoammaaGreatDoor
open Go Go.Proofs Go.Proofs.Tryz
def wi:Hint:=⟨[],[hc 4 [1,2],hc 5 [1,2],hc 6 [1,2],hc 7 [1,2]],[(1,hs 8 [ec 1 [6]]),(2,hs 20 [ec 4 [13],ec 14 [23]]),(4,hs 23 [ec 8 [39],ec 19 [50]]),(5,hs 6 [ec 4 [57]]),(6,hs 35 [ec 8 [67],ec 19 [78],ec 31 [90]]),(7,hs 6 [ec 4 [97]])]⟩
def u9:Hint:=⟨[],[hc 7 [1,2],hc 9 [1,2]],[(2,hs 3 [ec 1 [7]]),(4,[en 0,en 1,en 2,en 3,en 4,en 5,en 6,en 7,en 8,en 9,ec 10 [30],eh 11]),(5,hs 11 [ec 8 [40]]),(6,[en 0,en 1,en 2,en 3,en 4,en 5,en 6,en 7,en 8,en 9,ec 10 [46,52],eh 11]),(7,hs 19 [ec 16 [70]]),(8,[en 0,en 1,en 2,en 3,en 4,en 5,en 6,en 7,en 8,en 9,en 10,en 11,en 12,en 13,en 14,en 15,ec 16 [79,88],eh 17]),(9,[en 0,en 1,en 2,en 3,en 4,en 5,en 6,en 7,ec 8 [98],en 9,en 10,en 11,en 12,en 13,en 14,en 16,en 17,ec 15 [105],eh 18,en 19,en 20,en 21]),(10,hs 6 [ec 4 [115]])]⟩
def xH (Q:QT [.ag 9]) (N0:Nat) (y0:D) (n1_0:Int) (s1_1 s1_2:ByteArray) (n1_3 n1_4:Int) (a1_5:Option Addr) (e1_5:List D) (c1_5:Nat) (n1_6:Int) (a1_7:Option Addr) (e1_7:List D) (c1_7:Nat) (a1_8:Option Addr) (e1_8:List D) (c1_8:Nat) (N:Nat):Prop:=AT prog 118 [.ag 9] Q N0 .ord (uZ prog 118 4) ⟨an 1 (.pb 0 0 0 0::.pb 1 0 0 0::an 97 []),[.vd y0 9,.var [.int .i64 n1_0,.str s1_1,.str s1_2,.int .i64 n1_3,.int .i64 n1_4,.sv a1_5 2 e1_5 c1_5,.int .i64 n1_6,.sv a1_7 2 e1_7 c1_7,.sv a1_8 9 e1_8 c1_8]],N,none⟩
def ya (Q:QT [.ag 9]) (N0:Nat) (y0:D) (n1_0:Int) (s1_1 s1_2:ByteArray) (n1_3 n1_4:Int) (a1_5:Option Addr) (e1_5:List D) (c1_5:Nat) (n1_6:Int) (a1_7:Option Addr) (e1_7:List D) (c1_7:Nat) (a1_8:Option Addr) (e1_8:List D) (c1_8:Nat) (N:Nat):Prop:=AT prog 92 [.ag 9] Q N0 .ord (uZ prog 92 7) ⟨an 1 (.pb 0 0 0 0::.pb 1 0 0 0::an 115 []),[.vd y0 9,.var [.int .i64 n1_0,.str s1_1,.str s1_2,.int .i64 n1_3,.int .i64 n1_4,.sv a1_5 2 e1_5 c1_5,.int .i64 n1_6,.sv a1_7 2 e1_7 c1_7,.sv a1_8 9 e1_8 c1_8]],N,none⟩
def xJ (Q:QT [.ag 9]) (N0:Nat) (y0:D) (n1_0:Int) (s1_1 s1_2:ByteArray) (n1_3 n1_4:Int) (a1_5:Option Addr) (e1_5:List D) (c1_5:Nat) (n1_6:Int) (a1_7:Option Addr) (e1_7:List D) (c1_7:Nat) (a1_8:Option Addr) (e1_8:List D) (c1_8:Nat) (N:Nat):Prop:=AT prog 118 [.ag 9] Q N0 .ord (uZ prog 118 5) ⟨an 1 (.pb 0 0 0 0::.pb 1 0 0 0::an 97 []),[.vd y0 9,.var [.int .i64 n1_0,.str s1_1,.str s1_2,.int .i64 n1_3,.int .i64 n1_4,.sv a1_5 2 e1_5 c1_5,.int .i64 n1_6,.sv a1_7 2 e1_7 c1_7,.sv a1_8 9 e1_8 c1_8]],N,none⟩
def yi (Q:QT [.ag 9]) (N0:Nat) (y0:D) (n1_0:Int) (s1_1 s1_2:ByteArray) (n1_3 n1_4:Int) (a1_5:Option Addr) (e1_5:List D) (c1_5:Nat) (n1_6:Int) (a1_7:Option Addr) (e1_7:List D) (c1_7:Nat) (a1_8:Option Addr) (e1_8:List D) (c1_8:Nat) (N:Nat):Prop:=AT prog 118 [.ag 9] Q N0 .ord (uZ prog 118 6) ⟨an 1 (.pb 0 0 0 0::.pb 1 0 0 0::an 97 []),[.vd y0 9,.var [.int .i64 n1_0,.str s1_1,.str s1_2,.int .i64 n1_3,.int .i64 n1_4,.sv a1_5 2 e1_5 c1_5,.int .i64 n1_6,.sv a1_7 2 e1_7 c1_7,.sv a1_8 9 e1_8 c1_8]],N,none⟩
def yp (Q:QT [.ag 9]) (N0:Nat) (y0:D) (n1_0:Int) (s1_1 s1_2:ByteArray) (n1_3 n1_4:Int) (a1_5:Option Addr) (e1_5:List D) (c1_5:Nat) (n1_6:Int) (a1_7:Option Addr) (e1_7:List D) (c1_7:Nat) (a1_8:Option Addr) (e1_8:List D) (c1_8:Nat) (N:Nat):Prop:=AT prog 92 [.ag 9] Q N0 .ord (uZ prog 92 9) ⟨an 1 (.pb 0 0 0 0::.pb 1 0 0 0::an 115 []),[.vd y0 9,.var [.int .i64 n1_0,.str s1_1,.str s1_2,.int .i64 n1_3,.int .i64 n1_4,.sv a1_5 2 e1_5 c1_5,.int .i64 n1_6,.sv a1_7 2 e1_7 c1_7,.sv a1_8 9 e1_8 c1_8]],N,none⟩
def zj (Q:QT [.ag 9]) (N0:Nat) (y0:D) (n1_0:Int) (s1_1 s1_2:ByteArray) (n1_3 n1_4:Int) (a1_5:Option Addr) (e1_5:List D) (c1_5:Nat) (n1_6:Int) (a1_7:Option Addr) (e1_7:List D) (c1_7:Nat) (a1_8:Option Addr) (e1_8:List D) (c1_8:Nat) (N:Nat):Prop:=AT prog 118 [.ag 9] Q N0 .ord (uZ prog 118 7) ⟨an 1 (.pb 0 0 0 0::.pb 1 0 0 0::an 97 []),[.vd y0 9,.var [.int .i64 n1_0,.str s1_1,.str s1_2,.int .i64 n1_3,.int .i64 n1_4,.sv a1_5 2 e1_5 c1_5,.int .i64 n1_6,.sv a1_7 2 e1_7 c1_7,.sv a1_8 9 e1_8 c1_8]],N,none⟩
theorem zHT (N:Nat) (x0:D) (Q:QT [.ag 9]) (h :
Bel N x0→∀ d,N≤d→ACalls prog 66 [.ag 9,.int .i64] [.dg 9 x0] d (fun x n e=>d≤e→Bel e x→∃ a d,∃ c:Nat,(x0.cell 8)=D.sl a 9 d
 c∧((0:Int)≤(0:Int)∧0<(d.length:Int))∧∀ a,e≤a→ACalls prog 53 [.bool] [.dg 9 (List.getD d 0 default)] a (fun b c=>a≤c→Br
 b (∃ a b,∃ d:Nat,(x0.cell 8)=D.sl a 9 b d∧∃ a d,∃ e:Nat,(x0.cell 8)=D.sl a 9 d e∧(0≤IntKind.i64.wrap ((d.length
 : Int) - 1)∧IntKind.i64.wrap ((d.length:Int) - 1)<(b.length:Int))∧∀ a,c≤a→ACalls prog 53 [.bool] [.dg 9 (List.getD b (IntKind.i64.wrap
 ((d.length:Int) - 1)).toNat default)] a (fun b c=>a≤c→Br b (Br (n==1) (∀ a,c≤a→Q x a) (xH Q N x0 0 (bytes []) (bytes
 []) 0 0 Option.none [] 0 0 Option.none [] 0 Option.none [] 0 c)) (xH Q N x0 0 (bytes []) (bytes []) 0 0 Option.none [] 0 0 Option.none [] 0 Option.none
 [] 0 c))) (xH Q N x0 0 (bytes []) (bytes []) 0 0 Option.none [] 0 0 Option.none [] 0 Option.none [] 0 c)))):ACalls prog 118 [.ag 9] [PV.dg 9 x0] N Q:=
  eE (H:=wi) (by kernel_rfl) (by kernel_rfl) h
theorem zFV (N:Nat) (x0:D) (Q:QT [.ag 9]) (h :
Bel N x0→∃ n:Int,(x0.cell 0)=D.lit (.int .i64 n)∧Br (n==4) (∀ a,N≤a→ACalls prog 118 [.ag 9] [.dg 9 x0] a (fun x b=>a≤b→Bel b
 x→∀ a,b≤a→Q x a)) (∃ d:Int,(x0.cell 0)=D.lit (.int .i64 d)∧Br (d==5) (∃ a d,∃ c:Nat,(x0.cell 8)=D.sl a 9 d c∧((0:Int) ≤
 (0:Int)∧0<(d.length:Int))∧∃ a:Int,(if 0=0 then D.cell (List.getD d 0 default) 0 else D.sub (List.getD d 0 default) 0 0)=D.lit (.int .i64 a)
 ∧ Br (a==3) (∃ a b,∃ c:Nat,(x0.cell 8)=D.sl a 9 b c∧∃ a c,∃ d:Nat,(x0.cell 8)=D.sl a 9 c d∧((0:Int)≤(0:Int)
 ∧ 0<(c.length:Int))∧∃ a:Int,(if 0=0 then D.cell (List.getD c 0 default) 3 else D.sub (List.getD c 0 default) 3 0)=D.lit (.int .i64 a) ∧
 (0≤IntKind.i64.wrap (2 - a)∧IntKind.i64.wrap (2 - a)<(b.length:Int))∧∀ c,N≤c→ACalls prog 35 [Sh.pk,.int .i64,.str,.str,.int .i64,Sh.dc,
 Sh.dc,Sh.dc,Sh.dc,.row (OfNat.ofNat 34) 9] [.dg 9 (List.getD b (IntKind.i64.wrap (2 - a)).toNat default)] c (fun a s b d e f g h i j
 k=>c≤k→Bel k (D.ag i)→(i.length=i.length∧j=j)∧(i.length=i.length∧j=j)∧∀ c l,k≤l→Fresh N l c
 [D.ag i,e,f,g,h]→∀ k,l≤k→Q (D.ag [D.lit (.int .i64 a),D.lit (.string s),D.lit (.string b),D.lit (.int .i64 d),e,f,g,
 h,D.sl c 9 i j]) k)) (∃ a:Int,(x0.cell 0)=D.lit (.int .i64 a)∧Br (a==8) (∃ a c,∃ d:Nat,(x0.cell 8)=D.sl a 9 c d ∧
 ((0:Int)≤(0:Int)∧0<(c.length:Int))∧∀ a,N≤a→ACalls prog 119 [.bool] [.dg 9 (List.getD c 0 default)] a (fun b c=>a≤c→Br
 b (∃ a b,∃ d:Nat,(x0.cell 8)=D.sl a 9 b d∧((0:Int)≤(1:Int)∧1<(b.length:Int))∧∃ a,(x0.cell 1)=D.lit (.string a)∧∃
 d e,∃ f:Nat,(x0.cell 8)=D.sl d 9 e f∧((0:Int)≤(0:Int)∧0<(e.length:Int))∧∀ d,c≤d→ACalls prog 105 [.ag 9] [.dg
 9 (List.getD b 1 default),.str a,.dg 9 (List.getD e 0 default)] d (fun a b=>d≤b→Bel b a→∀ c,b≤c→Q a c)) (ya
 Q N x0 0 (bytes []) (bytes []) 0 0 Option.none [] 0 0 Option.none [] 0 Option.none [] 0 c))) (ya Q N x0 0 (bytes []) (bytes []) 0 0 Option.none []
 0 0 Option.none [] 0 Option.none [] 0 N))) (∃ a:Int,(x0.cell 0)=D.lit (.int .i64 a)∧Br (a==8) (∃ a b,∃ c:Nat,(x0.cell 8)=D.sl a 9 b
 c∧((0:Int)≤(0:Int)∧0<(b.length:Int))∧∀ a,N≤a→ACalls prog 119 [.bool] [.dg 9 (List.getD b 0 default)] a (fun b c=>a
 ≤ c→Br b (∃ a b,∃ d:Nat,(x0.cell 8)=D.sl a 9 b d∧((0:Int)≤(1:Int)∧1<(b.length:Int))∧∃ a,(x0.cell 1)=D.lit (.string
 a)∧∃ d e,∃ f:Nat,(x0.cell 8)=D.sl d 9 e f∧((0:Int)≤(0:Int)∧0<(e.length:Int))∧∀ d,c≤d→ACalls prog 105 [.ag
 9] [.dg 9 (List.getD b 1 default),.str a,.dg 9 (List.getD e 0 default)] d (fun a b=>d≤b→Bel b a→∀ c,b≤c→Q a
 c)) (ya Q N x0 0 (bytes []) (bytes []) 0 0 Option.none [] 0 0 Option.none [] 0 Option.none [] 0 c))) (ya Q N x0 0 (bytes []) (bytes
 []) 0 0 Option.none [] 0 0 Option.none [] 0 Option.none [] 0 N)))):ACalls prog 92 [.ag 9] [PV.dg 9 x0] N Q:=
  eE (H:=u9) (by kernel_rfl) (by kernel_rfl) h
theorem zDh (Q:QT [.ag 9]) (N0:Nat) (y0:D) (n1_0:Int) (s1_1 s1_2:ByteArray) (n1_3 n1_4:Int) (a1_5:Option Addr) (e1_5:List D) (c1_5:Nat) (n1_6:Int) (a1_7:Option Addr) (e1_7:List D) (c1_7:Nat) (a1_8:Option Addr) (e1_8:List D) (c1_8:Nat) (N:Nat) (h :
∃ s,(y0.cell 1)=D.lit (.string s)∧Br (ByteArray.toList s==ByteArray.toList (bytes [43])) (∃ a d,∃ c:Nat,(y0.cell 8)=D.sl a 9 d c∧((0:Int)≤(0
 : Int)∧0<(d.length:Int))∧∀ a,N≤a→ACalls prog 153 [.bool] [.dg 9 (List.getD d 0 default),.int .i64 0] a (fun b c=>a≤c→Br b (xJ
 Q N0 y0 n1_0 s1_1 s1_2 n1_3 n1_4 a1_5 e1_5 c1_5 n1_6 a1_7 e1_7 c1_7 a1_8 e1_8 c1_8 c) (∃ a,(y0.cell 1)=D.lit (.string a)∧Br (ByteArray.toList a==ByteArray.toList
 (bytes [42])) (∃ a b,∃ d:Nat,(y0.cell 8)=D.sl a 9 b d∧((0:Int)≤(0:Int)∧0<(b.length:Int))∧∀ a,c≤a→ACalls prog 153
 [.bool] [.dg 9 (List.getD b 0 default),.int .i64 1] a (fun b c=>a≤c→Br b (xJ Q N0 y0 n1_0 s1_1 s1_2 n1_3 n1_4 a1_5 e1_5 c1_5 n1_6
 a1_7 e1_7 c1_7 a1_8 e1_8 c1_8 c) (yi Q N0 y0 n1_0 s1_1 s1_2 n1_3 n1_4 a1_5 e1_5 c1_5 n1_6 a1_7 e1_7 c1_7 a1_8 e1_8 c1_8 c))) (yi Q N0
 y0 n1_0 s1_1 s1_2 n1_3 n1_4 a1_5 e1_5 c1_5 n1_6 a1_7 e1_7 c1_7 a1_8 e1_8 c1_8 c)))) (∃ a,(y0.cell 1)=D.lit (.string a)∧Br (ByteArray.toList a==ByteArray.toList
 (bytes [42])) (∃ a b,∃ c:Nat,(y0.cell 8)=D.sl a 9 b c∧((0:Int)≤(0:Int)∧0<(b.length:Int))∧∀ a,N≤a→ACalls prog 153
 [.bool] [.dg 9 (List.getD b 0 default),.int .i64 1] a (fun b c=>a≤c→Br b (xJ Q N0 y0 n1_0 s1_1 s1_2 n1_3 n1_4 a1_5 e1_5 c1_5 n1_6
 a1_7 e1_7 c1_7 a1_8 e1_8 c1_8 c) (yi Q N0 y0 n1_0 s1_1 s1_2 n1_3 n1_4 a1_5 e1_5 c1_5 n1_6 a1_7 e1_7 c1_7 a1_8 e1_8 c1_8 c))) (yi Q N0
 y0 n1_0 s1_1 s1_2 n1_3 n1_4 a1_5 e1_5 c1_5 n1_6 a1_7 e1_7 c1_7 a1_8 e1_8 c1_8 N))):xH Q N0 y0 n1_0 s1_1 s1_2 n1_3 n1_4 a1_5 e1_5 c1_5 n1_6 a1_7 e1_7 c1_7 a1_8 e1_8 c1_8 N:=
  hE (H:=wi) (by kernel_rfl) h
theorem zBV (Q:QT [.ag 9]) (N0:Nat) (y0:D) (n1_0:Int) (s1_1 s1_2:ByteArray) (n1_3 n1_4:Int) (a1_5:Option Addr) (e1_5:List D) (c1_5:Nat) (n1_6:Int) (a1_7:Option Addr) (e1_7:List D) (c1_7:Nat) (a1_8:Option Addr) (e1_8:List D) (c1_8:Nat) (N:Nat) (h :
∃ n:Int,(y0.cell 0)=D.lit (.int .i64 n)∧Br (n==7) (∃ a d,∃ c:Nat,(y0.cell 8)=D.sl a 9 d c∧((0:Int)≤(0:Int)∧0<(d.length:Int))∧∃
 a:Int,(if 0=0 then D.cell (List.getD d 0 default) 0 else D.sub (List.getD d 0 default) 0 0)=D.lit (.int .i64 a)∧Br (a==6) (∃ a c,∃ d :
 Nat,(y0.cell 8)=D.sl a 9 c d∧((0:Int)≤(1:Int)∧1<(c.length:Int))∧∀ a,N≤a→ACalls prog 119 [.bool] [.dg 9 (List.getD c 1 default)]
 a (fun b c=>a≤c→Br b (∃ a b,∃ d:Nat,(y0.cell 8)=D.sl a 9 b d∧((0:Int)≤(0:Int)∧0<(b.length:Int))∧∃ a d,
 ∃ e:Nat,(if 0=0 then D.cell (List.getD b 0 default) 8 else D.sub (List.getD b 0 default) 8 0)=D.sl a 9 d e∧((0:Int)≤(0:Int)∧0<(d.length
 : Int))∧∃ a b,∃ e:Nat,(y0.cell 8)=D.sl a 9 b e∧((0:Int)≤(0:Int)∧0<(b.length:Int))∧∃ s,(if 0=0 then D.cell (List.getD
 b 0 default) 1 else D.sub (List.getD b 0 default) 1 0)=D.lit (.string s)∧∃ a b,∃ e:Nat,(y0.cell 8)=D.sl a 9 b e∧((0:Int)≤(1 :
 Int)∧1<(b.length:Int))∧∀ a,c≤a→ACalls prog 105 [.ag 9] [.dg 9 (List.getD d 0 default),.str s,.dg 9 (List.getD b 1 default)] a (fun
 x b=>a≤b→Bel b x→∀ a,b≤a→Q x a)) (yp Q N0 y0 n1_0 s1_1 s1_2 n1_3 n1_4 a1_5 e1_5 c1_5 n1_6 a1_7 e1_7 c1_7 a1_8 e1_8 c1_8
 c))) (yp Q N0 y0 n1_0 s1_1 s1_2 n1_3 n1_4 a1_5 e1_5 c1_5 n1_6 a1_7 e1_7 c1_7 a1_8 e1_8 c1_8 N)) (yp Q N0 y0 n1_0 s1_1 s1_2 n1_3 n1_4
 a1_5 e1_5 c1_5 n1_6 a1_7 e1_7 c1_7 a1_8 e1_8 c1_8 N)):ya Q N0 y0 n1_0 s1_1 s1_2 n1_3 n1_4 a1_5 e1_5 c1_5 n1_6 a1_7 e1_7 c1_7 a1_8 e1_8 c1_8 N:=
  hE (H:=u9) (by kernel_rfl) h
theorem zDa (Q:QT [.ag 9]) (N0:Nat) (y0:D) (n1_0:Int) (s1_1 s1_2:ByteArray) (n1_3 n1_4:Int) (a1_5:Option Addr) (e1_5:List D) (c1_5:Nat) (n1_6:Int) (a1_7:Option Addr) (e1_7:List D) (c1_7:Nat) (a1_8:Option Addr) (e1_8:List D) (c1_8:Nat) (N:Nat) (h :
∃ a b,∃ c:Nat,(y0.cell 8)=D.sl a 9 b c∧((0:Int)≤(1:Int)∧1<(b.length:Int))∧∀ a,N≤a→ACalls prog 35 [Sh.pk,.int .i64,.str,.str,
 .int .i64,Sh.dc,Sh.dc,Sh.dc,Sh.dc,.row (OfNat.ofNat 34) 9] [.dg 9 (List.getD b 1 default)] a (fun n s b c x d e f g h i=>a≤i→Bel
 i (D.ag g)→(g.length=g.length∧h=h)∧(g.length=g.length∧h=h)∧∀ a j,i≤j→Fresh N0 j a [D.ag g,x,d,
 e,f]→∀ i,j≤i→Q (D.ag [D.lit (.int .i64 n),D.lit (.string s),D.lit (.string b),D.lit (.int .i64 c),x,d,e,f,D.sl a 9 g h])
 i)):xJ Q N0 y0 n1_0 s1_1 s1_2 n1_3 n1_4 a1_5 e1_5 c1_5 n1_6 a1_7 e1_7 c1_7 a1_8 e1_8 c1_8 N:=
  hE (H:=wi) (by kernel_rfl) h
theorem zC3 (Q:QT [.ag 9]) (N0:Nat) (y0:D) (n1_0:Int) (s1_1 s1_2:ByteArray) (n1_3 n1_4:Int) (a1_5:Option Addr) (e1_5:List D) (c1_5:Nat) (n1_6:Int) (a1_7:Option Addr) (e1_7:List D) (c1_7:Nat) (a1_8:Option Addr) (e1_8:List D) (c1_8:Nat) (N:Nat) (h :
∃ s,(y0.cell 1)=D.lit (.string s)∧Br (ByteArray.toList s==ByteArray.toList (bytes [43])) (∃ a d,∃ c:Nat,(y0.cell 8)=D.sl a 9 d c∧((0:Int)≤(1
 : Int)∧1<(d.length:Int))∧∀ a,N≤a→ACalls prog 153 [.bool] [.dg 9 (List.getD d 1 default),.int .i64 0] a (fun b c=>a≤c→Br b (zj
 Q N0 y0 n1_0 s1_1 s1_2 n1_3 n1_4 a1_5 e1_5 c1_5 n1_6 a1_7 e1_7 c1_7 a1_8 e1_8 c1_8 c) (∃ a,(y0.cell 1)=D.lit (.string a)∧Br (ByteArray.toList a==ByteArray.toList
 (bytes [42])) (∃ a b,∃ d:Nat,(y0.cell 8)=D.sl a 9 b d∧((0:Int)≤(1:Int)∧1<(b.length:Int))∧∀ a,c≤a→ACalls prog 153
 [.bool] [.dg 9 (List.getD b 1 default),.int .i64 1] a (fun b c=>a≤c→Br b (zj Q N0 y0 n1_0 s1_1 s1_2 n1_3 n1_4 a1_5 e1_5 c1_5 n1_6
 a1_7 e1_7 c1_7 a1_8 e1_8 c1_8 c) (∃ a,(y0.cell 1)=D.lit (.string a)∧Br (ByteArray.toList a==ByteArray.toList (bytes [45])) (∃ a b,∃ d:Nat,
 (y0.cell 8)=D.sl a 9 b d∧((0:Int)≤(1:Int)∧1<(b.length:Int))∧∀ a,c≤a→ACalls prog 153 [.bool] [.dg 9 (List.getD b 1 default),
 .int .i64 0] a (fun b c=>a≤c→Br b (zj Q N0 y0 n1_0 s1_1 s1_2 n1_3 n1_4 a1_5 e1_5 c1_5 n1_6 a1_7 e1_7 c1_7 a1_8 e1_8 c1_8 c) (∀ a,
 c≤a→Q y0 a))) (∀ a,c≤a→Q y0 a)))) (∃ a,(y0.cell 1)=D.lit (.string a)∧Br (ByteArray.toList a==ByteArray.toList (bytes [45])) (∃
 a b,∃ d:Nat,(y0.cell 8)=D.sl a 9 b d∧((0:Int)≤(1:Int)∧1<(b.length:Int))∧∀ a,c≤a→ACalls prog 153 [.bool] [.dg 9
 (List.getD b 1 default),.int .i64 0] a (fun b c=>a≤c→Br b (zj Q N0 y0 n1_0 s1_1 s1_2 n1_3 n1_4 a1_5 e1_5 c1_5 n1_6 a1_7 e1_7
 c1_7 a1_8 e1_8 c1_8 c) (∀ a,c≤a→Q y0 a))) (∀ a,c≤a→Q y0 a))))) (∃ a,(y0.cell 1)=D.lit (.string a)∧Br (ByteArray.toList
 a==ByteArray.toList (bytes [42])) (∃ a b,∃ c:Nat,(y0.cell 8)=D.sl a 9 b c∧((0:Int)≤(1:Int)∧1<(b.length:Int))∧∀ a,N
 ≤ a→ACalls prog 153 [.bool] [.dg 9 (List.getD b 1 default),.int .i64 1] a (fun b c=>a≤c→Br b (zj Q N0 y0 n1_0 s1_1 s1_2
 n1_3 n1_4 a1_5 e1_5 c1_5 n1_6 a1_7 e1_7 c1_7 a1_8 e1_8 c1_8 c) (∃ a,(y0.cell 1)=D.lit (.string a)∧Br (ByteArray.toList a==ByteArray.toList (bytes
 [45])) (∃ a b,∃ d:Nat,(y0.cell 8)=D.sl a 9 b d∧((0:Int)≤(1:Int)∧1<(b.length:Int))∧∀ a,c≤a→ACalls prog 153 [.bool]
 [.dg 9 (List.getD b 1 default),.int .i64 0] a (fun b c=>a≤c→Br b (zj Q N0 y0 n1_0 s1_1 s1_2 n1_3 n1_4 a1_5 e1_5 c1_5 n1_6 a1_7
 e1_7 c1_7 a1_8 e1_8 c1_8 c) (∀ a,c≤a→Q y0 a))) (∀ a,c≤a→Q y0 a)))) (∃ a,(y0.cell 1)=D.lit (.string a)∧Br (ByteArray.toList
 a==ByteArray.toList (bytes [45])) (∃ a b,∃ c:Nat,(y0.cell 8)=D.sl a 9 b c∧((0:Int)≤(1:Int)∧1<(b.length:Int))∧∀ a,N
 ≤ a→ACalls prog 153 [.bool] [.dg 9 (List.getD b 1 default),.int .i64 0] a (fun b c=>a≤c→Br b (zj Q N0 y0 n1_0 s1_1 s1_2
 n1_3 n1_4 a1_5 e1_5 c1_5 n1_6 a1_7 e1_7 c1_7 a1_8 e1_8 c1_8 c) (∀ a,c≤a→Q y0 a))) (∀ a,N≤a→Q y0 a)))):yi Q N0 y0 n1_0 s1_1 s1_2 n1_3 n1_4 a1_5 e1_5 c1_5 n1_6 a1_7 e1_7 c1_7 a1_8 e1_8 c1_8 N:=
  hE (H:=wi) (by kernel_rfl) h
theorem zCN (Q:QT [.ag 9]) (N0:Nat) (y0:D) (n1_0:Int) (s1_1 s1_2:ByteArray) (n1_3 n1_4:Int) (a1_5:Option Addr) (e1_5:List D) (c1_5:Nat) (n1_6:Int) (a1_7:Option Addr) (e1_7:List D) (c1_7:Nat) (a1_8:Option Addr) (e1_8:List D) (c1_8:Nat) (N:Nat) (h :
∃ n:Int,(y0.cell 0)=D.lit (.int .i64 n)∧Br (n==8) (∃ a d,∃ c:Nat,(y0.cell 8)=D.sl a 9 d c∧((0:Int)≤(0:Int)∧0<(d.length:Int))∧∀
 a,N≤a→ACalls prog 120 [.bool] [.dg 9 (List.getD d 0 default)] a (fun b c=>a≤c→Br b (∃ a b,∃ d:Nat,(y0.cell 8)=D.sl a 9 b
 d∧((0:Int)≤(1:Int)∧1<(b.length:Int))∧∃ s,(y0.cell 1)=D.lit (.string s)∧∀ a,c≤a→ACalls prog 122 [.sl 0] [.dg 9 (List.getD b
 1 default)] a (fun b c d e=>a≤e→Bel e (D.sl b 0 c d)→∀ a,e≤a→ACalls prog 121 [.int .i64] [.sv b 0 c d,.str s]
 a (fun b c=>a≤c→Br (decide (b<0)) (∃ a b,∃ d:Nat,(y0.cell 8)=D.sl a 9 b d∧((0:Int)≤(1:Int)∧1<(b.length:Int))
 ∧ ∀ a,c≤a→ACalls prog 35 [Sh.pk,.int .i64,.str,.str,.int .i64,Sh.dc,Sh.dc,Sh.dc,Sh.dc,.row (OfNat.ofNat 34) 9] [.dg 9 (List.getD b 1 default)]
 a (fun b c d e x f g h i j k=>a≤k→Bel k (D.ag i)→(i.length=i.length∧j=j)∧(i.length=i.length∧j
 = j)∧∀ a l,k≤l→Fresh N0 l a [D.ag i,x,f,g,h]→∀ k,l≤k→Q (D.ag [D.lit (.int .i64 b),D.lit (.string c),D.lit
 (.string d),D.lit (.int .i64 e),x,f,g,h,D.sl a 9 i j]) k)) (∀ a,c≤a→Q y0 a)))) (∀ a,c≤a→Q y0 a))) (∀ a,
 N≤a→Q y0 a)):yp Q N0 y0 n1_0 s1_1 s1_2 n1_3 n1_4 a1_5 e1_5 c1_5 n1_6 a1_7 e1_7 c1_7 a1_8 e1_8 c1_8 N:=
  hE (H:=u9) (by kernel_rfl) h
theorem zDl (Q:QT [.ag 9]) (N0:Nat) (y0:D) (n1_0:Int) (s1_1 s1_2:ByteArray) (n1_3 n1_4:Int) (a1_5:Option Addr) (e1_5:List D) (c1_5:Nat) (n1_6:Int) (a1_7:Option Addr) (e1_7:List D) (c1_7:Nat) (a1_8:Option Addr) (e1_8:List D) (c1_8:Nat) (N:Nat) (h :
∃ a b,∃ c:Nat,(y0.cell 8)=D.sl a 9 b c∧((0:Int)≤(0:Int)∧0<(b.length:Int))∧∀ a,N≤a→ACalls prog 35 [Sh.pk,.int .i64,.str,.str,
 .int .i64,Sh.dc,Sh.dc,Sh.dc,Sh.dc,.row (OfNat.ofNat 34) 9] [.dg 9 (List.getD b 0 default)] a (fun n s b c x d e f g h i=>a≤i→Bel
 i (D.ag g)→(g.length=g.length∧h=h)∧(g.length=g.length∧h=h)∧∀ a j,i≤j→Fresh N0 j a [D.ag g,x,d,
 e,f]→∀ i,j≤i→Q (D.ag [D.lit (.int .i64 n),D.lit (.string s),D.lit (.string b),D.lit (.int .i64 c),x,d,e,f,D.sl a 9 g h])
 i)):zj Q N0 y0 n1_0 s1_1 s1_2 n1_3 n1_4 a1_5 e1_5 c1_5 n1_6 a1_7 e1_7 c1_7 a1_8 e1_8 c1_8 N:=
  hE (H:=wi) (by kernel_rfl) h
end Go.Proofs.YtnpjpplbkoammaaGreatDoor
set_option maxRecDepth 100000
namespace Go.Proofs.YtnpjpplbkoammaaGreatDoor
open Go Go.Proofs Go.Proofs.Tryz
def va:Hint:=⟨[],[hc 4 [1,2],hc 6 [1,2,6,7]],[(1,hs 8 [ec 1 [9]]),(7,hs 12 [ec 9 [35]]),(9,hs 7 [ec 5 [47]])]⟩
def yv (Q:QT [.ag 9]) (N0:Nat) (y0:D) (n1_0:Int) (s1_1 s1_2:ByteArray) (n1_3 n1_4:Int) (a1_5:Option Addr) (e1_5:List D) (c1_5:Nat) (n1_6:Int) (a1_7:Option Addr) (e1_7:List D) (c1_7:Nat) (a1_8:Option Addr) (e1_8:List D) (c1_8:Nat) (N:Nat):Prop:=AT prog 128 [.ag 9] Q N0 .ord (uZ prog 128 4) ⟨an 1 (.pb 0 0 0 0::.pb 1 0 0 0::an 52 []),[.vd y0 9,.var [.int .i64 n1_0,.str s1_1,.str s1_2,.int .i64 n1_3,.int .i64 n1_4,.sv a1_5 2 e1_5 c1_5,.int .i64 n1_6,.sv a1_7 2 e1_7 c1_7,.sv a1_8 9 e1_8 c1_8]],N,none⟩
def wl (Q:QT [.ag 9]) (N0:Nat) (y0:D) (n1_0:Int) (s1_1 s1_2:ByteArray) (n1_3 n1_4:Int) (a1_5:Option Addr) (e1_5:List D) (c1_5:Nat) (n1_6:Int) (a1_7:Option Addr) (e1_7:List D) (c1_7:Nat) (a1_8:Option Addr) (e1_8:List D) (c1_8:Nat) (n6:Int) (b7:Bool) (N:Nat):Prop:=AT prog 128 [.ag 9] Q N0 .ord (uZ prog 128 6) ⟨an 1 (.pb 0 0 0 0::.pb 1 0 0 0::an 3 (.int .i64 n6::.bool b7::an 47 [])),[.vd y0 9,.var [.int .i64 n1_0,.str s1_1,.str s1_2,.int .i64 n1_3,.int .i64 n1_4,.sv a1_5 2 e1_5 c1_5,.int .i64 n1_6,.sv a1_7 2 e1_7 c1_7,.sv a1_8 9 e1_8 c1_8]],N,none⟩
theorem rv (N:Nat) (x0:D) (Q:QT [.ag 9]) (h :
Bel N x0→∀ a,N≤a→ACalls prog 111 [.ag 9,.bool] [.dg 9 x0] a (fun x b c=>a≤c→Bel c x→Br b (∀ a,c≤a→Q x a) (yv
 Q N x0 0 (bytes []) (bytes []) 0 0 Option.none [] 0 0 Option.none [] 0 Option.none [] 0 c))):ACalls prog 128 [.ag 9] [PV.dg 9 x0] N Q:=
  eE (H:=va) (by kernel_rfl) (by kernel_rfl) h
theorem sC (Q:QT [.ag 9]) (N0:Nat) (y0:D) (n1_0:Int) (s1_1 s1_2:ByteArray) (n1_3 n1_4:Int) (a1_5:Option Addr) (e1_5:List D) (c1_5:Nat) (n1_6:Int) (a1_7:Option Addr) (e1_7:List D) (c1_7:Nat) (a1_8:Option Addr) (e1_8:List D) (c1_8:Nat) (n6:Int) (b7:Bool) (N:Nat) (h :
Br (!b7) (∀ a,N≤a→Q y0 a) (∃ s,(y0.cell 1)=D.lit (.string s)∧Br (!(ByteArray.toList s==ByteArray.toList (bytes [45]))) (∃ a d,∃ c:Nat,(y0.cell
 8)=D.sl a 9 d c∧((0:Int)≤(0:Int)∧0<(d.length:Int))∧∀ a,N≤a→ACalls prog 162 [.bool] [.dg 9 (List.getD d 0 default),.int .i64 n6] a
 (fun b c=>a≤c→Br b (∃ a b,∃ d:Nat,(y0.cell 8)=D.sl a 9 b d∧((0:Int)≤(1:Int)∧1<(b.length:Int))∧∀ a,c≤a
 → Q (List.getD b 1 default) a) (∃ a b,∃ d:Nat,(y0.cell 8)=D.sl a 9 b d∧((0:Int)≤(1:Int)∧1<(b.length:Int))∧∀ a,c
 ≤ a→ACalls prog 162 [.bool] [.dg 9 (List.getD b 1 default),.int .i64 n6] a (fun b c=>a≤c→Br b (∃ a b,∃ d:Nat,(y0.cell 8)=D.sl
 a 9 b d∧((0:Int)≤(0:Int)∧0<(b.length:Int))∧∀ a,c≤a→Q (List.getD b 0 default) a) (∀ a,c≤a→Q y0 a))))) (∃ a
 b,∃ c:Nat,(y0.cell 8)=D.sl a 9 b c∧((0:Int)≤(1:Int)∧1<(b.length:Int))∧∀ a,N≤a→ACalls prog 162 [.bool] [.dg 9 (List.getD
 b 1 default),.int .i64 n6] a (fun b c=>a≤c→Br b (∃ a b,∃ d:Nat,(y0.cell 8)=D.sl a 9 b d∧((0:Int)≤(0:Int)∧0
 < (b.length:Int))∧∀ a,c≤a→Q (List.getD b 0 default) a) (∀ a,c≤a→Q y0 a))))):wl Q N0 y0 n1_0 s1_1 s1_2 n1_3 n1_4 a1_5 e1_5 c1_5 n1_6 a1_7 e1_7 c1_7 a1_8 e1_8 c1_8 n6 b7 N:=
  hE (H:=va) (by kernel_rfl) h
end Go.Proofs.YtnpjpplbkoammaaGreatDoor
