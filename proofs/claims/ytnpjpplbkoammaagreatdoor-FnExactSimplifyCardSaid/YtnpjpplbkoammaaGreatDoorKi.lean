/- Printed by gen.py: what the functions come to. -/
import Derived.Test.YtnpjpplbkoammaaGreatDoorJh
set_option linter.unusedVariables false
set_option maxRecDepth 100000
namespace Go.Proofs.YtnpjpplbkoammaaGreatDoor
open Go Go.Proofs Go.Proofs.Tryz
def zFM:Hint:=⟨[],[],[]⟩
def vK:Hint:=⟨[hc 2 [0,1,7,8]],[],[]⟩
def tc:Hint:=⟨[],[],[]⟩
def pF:Hint:=⟨[hc 2 [0,6,7]],[],[]⟩
def uf:Hint:=⟨[hc 3 [3,7,8,9]],[],[(5,hs 5 [ec 2 [14]])]⟩
def uK:Hint:=⟨[hc 3 [3,7,8,9]],[],[(5,hs 5 [ec 2 [14]])]⟩
def rO:Hint:=⟨[],[],[(1,[en 0,en 1,eh 2,en 3,en 4,en 5,en 6,en 7,en 8,en 9,en 10,en 11,en 12,en 13,en 14,en 15])]⟩
def px:Hint:=⟨[],[],[(1,hs 5 [ec 2 [4]])]⟩
def xq:Hint:=⟨[hc 2 [0,1,7,8]],[],[(4,hs 6 [ec 5 [15]])]⟩
def vv:Hint:=⟨[],[],[]⟩
def zCq:Hint:=⟨[],[],[(1,hs 11 [ec 2 [6]])]⟩
def ql:Hint:=⟨[],[],[(1,hs 13 [ec 1 [3],ec 5 [7],ec 10 [12]])]⟩
def zDp:Hint:=⟨[],[],[]⟩
def zGZ:Hint:=⟨[],[],[]⟩
def zBw:Hint:=⟨[],[],[]⟩
def zD1:Hint:=⟨[],[],[(12,hs 9 [ec 6 [34]]),(14,hs 26 [ec 18 [56],ec 23 [61]])]⟩
def xy:Hint:=⟨[hc 4 [1,2,15,16,17]],[],[(7,hs 5 [ec 3 [27,28]])]⟩
def zBF:Hint:=⟨[],[],[]⟩
def zFB:Hint:=⟨[],[],[(1,[en 0,en 1,en 2,en 3,ec 4 [7],en 5]),(14,[en 0,en 1,en 2,en 3,en 4,eh 5,en 6,eh 7]),(16,[en 0,en 1,en 2,en 3,en 4,en 5,en 6,en 7,en 8,eh 9,en 10,eh 11,en 12,eh 13,en 14,eh 15]),(17,hs 38 [ec 1 [54],ec 28 [79,81],ec 35 [86,88]])]⟩
def pU:Hint:=⟨[],[],[(1,hs 5 [ec 2 [4]])]⟩
def wD:Hint:=⟨[hc 2 [0,1,7,8]],[],[(4,hs 6 [ec 5 [15]])]⟩
def vt:Hint:=⟨[],[],[]⟩
def zCS:Hint:=⟨[],[],[(1,hs 11 [ec 2 [6]])]⟩
def zFm:Hint:=⟨[],[],[(1,hs 3 [ec 1 [3]])]⟩
def vT:Hint:=⟨[hc 3 [2,3,10,11,12]],[],[(5,[en 0,en 1,en 2,ec 3 [18],en 4,eh 5,en 6,eh 7])]⟩
def yM (Q:QT [.int .i64]) (N0:Nat) (a0:Option Addr) (e0:List D) (c0:Nat) (s1:ByteArray) (n7 n8:Int) (N:Nat):Prop:=AT prog 165 [.int .i64] Q N0 .ord (zF prog 165 2) ⟨.sv a0 0 e0 c0::.str s1::an 5 (.int .i64 n7::.int .i64 n8::an 10 []),[],N,none⟩
def yZ (Q:QT [.bool]) (N0:Nat) (s0:ByteArray) (n6 n7:Int) (N:Nat):Prop:=AT prog 176 [.bool] Q N0 .ord (zF prog 176 2) ⟨.str s0::an 5 (.int .i64 n6::.int .i64 n7::an 40 []),[],N,none⟩
def ye (Q:QT [.int .i64]) (N0:Nat) (n3:Int) (a7:Option Addr) (e7:List D) (c7:Nat) (n8 n9:Int) (N:Nat):Prop:=AT prog 157 [.int .i64] Q N0 .ord (zF prog 157 3) ⟨an 3 (.int .i64 n3::an 3 (.sv a7 2 e7 c7::.int .i64 n8::.int .i64 n9::an 9 [])),[],N,none⟩
def yS (Q:QT [.int .i64]) (N0:Nat) (n3:Int) (a7:Option Addr) (e7:List D) (c7:Nat) (n8 n9:Int) (N:Nat):Prop:=AT prog 158 [.int .i64] Q N0 .ord (zF prog 158 3) ⟨an 3 (.int .i64 n3::an 3 (.sv a7 2 e7 c7::.int .i64 n8::.int .i64 n9::an 10 [])),[],N,none⟩
def wT (Q:QT [.ag 2]) (N0:Nat) (a10:Option Addr) (e10:List D) (c10:Nat) (n11 n12 n0_0:Int) (a0_1:Option Addr) (e0_1:List D) (c0_1:Nat) (n1_0:Int) (a1_1:Option Addr) (e1_1:List D) (c1_1:Nat) (N:Nat):Prop:=AT prog 110 [.ag 2] Q N0 .ord (zF prog 110 3) ⟨an 2 (.pb 0 0 0 0::.pb 1 0 0 0::an 6 (.sv a10 2 e10 c10::.int .i64 n11::.int .i64 n12::an 12 [])),[.var [.int .i64 n0_0,.sv a0_1 2 e0_1 c0_1],.var [.int .i64 n1_0,.sv a1_1 2 e1_1 c1_1]],N,none⟩
def zQ (Q:QT [.bool]) (N0:Nat) (a1:Option Addr) (e1:List D) (c1:Nat) (a15:Option Addr) (e15:List D) (c15:Nat) (n16 n17:Int) (N:Nat):Prop:=AT prog 178 [.bool] Q N0 .ord (zF prog 178 4) ⟨an 1 (.sv a1 2 e1 c1::.fn 143 []::an 12 (.sv a15 2 e15 c15::.int .i64 n16::.int .i64 n17::an 14 [])),[],N,none⟩
def yU (Q:QT [.ag 2]) (N0:Nat) (a10:Option Addr) (e10:List D) (c10:Nat) (n11 n12 n0_0:Int) (a0_1:Option Addr) (e0_1:List D) (c0_1:Nat) (n1_0:Int) (m1_1 c1_1:Nat) (r2:List D) (q2:Nat) (N:Nat):Prop:=AT prog 110 [.ag 2] Q N0 .ord (zF prog 110 3) ⟨an 2 (.pb 0 0 0 0::.pb 1 0 0 0::an 6 (.sv a10 2 e10 c10::.int .i64 n11::.int .i64 n12::an 12 [])),[.var [.int .i64 n0_0,.sv a0_1 2 e0_1 c0_1],.var [.int .i64 n1_0,.sb 2 2 0 m1_1 c1_1],.arr 31 2 r2 q2],N,none⟩
def zh (Q:QT [.int .i64]) (N0:Nat) (a0:Option Addr) (e0:List D) (c0:Nat) (a1_0:Addr) (n7 n8:Int) (N:Nat):Prop:=AT prog 185 [.int .i64] Q N0 .ord (zF prog 185 2) ⟨.sv a0 2 e0 c0::.fn 161 [.pd a1_0 0 (.fn 159 [])]::an 5 (.int .i64 n7::.int .i64 n8::an 10 []),[],N,none⟩
def zi (Q:QT [.int .i64]) (N0:Nat) (a0:Option Addr) (e0:List D) (c0:Nat) (a1_0:Addr) (n7 n8:Int) (N:Nat):Prop:=AT prog 156 [.int .i64] Q N0 .ord (zF prog 156 2) ⟨.sv a0 9 e0 c0::.fn 124 [.pd a1_0 0 (.fn 106 [])]::an 5 (.int .i64 n7::.int .i64 n8::an 10 []),[],N,none⟩
theorem zF0 (N:Nat) (n0 n1 n2:Int) (Q:QT [.bool]) (h :
Br (decide (n1≤n0)) (∀ a,N≤a→Q (decide (n0≤n2)) a) (∀ a,N≤a→Q false a)):ACalls prog 56 [.bool] [PV.int .i64 n0,PV.int .i64 n1,PV.int .i64 n2] N Q:=
 eE (H:=zFM) (by kernel_rfl) (by kernel_rfl) h
theorem ru (N:Nat) (a0:Option Addr) (e0:List D) (c0:Nat) (s1:ByteArray) (Q:QT [.int .i64]) (h :
Bel N (D.sl a0 0 e0 c0)→yM Q N a0 e0 c0 s1 (e0.length:Int) 0 N):ACalls prog 165 [.int .i64] [PV.sv a0 0 e0 c0,PV.str s1] N Q:=
 eE (H:=vK) (by kernel_rfl) (by kernel_rfl) h
theorem tZ (N:Nat) (a0:Option Addr) (e0:List D) (c0:Nat) (s1:ByteArray) (Q:QT [.bool]) (h :
Bel N (D.sl a0 0 e0 c0)→∀ a,N≤a→ACalls prog 165 [.int .i64] [.sv a0 0 e0 c0,.str s1] a (fun n b=>a≤b→∀ a,b≤a→Q (decide (n ≥
 0)) a)):ACalls prog 131 [.bool] [PV.sv a0 0 e0 c0,PV.str s1] N Q:=
  eE (H:=tc) (by kernel_rfl) (by kernel_rfl) h
theorem zEq (N:Nat) (s0:ByteArray) (Q:QT [.bool]) (h :
yZ Q N s0 (s0.size:Int) 0 N):ACalls prog 176 [.bool] [PV.str s0] N Q:=
 eE (H:=pF) (by kernel_rfl) (by kernel_rfl) h
theorem pe (N:Nat) (x0:D) (Q:QT [.int .i64]) (h :
Bel N x0→∃ a b,∃ c:Nat,(x0.cell 1)=D.sl a 2 b c∧ye Q N 1 a b c (b.length:Int) 0 N):ACalls prog 157 [.int .i64] [PV.dg 2 x0] N Q:=
 eE (H:=uf) (by kernel_rfl) (by kernel_rfl) h
theorem pA (N:Nat) (x0:D) (Q:QT [.int .i64]) (h :
Bel N x0→∃ a b,∃ c:Nat,(x0.cell 1)=D.sl a 2 b c∧yS Q N 0 a b c (b.length:Int) 0 N):ACalls prog 158 [.int .i64] [PV.dg 2 x0] N Q:=
 eE (H:=uK) (by kernel_rfl) (by kernel_rfl) h
theorem rM (N:Nat) (x0:D) (Q:QT [.bool]) (h :
Bel N x0→∃ n:Int,(x0.cell 0)=D.lit (.int .i64 n)∧∀ d,N≤d→ACalls prog 56 [.bool] [.int .i64 n,.int .i64 1,.int .i64 4] d (fun b e=>d ≤
 e→Br b (∃ a b,∃ c:Nat,(x0.cell 1)=D.sl a 2 b c∧∃ a:Int,(x0.cell 0)=D.lit (.int .i64 a)∧(0≤IntKind.i64.wrap (a - 1)∧IntKind.i64.wrap
 (a - 1)<4∧(0+(IntKind.i64.wrap (a - 1)).toNat:Nat)<4)∧(0+(IntKind.i64.wrap (a - 1)).toNat:Nat)<4∧∃ c:Int,List.getD [D.lit (.int .i64
 0),D.lit (.int .i64 0),D.lit (.int .i64 2),D.lit (.int .i64 1)] (0+(IntKind.i64.wrap (a - 1)).toNat:Nat) default=D.lit (.int .i64 c)∧∀ a,e ≤
 a→Q ((b.length:Int)==c) a) (∀ a,e≤a→Q false a))):ACalls prog 159 [.bool] [PV.dg 2 x0] N Q:=
  eE (H:=rO) (by kernel_rfl) (by kernel_rfl) h
theorem pH (N:Nat) (x0:D) (Q:QT [.bool]) (h :
Bel N x0→∀ a,N≤a→ACalls prog 157 [.int .i64] [.dg 2 x0] a (fun n c=>a≤c→Br (decide (n≤30)) (∀ a,c≤a→ACalls prog 158 [.int .i64]
 [.dg 2 x0] a (fun c d=>a≤d→Br (decide (c≤8)) (∀ a,d≤a→ACalls prog 126 [.bool] [.dg 2 x0,.fn 159 []] a (fun b c=>a≤c →
 ∀ a,c≤a→Q b a)) (∀ a,d≤a→Q false a))) (∀ a,c≤a→Q false a))):ACalls prog 125 [.bool] [PV.dg 2 x0] N Q:=
  eE (H:=ql) (by kernel_rfl) (by kernel_rfl) h
theorem zDq (N:Nat) (s0:ByteArray) (Q:QT [.int .i64]) (h :
Br (ByteArray.toList s0==ByteArray.toList (bytes [43])) (∀ a,N≤a→Q 2 a) (Br (ByteArray.toList s0==ByteArray.toList (bytes [45])) (∀ a,N≤a →
 Q 2 a) (Br (ByteArray.toList s0==ByteArray.toList (bytes [42])) (∀ a,N≤a→Q 2 a) (Br (ByteArray.toList s0==ByteArray.toList (bytes [61])) (∀ a,
 N≤a→Q 2 a) (Br (ByteArray.toList s0==ByteArray.toList (bytes [60])) (∀ a,N≤a→Q 2 a) (Br (ByteArray.toList s0==ByteArray.toList (bytes [38]))
 (∀ a,N≤a→Q 2 a) (Br (ByteArray.toList s0==ByteArray.toList (bytes [124])) (∀ a,N≤a→Q 2 a) (Br (ByteArray.toList s0==ByteArray.toList (bytes
 [33])) (∀ a,N≤a→Q 1 a) (∀ a,N≤a→Q 0 a))))))))):ACalls prog 175 [.int .i64] [PV.str s0] N Q:=
  eE (H:=zDp) (by kernel_rfl) (by kernel_rfl) h
theorem zGA (N:Nat) (x0:D) (Q:QT [.int .i64]) (h :
Bel N x0→∃ n:Int,(x0.cell 0)=D.lit (.int .i64 n)∧Br (n==4) (∃ s,(x0.cell 1)=D.lit (.string s)∧∀ a,N≤a→ACalls prog 175 [.int .i64] [.str
 s] a (fun b c=>a≤c→∀ a,c≤a→Q b a)) (Br (n==5) (∀ a,N≤a→Q 3 a) (Br (n==7) (∀ a,N≤a→Q 2 a) (Br (n==8) (∀
 a,N≤a→Q 2 a) (Br (n==6) (∀ a,N≤a→Q 1 a) (Br (n==9) (∀ a,N≤a→Q 1 a) (Br (n==10) (∀ a,N≤a→Q 1 a) (Br (n==11) (∀
 a,N≤a→Q 1 a) (Br (n==12) (∀ a,N≤a→Q 1 a) (Br (n==13) (∀ a,N≤a→Q 1 a) (∀ a,N≤a→Q 0 a))))))))))):ACalls prog 141 [.int .i64] [PV.dg 9 x0] N Q:=
  eE (H:=zGZ) (by kernel_rfl) (by kernel_rfl) h
theorem zCw (N:Nat) (n0:Int) (Q:QT [.bool]) (h :
∀ a,N≤a→ACalls prog 56 [.bool] [.int .i64 n0,.int .i64 0,.int .i64 10006] a (fun b c=>a≤c→∀ a,c≤a→Q b a)):ACalls prog 177 [.bool] [PV.int .i64 n0] N Q:=
  eE (H:=zBw) (by kernel_rfl) (by kernel_rfl) h
theorem zDx (N:Nat) (x0:D) (Q:QT [.bool]) (h :
Bel N x0→∃ n:Int,(x0.cell 0)=D.lit (.int .i64 n)∧Br (n==1) (∃ s,(x0.cell 1)=D.lit (.string s)∧∀ a,N≤a→ACalls prog 176 [.bool] [.str s] a
 (fun b c=>a≤c→∀ a,c≤a→Q b a)) (Br (n==8) (∃ a,(x0.cell 1)=D.lit (.string a)∧∀ b,N≤b→ACalls prog 176 [.bool] [.str a]
 b (fun a c=>b≤c→∀ b,c≤b→Q a b)) (Br (n==2) (∃ a:Int,(x0.cell 3)=D.lit (.int .i64 a)∧∀ b,N≤b→ACalls prog 177
 [.bool] [.int .i64 a] b (fun a c=>b≤c→∀ b,c≤b→Q a b)) (Br (n==3) (∃ a:Int,(x0.cell 3)=D.lit (.int .i64 a)∧∀ b,N
 ≤ b→ACalls prog 56 [.bool] [.int .i64 a,.int .i64 0,.int .i64 1] b (fun a c=>b≤c→∀ b,c≤b→Q a b)) (Br (n==4) (∃
 a,(x0.cell 1)=D.lit (.string a)∧∀ b,N≤b→ACalls prog 175 [.int .i64] [.str a] b (fun a c=>b≤c→∀ b,c≤b→Q (decide
 (a>0)) b)) (Br (n==6) (∃ a,(x0.cell 1)=D.lit (.string a)∧∀ b,N≤b→ACalls prog 176 [.bool] [.str a] b (fun a c=>b≤c
 → Br a (∀ a,c≤a→ACalls prog 125 [.bool] [.dg 2 (D.sub x0 4 2)] a (fun b c=>a≤c→∀ a,c≤a→Q b a)) (∀ a,c
 ≤ a→Q false a))) (Br (n==9) (∃ a,(x0.cell 1)=D.lit (.string a)∧∀ b,N≤b→ACalls prog 176 [.bool] [.str a] b (fun a c=>b
 ≤ c→Br a (∃ a,(x0.cell 2)=D.lit (.string a)∧∀ b,c≤b→ACalls prog 176 [.bool] [.str a] b (fun a c=>b≤c→Br a (∃
 a,(x0.cell 1)=D.lit (.string a)∧∃ b,(x0.cell 2)=D.lit (.string b)∧Br (!(ByteArray.toList a==ByteArray.toList b)) (∀ a,c≤a→ACalls
 prog 125 [.bool] [.dg 2 (D.sub x0 4 2)] a (fun b c=>a≤c→Br b (∀ a,c≤a→ACalls prog 125 [.bool] [.dg 2 (D.sub x0 6 2)] a (fun
 b c=>a≤c→∀ a,c≤a→Q b a)) (∀ a,c≤a→Q false a))) (∀ a,c≤a→Q false a)) (∀ a,c≤a →
 Q false a))) (∀ a,c≤a→Q false a))) (∃ a:Int,(x0.cell 0)=D.lit (.int .i64 a)∧∀ b,N≤b→ACalls prog 56 [.bool] [.int .i64 a,
 .int .i64 1,.int .i64 13] b (fun a c=>b≤c→∀ b,c≤b→Q a b))))))))):ACalls prog 142 [.bool] [PV.dg 9 x0] N Q:=
  eE (H:=zD1) (by kernel_rfl) (by kernel_rfl) h
theorem zAf (N:Nat) (x0 x1:D) (Q:QT [.bool]) (h :
Bel N x0→Bel N x1→∃ n:Int,(x0.cell 0)=D.lit (.int .i64 n)∧∃ d:Int,(x1.cell 0)=D.lit (.int .i64 d)∧Br (n==d) (∃ a d,∃ c:Nat,(x0.cell
 1)=D.sl a 2 d c∧∃ e f,∃ g:Nat,(x1.cell 1)=D.sl e 2 f g∧∀ h,N≤h→ACalls prog 178 [.bool] [.sv a 2 d c,.sv e 2 f g,.fn
 143 []] h (fun b a=>h≤a→∀ c,a≤c→Q b c)) (∀ a,N≤a→Q false a)):ACalls prog 143 [.bool] [PV.dg 2 x0,PV.dg 2 x1] N Q:=
  eE (H:=zBF) (by kernel_rfl) (by kernel_rfl) h
theorem zFL (N:Nat) (x0:D) (Q:QT [.bool]) (h :
Bel N x0→∃ a d,∃ c:Nat,(x0.cell 8)=D.sl a 9 d c∧∀ a,N≤a→ACalls prog 141 [.int .i64] [.dg 9 x0] a (fun n c=>a≤c→Br (bne (d.length
 : Int) n) (∀ a,c≤a→Q false a) (∃ a:Int,(x0.cell 0)=D.lit (.int .i64 a)∧∃ a:Int,(x0.cell 0)=D.lit (.int .i64 a)∧Br (a==1) (∃
 s,(x0.cell 1)=D.lit (.string s)∧∀ a,c≤a→ACalls prog 142 [.bool] [.dg 9 x0] a (fun b c=>a≤c→Br b (∃ a,(x0.cell 1)=D.lit (.string
 a)∧Br (ByteArray.toList a==ByteArray.toList s) (∃ a,(x0.cell 2)=D.lit (.string a)∧Br (ByteArray.toList a==ByteArray.toList (bytes [])) (∃ a
 : Int,(x0.cell 3)=D.lit (.int .i64 a)∧Br (a==0) (∀ a,c≤a→ACalls prog 143 [.bool] [.dg 2 (D.sub x0 4 2),.dg 2 (D.ag [D.lit (.int .i64 0),D.sl
 Option.none 2 [] 0])] a (fun b c=>a≤c→Br b (∀ a,c≤a→ACalls prog 143 [.bool] [.dg 2 (D.sub x0 6 2),.dg 2 (D.ag [D.lit (.int .i64 0),
 D.sl Option.none 2 [] 0])] a (fun b c=>a≤c→∀ a,c≤a→Q b a)) (∀ a,c≤a→Q false a))) (∀ a,c≤a→Q false
 a)) (∀ a,c≤a→Q false a)) (∀ a,c≤a→Q false a)) (∀ a,c≤a→Q false a))) (Br (a==8) (∃ a,(x0.cell 1)=D.lit
 (.string a)∧∀ b,c≤b→ACalls prog 142 [.bool] [.dg 9 x0] b (fun c d=>b≤d→Br c (∃ b,(x0.cell 1)=D.lit (.string b)∧Br
 (ByteArray.toList b==ByteArray.toList a) (∃ a,(x0.cell 2)=D.lit (.string a)∧Br (ByteArray.toList a==ByteArray.toList (bytes [])) (∃ a:Int,
 (x0.cell 3)=D.lit (.int .i64 a)∧Br (a==0) (∀ a,d≤a→ACalls prog 143 [.bool] [.dg 2 (D.sub x0 4 2),.dg 2 (D.ag [D.lit (.int .i64 0),D.sl
 Option.none 2 [] 0])] a (fun b c=>a≤c→Br b (∀ a,c≤a→ACalls prog 143 [.bool] [.dg 2 (D.sub x0 6 2),.dg 2 (D.ag [D.lit (.int .i64
 0),D.sl Option.none 2 [] 0])] a (fun b c=>a≤c→∀ a,c≤a→Q b a)) (∀ a,c≤a→Q false a))) (∀ a,d≤a
 → Q false a)) (∀ a,d≤a→Q false a)) (∀ a,d≤a→Q false a)) (∀ a,d≤a→Q false a))) (Br (a==2) (∃ a:Int,
 (x0.cell 3)=D.lit (.int .i64 a)∧∀ b,c≤b→ACalls prog 142 [.bool] [.dg 9 x0] b (fun c d=>b≤d→Br c (∃ b,(x0.cell 1)=D.lit
 (.string b)∧Br (ByteArray.toList b==ByteArray.toList (bytes [])) (∃ b,(x0.cell 2)=D.lit (.string b)∧Br (ByteArray.toList b==ByteArray.toList
 (bytes [])) (∃ b:Int,(x0.cell 3)=D.lit (.int .i64 b)∧Br (b==a) (∀ a,d≤a→ACalls prog 143 [.bool] [.dg 2 (D.sub x0 4 2),.dg 2 (D.ag
 [D.lit (.int .i64 0),D.sl Option.none 2 [] 0])] a (fun b c=>a≤c→Br b (∀ a,c≤a→ACalls prog 143 [.bool] [.dg 2 (D.sub x0 6 2),
 .dg 2 (D.ag [D.lit (.int .i64 0),D.sl Option.none 2 [] 0])] a (fun b c=>a≤c→∀ a,c≤a→Q b a)) (∀ a,c≤a→Q false
 a))) (∀ a,d≤a→Q false a)) (∀ a,d≤a→Q false a)) (∀ a,d≤a→Q false a)) (∀ a,d≤a→Q false a)))
 (Br (a==3) (∃ a:Int,(x0.cell 3)=D.lit (.int .i64 a)∧∀ b,c≤b→ACalls prog 142 [.bool] [.dg 9 x0] b (fun c d=>b≤d→Br
 c (∃ b,(x0.cell 1)=D.lit (.string b)∧Br (ByteArray.toList b==ByteArray.toList (bytes [])) (∃ b,(x0.cell 2)=D.lit (.string b)∧Br (ByteArray.toList
 b==ByteArray.toList (bytes [])) (∃ b:Int,(x0.cell 3)=D.lit (.int .i64 b)∧Br (b==a) (∀ a,d≤a→ACalls prog 143 [.bool] [.dg 2 (D.sub
 x0 4 2),.dg 2 (D.ag [D.lit (.int .i64 0),D.sl Option.none 2 [] 0])] a (fun b c=>a≤c→Br b (∀ a,c≤a→ACalls prog 143 [.bool]
 [.dg 2 (D.sub x0 6 2),.dg 2 (D.ag [D.lit (.int .i64 0),D.sl Option.none 2 [] 0])] a (fun b c=>a≤c→∀ a,c≤a→Q b a)) (∀ a,
 c≤a→Q false a))) (∀ a,d≤a→Q false a)) (∀ a,d≤a→Q false a)) (∀ a,d≤a→Q false a)) (∀ a,d≤a
 → Q false a))) (Br (a==4) (∃ a,(x0.cell 1)=D.lit (.string a)∧∀ b,c≤b→ACalls prog 142 [.bool] [.dg 9 x0] b (fun c d=>b
 ≤ d→Br c (∃ b,(x0.cell 1)=D.lit (.string b)∧Br (ByteArray.toList b==ByteArray.toList a) (∃ a,(x0.cell 2)=D.lit (.string a) ∧
 Br (ByteArray.toList a==ByteArray.toList (bytes [])) (∃ a:Int,(x0.cell 3)=D.lit (.int .i64 a)∧Br (a==0) (∀ a,d≤a→ACalls prog 143
 [.bool] [.dg 2 (D.sub x0 4 2),.dg 2 (D.ag [D.lit (.int .i64 0),D.sl Option.none 2 [] 0])] a (fun b c=>a≤c→Br b (∀ a,c≤a→ACalls
 prog 143 [.bool] [.dg 2 (D.sub x0 6 2),.dg 2 (D.ag [D.lit (.int .i64 0),D.sl Option.none 2 [] 0])] a (fun b c=>a≤c→∀ a,c≤a→Q
 b a)) (∀ a,c≤a→Q false a))) (∀ a,d≤a→Q false a)) (∀ a,d≤a→Q false a)) (∀ a,d≤a→Q false a))
 (∀ a,d≤a→Q false a))) (Br (a==6) (∃ a,(x0.cell 1)=D.lit (.string a)∧∀ b,c≤b→ACalls prog 142 [.bool] [.dg 9 x0] b
 (fun c d=>b≤d→Br c (∃ b,(x0.cell 1)=D.lit (.string b)∧Br (ByteArray.toList b==ByteArray.toList a) (∃ a,(x0.cell 2) =
 D.lit (.string a)∧Br (ByteArray.toList a==ByteArray.toList (bytes [])) (∃ a:Int,(x0.cell 3)=D.lit (.int .i64 a)∧Br (a==0) (∀ a,d
 ≤ a→ACalls prog 143 [.bool] [.dg 2 (D.sub x0 4 2),.dg 2 (D.ag [D.cell (D.sub x0 4 2) 0,D.cell (D.sub x0 4 2) 1])] a (fun b c=>a≤c→Br
 b (∀ a,c≤a→ACalls prog 143 [.bool] [.dg 2 (D.sub x0 6 2),.dg 2 (D.ag [D.lit (.int .i64 0),D.sl Option.none 2 [] 0])] a (fun b c=>a
 ≤ c→∀ a,c≤a→Q b a)) (∀ a,c≤a→Q false a))) (∀ a,d≤a→Q false a)) (∀ a,d≤a→Q false a)) (∀
 a,d≤a→Q false a)) (∀ a,d≤a→Q false a))) (Br (a==9) (∃ a,(x0.cell 1)=D.lit (.string a)∧∃ b,(x0.cell 2)=D.lit
 (.string b)∧∀ d,c≤d→ACalls prog 142 [.bool] [.dg 9 x0] d (fun c e=>d≤e→Br c (∃ c,(x0.cell 1)=D.lit (.string c)
 ∧ Br (ByteArray.toList c==ByteArray.toList a) (∃ a,(x0.cell 2)=D.lit (.string a)∧Br (ByteArray.toList a==ByteArray.toList b) (∃ a :
 Int,(x0.cell 3)=D.lit (.int .i64 a)∧Br (a==0) (∀ a,e≤a→ACalls prog 143 [.bool] [.dg 2 (D.sub x0 4 2),.dg 2 (D.ag [D.cell (D.sub x0 4
 2) 0,D.cell (D.sub x0 4 2) 1])] a (fun b c=>a≤c→Br b (∀ a,c≤a→ACalls prog 143 [.bool] [.dg 2 (D.sub x0 6 2),.dg 2 (D.ag [D.cell
 (D.sub x0 6 2) 0,D.cell (D.sub x0 6 2) 1])] a (fun b c=>a≤c→∀ a,c≤a→Q b a)) (∀ a,c≤a→Q false a))) (∀ a,
 e≤a→Q false a)) (∀ a,e≤a→Q false a)) (∀ a,e≤a→Q false a)) (∀ a,e≤a→Q false a))) (∀ a,c≤a
 → ACalls prog 142 [.bool] [.dg 9 x0] a (fun b c=>a≤c→Br b (∃ a,(x0.cell 1)=D.lit (.string a)∧Br (ByteArray.toList a==ByteArray.toList
 (bytes [])) (∃ a,(x0.cell 2)=D.lit (.string a)∧Br (ByteArray.toList a==ByteArray.toList (bytes [])) (∃ a:Int,(x0.cell 3)=D.lit (.int .i64
 a)∧Br (a==0) (∀ a,c≤a→ACalls prog 143 [.bool] [.dg 2 (D.sub x0 4 2),.dg 2 (D.ag [D.lit (.int .i64 0),D.sl Option.none 2 [] 0])] a (fun
 b c=>a≤c→Br b (∀ a,c≤a→ACalls prog 143 [.bool] [.dg 2 (D.sub x0 6 2),.dg 2 (D.ag [D.lit (.int .i64 0),D.sl Option.none 2 []
 0])] a (fun b c=>a≤c→∀ a,c≤a→Q b a)) (∀ a,c≤a→Q false a))) (∀ a,c≤a→Q false a)) (∀ a,
 c≤a→Q false a)) (∀ a,c≤a→Q false a)) (∀ a,c≤a→Q false a)))))))))))):ACalls prog 106 [.bool] [PV.dg 9 x0] N Q:=
  eE (H:=zFB) (by kernel_rfl) (by kernel_rfl) h
theorem zFa (N:Nat) (x0:D) (Q:QT [.bool]) (h :
Bel N x0→∀ a,N≤a→ACalls prog 93 [.bool] [.dg 9 x0,.fn 106 []] a (fun b c=>a≤c→∀ a,c≤a→Q b a)):ACalls prog 72 [.bool] [PV.dg 9 x0] N Q:=
 eE (H:=zFm) (by kernel_rfl) (by kernel_rfl) h
theorem zCM (N:Nat) (x0:D) (Q:QT [.ag 2]) (h :
Bel N x0→∃ n:Int,(x0.cell 0)=D.lit (.int .i64 n)∧∃ a b,∃ c:Nat,(x0.cell 1)=D.sl a 2 b c∧wT Q N a b c (b.length:Int) 0 0 Option.none
 [] 0 n Option.none [] 0 N):ACalls prog 110 [.ag 2] [PV.dg 2 x0] N Q:=
  eE (H:=vT) (by kernel_rfl) (by kernel_rfl) h
theorem wg (Q:QT [.int .i64]) (N0:Nat) (a0:Option Addr) (e0:List D) (c0:Nat) (s1:ByteArray) (n7 n8:Int) (N:Nat) (h :
Br (decide (n8<n7)) ((0≤n8∧n8<(e0.length:Int))∧∃ s,List.getD e0 n8.toNat default=D.lit (.string s)∧Br (ByteArray.toList s1==ByteArray.toList s)
 (∀ a,N≤a→Q n8 a) (yM Q N0 a0 e0 c0 s1 n7 (IntKind.i64.wrap (n8+1)) N)) (∀ a,N≤a→Q (-1) a)):yM Q N0 a0 e0 c0 s1 n7 n8 N:=
  hE (H:=vK) (by kernel_rfl) h
theorem tm (Q:QT [.bool]) (N0:Nat) (s0:ByteArray) (n6 n7:Int) (N:Nat) (h :
Br (decide (n7<n6)) ((0≤n7∧n7<(s0.size:Int))∧Br (decide ((UInt8.toNat (Array.getD (ByteArray.data s0) n7.toNat (OfNat.ofNat 0)):Int)≥97)) ((0≤n7
 ∧ n7<(s0.size:Int))∧Br (!(decide ((UInt8.toNat (Array.getD (ByteArray.data s0) n7.toNat (OfNat.ofNat 0)):Int)≤122))) (Br (n7==0) (∀ a,N≤a→Q
 false a) ((0≤n7∧n7<(s0.size:Int))∧Br (decide ((UInt8.toNat (Array.getD (ByteArray.data s0) n7.toNat (OfNat.ofNat 0)):Int)<48)) (∀ a,N≤a →
 Q false a) ((0≤n7∧n7<(s0.size:Int))∧Br (decide ((UInt8.toNat (Array.getD (ByteArray.data s0) n7.toNat (OfNat.ofNat 0)):Int)>57)) (∀ a,N≤a
 → Q false a) (yZ Q N0 s0 n6 (IntKind.i64.wrap (n7+1)) N)))) (yZ Q N0 s0 n6 (IntKind.i64.wrap (n7+1)) N)) (Br (n7==0) (∀ a,N
 ≤ a→Q false a) ((0≤n7∧n7<(s0.size:Int))∧Br (decide ((UInt8.toNat (Array.getD (ByteArray.data s0) n7.toNat (OfNat.ofNat 0)):Int)<48)) (∀ a,
 N≤a→Q false a) ((0≤n7∧n7<(s0.size:Int))∧Br (decide ((UInt8.toNat (Array.getD (ByteArray.data s0) n7.toNat (OfNat.ofNat 0)):Int)>57)) (∀ a,
 N≤a→Q false a) (yZ Q N0 s0 n6 (IntKind.i64.wrap (n7+1)) N))))) (∀ c,N≤c→ACalls prog 56 [.bool] [.int .i64 (s0.size:Int),.int .i64
 1,.int .i64 4] c (fun b d=>c≤d→Br b ((5=5∧5=5)∧∀ a,ApA a [D.lit (.string (bytes [105,102])),D.lit (.string (bytes [108,101,116])),D.lit
 (.string (bytes [108,105,102,116])),D.lit (.string (bytes [114,101,99])),D.lit (.string (bytes [114,117,110]))]→∀ b,d≤b→tL b [a]→ACalls
 prog 131 [.bool] [.sv a 0 [D.lit (.string (bytes [105,102])),D.lit (.string (bytes [108,101,116])),D.lit (.string (bytes [108,105,102,116])),D.lit (.string
 (bytes [114,101,99])),D.lit (.string (bytes [114,117,110]))] 5,.str s0] b (fun a c=>b≤c→∀ b,c≤b→Q (!a) b)) (∀ a,d
 ≤ a→Q false a)))):yZ Q N0 s0 n6 n7 N:=
  hE (H:=pF) (by kernel_rfl) h
theorem vk (Q:QT [.int .i64]) (N0:Nat) (n3:Int) (a7:Option Addr) (e7:List D) (c7:Nat) (n8 n9:Int) (N:Nat) (h :
Br (decide (n9<n8)) ((0≤n9∧n9<(e7.length:Int))∧∀ a,N≤a→ACalls prog 157 [.int .i64] [.dg 2 (List.getD e7 n9.toNat default)] a (fun n b=>
 a≤b→ye Q N0 (IntKind.i64.wrap (n3+n)) a7 e7 c7 n8 (IntKind.i64.wrap (n9+1)) b)) (∀ a,N≤a→Q n3 a)):ye Q N0 n3 a7 e7 c7 n8 n9 N:=
  hE (H:=uf) (by kernel_rfl) h
theorem wz (Q:QT [.int .i64]) (N0:Nat) (n3:Int) (a7:Option Addr) (e7:List D) (c7:Nat) (n8 n9:Int) (N:Nat) (h :
Br (decide (n9<n8)) ((0≤n9∧n9<(e7.length:Int))∧∀ a,N≤a→ACalls prog 158 [.int .i64] [.dg 2 (List.getD e7 n9.toNat default)] a (fun n b=>
 a≤b→yS Q N0 (if n>n3 then n else n3) a7 e7 c7 n8 (IntKind.i64.wrap (n9+1)) b)) (∀ a,N≤a→Q (IntKind.i64.wrap (n3+1)) a) 
 ):yS Q N0 n3 a7 e7 c7 n8 n9 N:=
  hE (H:=uK) (by kernel_rfl) h
theorem pG (N:Nat) (x0:D) (Q:QT [.bool]) (h :
Bel N x0→∀ d,N≤d→ACalls prog 159 [.bool] [.dg 2 x0] d (fun b e=>d≤e→Br b (∃ a b,∃ c:Nat,(x0.cell 1)=D.sl a 2 b c∧∀ d,ApA (Option.some
 d) [D.fn (OfNat.ofNat 159) []]→Off [Option.some d] (D.sl a 2 b c)→∀ f,e≤f→tL f [Option.some d]→ACalls prog 160 [.bool] [.sv a 2 b c,.fn
 161 [.pd d 0 (.fn 159 [])]] f (fun a b=>f≤b→∀ c,b≤c→Q (!a) c)) (∀ a,e≤a→Q false a))):ACalls prog 126 [.bool] [.dg 2 x0,.fn 159 []] N Q:=
  eE (H:=zCq) (by kernel_rfl) (by kernel_rfl) h
theorem vu (N:Nat) (a0:Option Addr) (e0:List D) (c0:Nat) (a1:Option Addr) (e1:List D) (c1:Nat) (Q:QT [.bool]) (h :
Bel N (D.sl a0 2 e0 c0)→Bel N (D.sl a1 2 e1 c1)→Br (bne (e0.length:Int) (e1.length:Int)) (∀ a,N≤a→Q false a) (zQ Q N a1
 e1 c1 a0 e0 c0 (e0.length:Int) 0 N)):ACalls prog 178 [.bool] [.sv a0 2 e0 c0,.sv a1 2 e1 c1,.fn 143 []] N Q:=
  eE (H:=xy) (by kernel_rfl) (by kernel_rfl) h
theorem qH (N:Nat) (x0:D) (Q:QT [.bool]) (h :
Bel N x0→∀ d,N≤d→ACalls prog 106 [.bool] [.dg 9 x0] d (fun b e=>d≤e→Br b (∃ a b,∃ c:Nat,(x0.cell 8)=D.sl a 9 b c∧∀ d,ApA (Option.some
 d) [D.fn (OfNat.ofNat 106) []]→Off [Option.some d] (D.sl a 9 b c)→∀ f,e≤f→tL f [Option.some d]→ACalls prog 123 [.bool] [.sv a 9 b c,.fn
 124 [.pd d 0 (.fn 106 [])]] f (fun a b=>f≤b→∀ c,b≤c→Q (!a) c)) (∀ a,e≤a→Q false a))):ACalls prog 93 [.bool] [.dg 9 x0,.fn 106 []] N Q:=
  eE (H:=zCS) (by kernel_rfl) (by kernel_rfl) h
theorem ub (Q:QT [.ag 2]) (N0:Nat) (a10:Option Addr) (e10:List D) (c10:Nat) (n11 n12 n0_0:Int) (a0_1:Option Addr) (e0_1:List D) (c0_1:Nat) (n1_0:Int) (a1_1:Option Addr) (e1_1:List D) (c1_1:Nat) (N:Nat) (h :
Br (decide (n12<n11)) ((0≤n12∧n12<(e10.length:Int))∧∀ a,N≤a→ACalls prog 110 [.ag 2] [.dg 2 (List.getD e10 n12.toNat default)] a (fun x b
 => a≤b→Bel b x→zP2 a1_1 e1_1 c1_1 [x]∧zK e1_1 [x] 32∧∀ (c:Nat),yU Q N0 a10 e10 c10 n11 (IntKind.i64.wrap (n12+1)) n0_0
 a0_1 e0_1 c0_1 n1_0 (e1_1++[x]).length c (e1_1++[x]) c b)) (∀ a,N≤a→Q (D.ag [D.lit (.int .i64 n1_0),D.sl a1_1 2 e1_1 c1_1]) a)):wT Q N0 a10 e10 c10 n11 n12 n0_0 a0_1 e0_1 c0_1 n1_0 a1_1 e1_1 c1_1 N:=
  hE (H:=vT) (by kernel_rfl) h
theorem ws (N:Nat) (a0:Option Addr) (e0:List D) (c0:Nat) (a1_0:Addr) (Q:QT [.bool]) (h :
Bel N (D.sl a0 2 e0 c0)→∀ a,N≤a→ACalls prog 185 [.int .i64] [.sv a0 2 e0 c0,.fn 161 [.pd a1_0 0 (.fn 159 [])]] a (fun n b=>a≤b→∀ a,b
 ≤ a→Q (decide (n≥0)) a)):ACalls prog 160 [.bool] [.sv a0 2 e0 c0,.fn 161 [.pd a1_0 0 (.fn 159 [])]] N Q:=
  eE (H:=vv) (by kernel_rfl) (by kernel_rfl) h
theorem xI (Q:QT [.bool]) (N0:Nat) (a1:Option Addr) (e1:List D) (c1:Nat) (a15:Option Addr) (e15:List D) (c15:Nat) (n16 n17:Int) (N:Nat) (h :
Br (decide (n17<n16)) ((0≤n17∧n17<(e15.length:Int))∧(0≤n17∧n17<(e1.length:Int))∧∀ a,N≤a→ACalls prog 143 [.bool] [.dg 2 (List.getD
 e15 n17.toNat default),.dg 2 (List.getD e1 n17.toNat default)] a (fun b c=>a≤c→Br (!b) (∀ a,c≤a→Q false a) (zQ
 Q N0 a1 e1 c1 a15 e15 c15 n16 (IntKind.i64.wrap (n17+1)) c))) (∀ a,N≤a→Q true a)):zQ Q N0 a1 e1 c1 a15 e15 c15 n16 n17 N:=
  hE (H:=xy) (by kernel_rfl) h
theorem ww (N:Nat) (a0:Option Addr) (e0:List D) (c0:Nat) (a1_0:Addr) (Q:QT [.bool]) (h :
Bel N (D.sl a0 9 e0 c0)→∀ a,N≤a→ACalls prog 156 [.int .i64] [.sv a0 9 e0 c0,.fn 124 [.pd a1_0 0 (.fn 106 [])]] a (fun n b=>a≤b→∀ a,b
 ≤ a→Q (decide (n≥0)) a)):ACalls prog 123 [.bool] [.sv a0 9 e0 c0,.fn 124 [.pd a1_0 0 (.fn 106 [])]] N Q:=
  eE (H:=vt) (by kernel_rfl) (by kernel_rfl) h
theorem w6 (Q:QT [.ag 2]) (N0:Nat) (a10:Option Addr) (e10:List D) (c10:Nat) (n11 n12 n0_0:Int) (a0_1:Option Addr) (e0_1:List D) (c0_1:Nat) (n1_0:Int) (m1_1 c1_1:Nat) (r2:List D) (q2:Nat) (N:Nat) (h :
Br (decide (n12<n11)) ((0≤n12∧n12<(e10.length:Int))∧∀ a,N≤a→ACalls prog 110 [.ag 2] [.dg 2 (List.getD e10 n12.toNat default)] a (fun x b
 => a≤b→Bel b x→(m1_1=r2.length∧c1_1=q2)∧zK r2 [x] 32∧∀ (c:Nat),yU Q N0 a10 e10 c10 n11 (IntKind.i64.wrap (n12+1))
 n0_0 a0_1 e0_1 c0_1 n1_0 (r2++[x]).length c (r2++[x]) c b)) ((m1_1=r2.length∧c1_1=q2)∧(m1_1=r2.length∧c1_1=q2)∧(m1_1=r2.length∧c1_1=q2)
 ∧ ∀ a b,N≤b→Fresh N0 b a [D.ag r2]→∀ c,b≤c→Q (D.ag [D.lit (.int .i64 n1_0),D.sl a 2 r2 q2]) c)):yU Q N0 a10 e10 c10 n11 n12 n0_0 a0_1 e0_1 c0_1 n1_0 m1_1 c1_1 r2 q2 N:=
  hE (H:=vT) (by kernel_rfl) h
theorem vw (N:Nat) (a0:Option Addr) (e0:List D) (c0:Nat) (a1_0:Addr) (Q:QT [.int .i64]) (h :
Bel N (D.sl a0 2 e0 c0)→zh Q N a0 e0 c0 a1_0 (e0.length:Int) 0 N):ACalls prog 185 [.int .i64] [.sv a0 2 e0 c0,.fn 161 [.pd a1_0 0 (.fn 159 [])]] N Q:=
 eE (H:=xq) (by kernel_rfl) (by kernel_rfl) h
theorem vq (N:Nat) (a0:Option Addr) (e0:List D) (c0:Nat) (a1_0:Addr) (Q:QT [.int .i64]) (h :
Bel N (D.sl a0 9 e0 c0)→zi Q N a0 e0 c0 a1_0 (e0.length:Int) 0 N):ACalls prog 156 [.int .i64] [.sv a0 9 e0 c0,.fn 124 [.pd a1_0 0 (.fn 106 [])]] N Q:=
 eE (H:=wD) (by kernel_rfl) (by kernel_rfl) h
theorem xK (Q:QT [.int .i64]) (N0:Nat) (a0:Option Addr) (e0:List D) (c0:Nat) (a1_0:Addr) (n7 n8:Int) (N:Nat) (h :
Br (decide (n8<n7)) ((0≤n8∧n8<(e0.length:Int))∧∀ a,N≤a→ACalls prog 161 [.bool] [.dg 2 (List.getD e0 n8.toNat default),.pd a1_0 0 (.fn 159 [])]
 a (fun b c=>a≤c→Br b (∀ a,c≤a→Q n8 a) (zh Q N0 a0 e0 c0 a1_0 n7 (IntKind.i64.wrap (n8+1)) c))) (∀ a,N ≤
 a→Q (-1) a)):zh Q N0 a0 e0 c0 a1_0 n7 n8 N:=
  hE (H:=xq) (by kernel_rfl) h
theorem xN (Q:QT [.int .i64]) (N0:Nat) (a0:Option Addr) (e0:List D) (c0:Nat) (a1_0:Addr) (n7 n8:Int) (N:Nat) (h :
Br (decide (n8<n7)) ((0≤n8∧n8<(e0.length:Int))∧∀ a,N≤a→ACalls prog 124 [.bool] [.dg 9 (List.getD e0 n8.toNat default),.pd a1_0 0 (.fn 106 [])]
 a (fun b c=>a≤c→Br b (∀ a,c≤a→Q n8 a) (zi Q N0 a0 e0 c0 a1_0 n7 (IntKind.i64.wrap (n8+1)) c))) (∀ a,N ≤
 a→Q (-1) a)):zi Q N0 a0 e0 c0 a1_0 n7 n8 N:=
  hE (H:=wD) (by kernel_rfl) h
theorem rK (N:Nat) (x0:D) (a1:Addr) (Q:QT [.bool]) (h :
Bel N x0→∀ a,N≤a→ACalls prog 126 [.bool] [.dg 2 x0,.fn 159 []] a (fun b c=>a≤c→∀ a,c≤a→Q (!b) a)):ACalls prog 161 [.bool] [.dg 2 x0,.pd a1 0 (.fn 159 [])] N Q:=
 eE (H:=px) (by kernel_rfl) (by kernel_rfl) h
theorem rL (N:Nat) (x0:D) (a1:Addr) (Q:QT [.bool]) (h :
Bel N x0→∀ a,N≤a→ACalls prog 93 [.bool] [.dg 9 x0,.fn 106 []] a (fun b c=>a≤c→∀ a,c≤a→Q (!b) a)):ACalls prog 124 [.bool] [.dg 9 x0,.pd a1 0 (.fn 106 [])] N Q:=
 eE (H:=pU) (by kernel_rfl) (by kernel_rfl) h
end Go.Proofs.YtnpjpplbkoammaaGreatDoor
set_option maxRecDepth 100000
namespace Go.Proofs.YtnpjpplbkoammaaGreatDoor
open Go Go.Proofs Go.Proofs.Tryz
def rV:Hint:=⟨[hc 2 [0,1,5]],[],[]⟩
def xP (Q:QT [.int .i64]) (N0:Nat) (a0:Option Addr) (e0:List D) (c0:Nat) (s1:ByteArray) (n5:Int) (N:Nat):Prop:=AT prog 121 [.int .i64] Q N0 .ord (zF prog 121 2) ⟨.sv a0 0 e0 c0::.str s1::an 3 (.int .i64 n5::an 13 []),[],N,none⟩
theorem zDP (N:Nat) (a0:Option Addr) (e0:List D) (c0:Nat) (s1:ByteArray) (Q:QT [.int .i64]) (h :
Bel N (D.sl a0 0 e0 c0)→xP Q N a0 e0 c0 s1 0 N):ACalls prog 121 [.int .i64] [PV.sv a0 0 e0 c0,PV.str s1] N Q:=
 eE (H:=rV) (by kernel_rfl) (by kernel_rfl) h
theorem tD (Q:QT [.int .i64]) (N0:Nat) (a0:Option Addr) (e0:List D) (c0:Nat) (s1:ByteArray) (n5:Int) (N:Nat) (h :
Br (decide (n5<(e0.length:Int))) ((0≤n5∧n5<(e0.length:Int))∧∃ s,List.getD e0 n5.toNat default=D.lit (.string s)∧Br (ByteArray.toList s==ByteArray.toList
 s1) (∀ a,N≤a→Q n5 a) (xP Q N0 a0 e0 c0 s1 (IntKind.i64.wrap (n5+1)) N)) (∀ a,N≤a→Q (-1) a)):xP Q N0 a0 e0 c0 s1 n5 N:=
  hE (H:=rV) (by kernel_rfl) h
end Go.Proofs.YtnpjpplbkoammaaGreatDoor
