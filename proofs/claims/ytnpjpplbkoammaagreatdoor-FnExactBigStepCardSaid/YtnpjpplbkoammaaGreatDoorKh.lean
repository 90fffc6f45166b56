/- Printed by gen.py: what the functions come to. -/
import Derived.Test.YtnpjpplbkoammaaGreatDoorJh
set_option linter.unusedVariables false
set_option maxRecDepth 100000
namespace Go.Proofs.YtnpjpplbkoammaaGreatDoor
open Go Go.Proofs Go.Proofs.Tryz
def zCW:Hint:=⟨[],[],[]⟩
def zAw:Hint:=⟨[],[],[]⟩
def qC:Hint:=⟨[hc 5 [1,2,4,5,15,16,17]],[],[(11,[en 0,en 1,en 2,en 3,en 4,en 5,en 6,en 7,eh 8,en 9,en 10,en 11,en 12,en 13])]⟩
def zHD:Hint:=⟨[],[],[]⟩
def zDO:Hint:=⟨[],[],[]⟩
def zDl:Hint:=⟨[],[],[]⟩
def zFL:Hint:=⟨[],[],[]⟩
def zKT:Hint:=⟨[],[],[]⟩
def zHe:Hint:=⟨[],[],[(6,hs 8 [ec 1 [25]]),(11,hs 10 [ec 7 [42]]),(15,[en 0,en 1,en 2,en 3,en 4,en 5,en 6,en 7,en 8,en 9,ec 10 [53,59],eh 11,en 12]),(17,[en 0,en 1,en 2,en 3,en 4,en 5,en 6,en 8,en 9,en 10,en 11,en 12,en 13,ec 7 [66,69],ec 14 [70,76],eh 15,en 16]),(19,[en 0,en 1,en 2,en 3,en 4,en 5,en 6,ec 7 [83,86],eh 8,en 9]),(21,hs 8 [ec 1 [91]]),(25,hs 8 [ec 1 [100]])]⟩
def zCP:Hint:=⟨[],[],[]⟩
def qP:Hint:=⟨[hc 11 [1,2,3,6,54,55,56]],[],[(3,hs 3 [ec 1 [31]]),(4,hs 9 [ec 2 [36]]),(5,hs 8 [ec 3 [40]]),(6,hs 8 [ec 1 [46]]),(13,[en 0,en 1,en 2,en 4,en 10,ec 3 [63],ec 5 [62],en 6,en 7,en 8,en 9,eh 11,en 12,en 13]),(15,hs 4 [ec 1 [72]])]⟩
def zDC:Hint:=⟨[hc 7 [1,2,32,33]],[],[(1,hs 2 [ec 1 [11]]),(4,hs 13 [ec 4 [21]]),(5,hs 7 [ec 3 [26]]),(6,hs 3 [ec 1 [31]]),(9,hs 6 [ec 5 [40]]),(10,hs 12 [ec 5 [47]]),(11,hs 4 [ec 1 [51]]),(15,hs 6 [ec 1 [61]])]⟩
def zB8:Hint:=⟨[],[],[(1,hs 8 [ec 5 [8]]),(3,hs 7 [ec 4 [16]])]⟩
def zFr:Hint:=⟨[],[],[(1,hs 13 [ec 10 [13]]),(3,hs 6 [ec 1 [18],ec 2 [19],ec 3 [20]])]⟩
def zCk:Hint:=⟨[],[],[(6,hs 3 [ec 1 [10]]),(8,hs 10 [ec 1 [14],ec 7 [20]])]⟩
def qS:Hint:=⟨[],[],[(1,hs 9 [ec 2 [5],ec 6 [9]])]⟩
def rY:Hint:=⟨[],[],[]⟩
def rn:Hint:=⟨[hc 4 [1,2,3,15,16,17]],[],[(1,hs 5 [ec 3 [10]]),(6,[en 0,en 1,en 2,en 4,ec 3 [22],ec 5 [21],en 6])]⟩
def yK (Q:QT [.ag 9,.bool]) (N0:Nat) (n4:Int) (m5 c5:Nat) (a15:Option Addr) (e15:List D) (c15:Nat) (n16 n17:Int) (y0:D) (n1_0:Int) (s1_1 s1_2:ByteArray) (n1_3 n1_4:Int) (a1_5:Option Addr) (e1_5:List D) (c1_5:Nat) (n1_6:Int) (a1_7:Option Addr) (e1_7:List D) (c1_7:Nat) (a1_8:Option Addr) (e1_8:List D) (c1_8:Nat) (r2:List D) (q2:Nat) (N:Nat):Prop:=AT prog 111 [.ag 9,.bool] Q N0 .ord (zF prog 111 5) ⟨an 1 (.pb 0 0 0 0::.pb 1 0 0 0::an 1 (.int .i64 n4::.sb 2 0 0 m5 c5::an 9 (.sv a15 9 e15 c15::.int .i64 n16::.int .i64 n17::an 33 []))),[.vd y0 9,.var [.int .i64 n1_0,.str s1_1,.str s1_2,.int .i64 n1_3,.int .i64 n1_4,.sv a1_5 2 e1_5 c1_5,.int .i64 n1_6,.sv a1_7 2 e1_7 c1_7,.sv a1_8 9 e1_8 c1_8],.arr 3 0 r2 q2],N,none⟩
def vK (Q:QT [.ag 9,.int .i64]) (N0:Nat) (n32 n33:Int) (y0:D) (n1_0:Int) (s1_1 s1_2:ByteArray) (n1_3 n1_4:Int) (a1_5:Option Addr) (e1_5:List D) (c1_5:Nat) (n1_6:Int) (a1_7:Option Addr) (e1_7:List D) (c1_7:Nat) (a1_8:Option Addr) (e1_8:List D) (c1_8:Nat) (N:Nat):Prop:=AT prog 41 [.ag 9,.int .i64] Q N0 .ord (zF prog 41 7) ⟨an 1 (.pb 0 0 0 0::.pb 1 0 0 0::an 29 (.int .i64 n32::.int .i64 n33::an 31 [])),[.vd y0 9,.var [.int .i64 n1_0,.str s1_1,.str s1_2,.int .i64 n1_3,.int .i64 n1_4,.sv a1_5 2 e1_5 c1_5,.int .i64 n1_6,.sv a1_7 2 e1_7 c1_7,.sv a1_8 9 e1_8 c1_8]],N,none⟩
def yM (Q:QT [.ag 9,.int .i64,.bool]) (N0:Nat) (n1:Int) (a54:Option Addr) (e54:List D) (c54:Nat) (n55 n56:Int) (y0:D) (n1_0:Int) (s1_1 s1_2:ByteArray) (n1_3 n1_4:Int) (a1_5:Option Addr) (e1_5:List D) (c1_5:Nat) (n1_6:Int) (a1_7:Option Addr) (e1_7:List D) (c1_7:Nat) (a1_8:Option Addr) (e1_8:List D) (c1_8:Nat) (N:Nat):Prop:=AT prog 77 [.ag 9,.int .i64,.bool] Q N0 .ord (zF prog 77 11) ⟨an 1 (.int .i64 n1::.fn 41 []::.pb 0 0 0 0::an 2 (.pb 1 0 0 0::an 47 (.sv a54 9 e54 c54::.int .i64 n55::.int .i64 n56::an 26 []))),[.vd y0 9,.var [.int .i64 n1_0,.str s1_1,.str s1_2,.int .i64 n1_3,.int .i64 n1_4,.sv a1_5 2 e1_5 c1_5,.int .i64 n1_6,.sv a1_7 2 e1_7 c1_7,.sv a1_8 9 e1_8 c1_8]],N,none⟩
def xg (Q:QT [.bool]) (N0:Nat) (n1:Int) (a15:Option Addr) (e15:List D) (c15:Nat) (n16 n17:Int) (y0:D) (N:Nat):Prop:=AT prog 73 [.bool] Q N0 .ord (zF prog 73 4) ⟨an 1 (.int .i64 n1::.fn 144 []::.pb 0 0 0 0::an 11 (.sv a15 9 e15 c15::.int .i64 n16::.int .i64 n17::an 11 [])),[.vd y0 9],N,none⟩
theorem zBe (N:Nat) (s0:ByteArray) (Q:QT [.bool]) (h :
Br (ByteArray.toList s0==ByteArray.toList (bytes [38])) (∀ a,N≤a→Q true a) (Br (ByteArray.toList s0==ByteArray.toList (bytes [124])) (∀ a,N≤a
 → Q true a) (∀ a,N≤a→Q (ByteArray.toList s0==ByteArray.toList (bytes [33])) a))):ACalls prog 145 [.bool] [PV.str s0] N Q:=
  eE (H:=zCW) (by kernel_rfl) (by kernel_rfl) h
theorem zBJ (N:Nat) (s0:ByteArray) (Q:QT [.bool]) (h :
∀ a,N≤a→ACalls prog 145 [.bool] [.str s0] a (fun b c=>a≤c→Br b (∀ a,c≤a→Q true a) (Br (ByteArray.toList s0==ByteArray.toList
 (bytes [61])) (∀ a,c≤a→Q true a) (∀ a,c≤a→Q (ByteArray.toList s0==ByteArray.toList (bytes [60])) a)))):ACalls prog 148 [.bool] [PV.str s0] N Q:=
  eE (H:=zAw) (by kernel_rfl) (by kernel_rfl) h
theorem zDa (N:Nat) (x0:D) (Q:QT [.ag 9,.bool]) (h :
Bel N x0→∃ s,(x0.cell 1)=D.lit (.string s)∧∀ d,N≤d→ACalls prog 145 [.bool] [.str s] d (fun b e=>d≤e→Br b (∃ a b,∃ c:Nat,(x0.cell
 8)=D.sl a 9 b c∧yK Q N 3 2 2 a b c (b.length:Int) 0 x0 0 (bytes []) (bytes []) 0 0 Option.none [] 0 0 Option.none [] 0 Option.none [] 0 [D.lit
 (.int .i64 0),D.lit (.int .i64 0)] 2 e) (∃ a b,∃ c:Nat,(x0.cell 8)=D.sl a 9 b c∧yK Q N 2 2 2 a b c (b.length:Int)
 0 x0 0 (bytes []) (bytes []) 0 0 Option.none [] 0 0 Option.none [] 0 Option.none [] 0 [D.lit (.int .i64 0),D.lit (.int .i64 0)] 2 e))):ACalls prog 111 [.ag 9,.bool] [PV.dg 9 x0] N Q:=
  eE (H:=qC) (by kernel_rfl) (by kernel_rfl) h
theorem zHc (N:Nat) (n0:Int) (Q:QT [.ag 9]) (h :
∀ a,N≤a→Q (D.ag [D.lit (.int .i64 2),D.lit (.string (bytes [])),D.lit (.string (bytes [])),D.lit (.int .i64 n0),D.lit (.int .i64 0),D.sl Option.none
 2 [] 0,D.lit (.int .i64 0),D.sl Option.none 2 [] 0,D.sl Option.none 9 [] 0]) a):ACalls prog 181 [.ag 9] [PV.int .i64 n0] N Q:=
  eE (H:=zHD) (by kernel_rfl) (by kernel_rfl) h
theorem zD4 (N:Nat) (n0:Int) (b1:Bool) (Q:QT [.ag 9]) (h :
Br b1 (∀ a,N≤a→Q (D.ag [D.lit (.int .i64 3),D.lit (.string (bytes [])),D.lit (.string (bytes [])),D.lit (.int .i64 n0),D.lit (.int .i64 0),D.sl Option.none
 2 [] 0,D.lit (.int .i64 0),D.sl Option.none 2 [] 0,D.sl Option.none 9 [] 0]) a) (∀ a,N≤a→ACalls prog 181 [.ag 9] [.int .i64 n0] a (fun x b=>a
 ≤ b→Bel b x→∀ a,b≤a→Q x a))):ACalls prog 147 [.ag 9] [PV.int .i64 n0,PV.bool b1] N Q:=
  eE (H:=zDO) (by kernel_rfl) (by kernel_rfl) h
theorem zDn (N:Nat) (s0:ByteArray) (n1 n2:Int) (Q:QT [.int .i64,.bool]) (h :
∀ a,N≤a→ACalls prog 177 [.bool] [.int .i64 n1] a (fun b c=>a≤c→Br (!b) (∀ a,c≤a→Q 0 false a) (∀ a,c≤a→ACalls prog
 177 [.bool] [.int .i64 n2] a (fun b c=>a≤c→Br (!b) (∀ a,c≤a→Q 0 false a) (Br (ByteArray.toList s0==ByteArray.toList (bytes [43]))
 (∀ a,c≤a→ACalls prog 179 [.int .i64] [.int .i64 (IntKind.i64.wrap (n1+n2))] a (fun n b=>a≤b→∀ a,b≤a→Q n true a)) (Br (ByteArray.toList
 s0==ByteArray.toList (bytes [45])) (∀ a,c≤a→ACalls prog 179 [.int .i64] [.int .i64 (IntKind.i64.wrap (n1 - n2))] a (fun b c=>a≤c
 → ∀ a,c≤a→Q b true a)) (Br (ByteArray.toList s0==ByteArray.toList (bytes [42])) (∀ a,c≤a→ACalls prog 179 [.int .i64] [.int .i64
 (IntKind.i64.wrap (n1*n2))] a (fun b c=>a≤c→∀ a,c≤a→Q b true a)) (Br (ByteArray.toList s0==ByteArray.toList (bytes [61]))
 (∀ a,c≤a→ACalls prog 180 [.int .i64] [.bool (n1==n2)] a (fun b c=>a≤c→∀ a,c≤a→Q b true a)) (Br (ByteArray.toList
 s0==ByteArray.toList (bytes [60])) (∀ a,c≤a→ACalls prog 180 [.int .i64] [.bool (decide (n1<n2))] a (fun b c=>a≤c→∀ a,c
 ≤ a→Q b true a)) (Br (ByteArray.toList s0==ByteArray.toList (bytes [38])) (Br (n1==1) (∀ a,c≤a→ACalls prog 180 [.int .i64] [.bool (n2
 == 1)] a (fun b c=>a≤c→∀ a,c≤a→Q b true a)) (∀ a,c≤a→ACalls prog 180 [.int .i64] [.bool false] a (fun b
 c=>a≤c→∀ a,c≤a→Q b true a))) (Br (ByteArray.toList s0==ByteArray.toList (bytes [124])) (Br (n1==1) (∀ a,c≤a→ACalls
 prog 180 [.int .i64] [.bool true] a (fun b c=>a≤c→∀ a,c≤a→Q b true a)) (∀ a,c≤a→ACalls prog 180 [.int .i64] [.bool
 (n2==1)] a (fun b c=>a≤c→∀ a,c≤a→Q b true a))) (Br (ByteArray.toList s0==ByteArray.toList (bytes [33])) (∀ a,c ≤
 a→ACalls prog 180 [.int .i64] [.bool (n1==0)] a (fun b c=>a≤c→∀ a,c≤a→Q b true a)) (∀ a,c≤a→Q 0 false
 a))))))))))))):ACalls prog 146 [.int .i64,.bool] [PV.str s0,PV.int .i64 n1,PV.int .i64 n2] N Q:=
  eE (H:=zDl) (by kernel_rfl) (by kernel_rfl) h
theorem zFx (N:Nat) (n0:Int) (Q:QT [.int .i64]) (h :
(10007:Int)≠(0:Int)∧(10007:Int)≠(0:Int)∧∀ a,N≤a→Q (Int.tmod (IntKind.i64.wrap (Int.tmod n0 10007+10007)) 10007) a):ACalls prog 179 [.int .i64] [PV.int .i64 n0] N Q:=
 eE (H:=zFL) (by kernel_rfl) (by kernel_rfl) h
theorem zJ5 (N:Nat) (b0:Bool) (Q:QT [.int .i64]) (h :
Br b0 (∀ a,N≤a→Q 1 a) (∀ a,N≤a→Q 0 a)):ACalls prog 180 [.int .i64] [PV.bool b0] N Q:=
 eE (H:=zKT) (by kernel_rfl) (by kernel_rfl) h
theorem zHU (N:Nat) (x0:D) (Q:QT [.ag 9,.int .i64]) (h :
Bel N x0→∃ a d,∃ c:Nat,(x0.cell 8)=D.sl a 9 d c∧Br (decide ((d.length:Int)>0)) (∃ a c,∃ d:Nat,(x0.cell 8)=D.sl a 9 c d∧((0
 : Int)≤(0:Int)∧0<(c.length:Int))∧∃ n:Int,(x0.cell 0)=D.lit (.int .i64 n)∧Br (n==4) (∀ a,N≤a→ACalls prog 111 [.ag 9,.bool] [.dg
 9 x0] a (fun x b c=>a≤c→Bel c x→Br b (∀ a,c≤a→Q x 1 a) (∀ a,c≤a→Q x0 0 a))) (Br (n==5) (∃ a:Int,D.cell (List.getD
 c 0 default) 0=D.lit (.int .i64 a)∧Br (a==3) (∃ a b,∃ d:Nat,(x0.cell 8)=D.sl a 9 b d∧∃ a:Int,D.cell (List.getD c 0 default)
 3=D.lit (.int .i64 a)∧(0≤IntKind.i64.wrap (2 - a)∧IntKind.i64.wrap (2 - a)<(b.length:Int))∧∀ c,N≤c→ACalls prog 40 [Sh.pk,.int .i64,
 .str,.str,.int .i64,Sh.dc,Sh.dc,Sh.dc,Sh.dc,.row (OfNat.ofNat 34) 9] [.dg 9 (List.getD b (IntKind.i64.wrap (2 - a)).toNat default)] c (fun a s b
 d e f g h i j k=>c≤k→Bel k (D.ag i)→(i.length=i.length∧j=j)∧(i.length=i.length∧j=j)∧∀ c l,
 k≤l→Fresh N l c [D.ag i,e,f,g,h]→∀ k,l≤k→Q (D.ag [D.lit (.int .i64 a),D.lit (.string s),D.lit (.string b),D.lit (.int
 .i64 d),e,f,g,h,D.sl c 9 i j]) 2 k)) (∀ a,N≤a→Q x0 0 a)) (Br (n==7) (∃ a:Int,D.cell (List.getD c 0 default) 0=D.lit
 (.int .i64 a)∧Br (a==6) (∃ a b,∃ d:Nat,D.cell (List.getD c 0 default) 8=D.sl a 9 b d∧((0:Int)≤(0:Int)∧0<(b.length :
 Int))∧∃ a,D.cell (List.getD c 0 default) 1=D.lit (.string a)∧∃ c d,∃ e:Nat,(x0.cell 8)=D.sl c 9 d e∧((0:Int)≤(1:Int) ∧
 1<(d.length:Int))∧∀ c,N≤c→ACalls prog 112 [.ag 9] [.dg 9 (List.getD b 0 default),.str a,.dg 9 (List.getD d 1 default)] c (fun a
 b=>c≤b→Bel b a→∀ c,b≤c→Q a 3 c)) (Br (a==9) (∃ a b,∃ d:Nat,D.cell (List.getD c 0 default) 8=D.sl a
 9 b d∧((0:Int)≤(0:Int)∧0<(b.length:Int))∧∃ a,D.cell (List.getD c 0 default) 1=D.lit (.string a)∧∃ d,D.cell (List.getD c
 0 default) 2=D.lit (.string d)∧∃ e f,∃ g:Nat,(x0.cell 8)=D.sl e 9 f g∧((0:Int)≤(1:Int)∧1<(f.length:Int))∧∀ e,N ≤
 e→ACalls prog 112 [.ag 9] [.dg 9 (List.getD b 0 default),.str a,.dg 9 (List.getD c 0 default)] e (fun a b=>e≤b→Bel b a →
 ∀ c,b≤c→ACalls prog 112 [.ag 9] [.dg 9 a,.str d,.dg 9 (List.getD f 1 default)] c (fun a b=>c≤b→Bel b a→∀ c,
 b≤c→Q a 4 c))) (∀ a,N≤a→Q x0 0 a))) (Br (n==8) (∃ a b,∃ d:Nat,(x0.cell 8)=D.sl a 9 b d∧((0:Int)≤(1:Int)
 ∧ 1<(b.length:Int))∧∃ a,(x0.cell 1)=D.lit (.string a)∧∀ d,N≤d→ACalls prog 112 [.ag 9] [.dg 9 (List.getD b 1 default),.str a,.dg
 9 (List.getD c 0 default)] d (fun a b=>d≤b→Bel b a→∀ c,b≤c→Q a 5 c)) (Br (n==12) (∀ a,N≤a→ACalls prog
 109 [.ag 9,.bool] [.dg 9 (List.getD c 0 default)] a (fun b c d=>a≤d→Bel d b→Br c (∀ a,d≤a→Q b 7 a) (∀ a,
 d≤a→Q x0 0 a))) (Br (n==13) (∀ a,N≤a→ACalls prog 113 [.ag 9,.bool] [.dg 9 (List.getD c 0 default)] a (fun b c d=>a
 ≤ d→Bel d b→Br c (∀ a,d≤a→Q b 8 a) (∀ a,d≤a→Q x0 0 a))) (∀ a,N≤a→Q x0 0 a))))))) (∃ a:Int,
 (x0.cell 0)=D.lit (.int .i64 a)∧Br (a==4) (∀ a,N≤a→ACalls prog 111 [.ag 9,.bool] [.dg 9 x0] a (fun b c d=>a≤d→Bel d
 b→Br c (∀ a,d≤a→Q b 1 a) (∀ a,d≤a→Q x0 0 a))) (Br (a==5) (∀ a,N≤a→Q x0 0 a) (Br (a==7) (∀ a,
 N≤a→Q x0 0 a) (Br (a==8) (∃ a b,∃ c:Nat,(x0.cell 8)=D.sl a 9 b c∧((0:Int)≤(1:Int)∧1<(b.length:Int))∧∃ a,(x0.cell
 1)=D.lit (.string a)∧∀ c,N≤c→ACalls prog 112 [.ag 9] [.dg 9 (List.getD b 1 default),.str a,.dg 9 (D.ag [D.lit (.int .i64 0),D.lit (.string
 (bytes [])),D.lit (.string (bytes [])),D.lit (.int .i64 0),D.lit (.int .i64 0),D.sl Option.none 2 [] 0,D.lit (.int .i64 0),D.sl Option.none 2 [] 0,D.sl Option.none
 9 [] 0])] c (fun a b=>c≤b→Bel b a→∀ c,b≤c→Q a 5 c)) (Br (a==12) (∀ a,N≤a→ACalls prog 109 [.ag 9,
 .bool] [.dg 9 (D.ag [D.lit (.int .i64 0),D.lit (.string (bytes [])),D.lit (.string (bytes [])),D.lit (.int .i64 0),D.lit (.int .i64 0),D.sl Option.none 2 []
 0,D.lit (.int .i64 0),D.sl Option.none 2 [] 0,D.sl Option.none 9 [] 0])] a (fun b c d=>a≤d→Bel d b→Br c (∀ a,d≤a
 → Q b 7 a) (∀ a,d≤a→Q x0 0 a))) (Br (a==13) (∀ a,N≤a→ACalls prog 113 [.ag 9,.bool] [.dg 9 (D.ag [D.lit (.int .i64 0),D.lit
 (.string (bytes [])),D.lit (.string (bytes [])),D.lit (.int .i64 0),D.lit (.int .i64 0),D.sl Option.none 2 [] 0,D.lit (.int .i64 0),D.sl Option.none 2 [] 0,
 D.sl Option.none 9 [] 0])] a (fun b c d=>a≤d→Bel d b→Br c (∀ a,d≤a→Q b 8 a) (∀ a,d≤a→Q x0 0 a)))
 (∀ a,N≤a→Q x0 0 a)))))))):ACalls prog 80 [.ag 9,.int .i64] [PV.dg 9 x0] N Q:=
  eE (H:=zHe) (by kernel_rfl) (by kernel_rfl) h
theorem zCr (N:Nat) (x0:D) (Q:QT [.int .i64]) (h :
Bel N x0→∃ n:Int,(x0.cell 0)=D.lit (.int .i64 n)∧Br (n==4) (∃ a b,∃ c:Nat,(x0.cell 8)=D.sl a 9 b c∧∀ a,N≤a→Q (b.length:Int) a)
 (Br (n==7) (∃ a b,∃ c:Nat,(x0.cell 8)=D.sl a 9 b c∧∀ a,N≤a→Q (b.length:Int) a) (Br (n==5) (∀ a,N≤a→Q 1 a) (Br
 (n==8) (∀ a,N≤a→Q 1 a) (Br (n==12) (∀ a,N≤a→Q 1 a) (Br (n==13) (∀ a,N≤a→Q 1 a) (∀ a,N≤a→Q 0 a))))))):ACalls prog 79 [.int .i64] [PV.dg 9 x0] N Q:=
  eE (H:=zCP) (by kernel_rfl) (by kernel_rfl) h
theorem zIR (N:Nat) (x0:D) (Q:QT [.ag 9,.int .i64]) (h :
Bel N x0→∀ d,N≤d→ACalls prog 76 [.bool] [.dg 9 x0] d (fun b e=>d≤e→Br b (∀ a,e≤a→Q x0 0 a) (∃ n:Int,(x0.cell 0)=D.lit
 (.int .i64 n)∧Br (n==10) (∃ a b,∃ c:Nat,(x0.cell 8)=D.sl a 9 b c∧((0:Int)≤(0:Int)∧0<(b.length:Int))∧∀ a,e≤a→ACalls prog 77
 [.ag 9,.int .i64,.bool] [.dg 9 (List.getD b 0 default),.int .i64 1,.fn 41 []] a (fun x b _ c=>a≤c→Bel c x→(1=([x]).length∧1=1) ∧
 ∀ a,ApA a [x]→Off [a] x0→∀ d,c≤d→w8 d [a]→ACalls prog 78 [Sh.pk,.int .i64,.str,.str,.int .i64,Sh.dc,Sh.dc,Sh.dc,Sh.dc,Sh.bk
 1] [.dg 9 x0,.sv a 9 [x] 1] d (fun c s e f g h i j k l=>d≤l→k=D.sl a 9 [x] 1∧Off [a] g∧Off [a] h∧Off [a] i
 ∧ Off [a] j∧(1=([x]).length∧1=1)∧(1=([x]).length∧1=1)∧(1=([x]).length∧1=1)∧∀ a d,l≤d→Fresh N d a [D.ag [x],g,h,
 i,j]→∀ k,d≤k→Q (D.ag [D.lit (.int .i64 c),D.lit (.string s),D.lit (.string e),D.lit (.int .i64 f),g,h,i,j,D.sl a 9 [x]
 1]) b k))) (∀ a,e≤a→ACalls prog 79 [.int .i64] [.dg 9 x0] a (fun b c=>a≤c→vK Q N b 0 x0 0 (bytes []) (bytes [])
 0 0 Option.none [] 0 0 Option.none [] 0 Option.none [] 0 c))))):ACalls prog 41 [.ag 9,.int .i64] [PV.dg 9 x0] N Q:=
  eE (H:=zDC) (by kernel_rfl) (by kernel_rfl) h
theorem zCa (N:Nat) (x0:D) (Q:QT [.ag 9,.bool]) (h :
Bel N x0→∃ n:Int,(x0.cell 0)=D.lit (.int .i64 n)∧Br (bne n 10) (∀ a,N≤a→Q (D.ag [D.lit (.int .i64 0),D.lit (.string (bytes [])),D.lit (.string
 (bytes [])),D.lit (.int .i64 0),D.lit (.int .i64 0),D.sl Option.none 2 [] 0,D.lit (.int .i64 0),D.sl Option.none 2 [] 0,D.sl Option.none 9 [] 0]) false a)
 (∀ d,N≤d→ACalls prog 76 [.bool] [.dg 9 x0] d (fun b e=>d≤e→Br (!b) (∀ a,e≤a→Q (D.ag [D.lit (.int .i64 0),D.lit (.string (bytes
 [])),D.lit (.string (bytes [])),D.lit (.int .i64 0),D.lit (.int .i64 0),D.sl Option.none 2 [] 0,D.lit (.int .i64 0),D.sl Option.none 2 [] 0,D.sl Option.none
 9 [] 0]) false a) (∃ a b,∃ c:Nat,(x0.cell 8)=D.sl a 9 b c∧((0:Int)≤(0:Int)∧0<(b.length:Int))∧∀ a,e≤a→ACalls prog 40 [Sh.pk,
 .int .i64,.str,.str,.int .i64,Sh.dc,Sh.dc,Sh.dc,Sh.dc,.row (OfNat.ofNat 34) 9] [.dg 9 (List.getD b 0 default)] a (fun b s c d x e f g h
 i j=>a≤j→Bel j (D.ag h)→(h.length=h.length∧i=i)∧(h.length=h.length∧i=i)∧∀ a k,j≤k→Fresh N k
 a [D.ag h,x,e,f,g]→∀ j,k≤j→Q (D.ag [D.lit (.int .i64 b),D.lit (.string s),D.lit (.string c),D.lit (.int .i64 d),x,e,f,
 g,D.sl a 9 h i]) true j))))):ACalls prog 109 [.ag 9,.bool] [PV.dg 9 x0] N Q:=
  eE (H:=zB8) (by kernel_rfl) (by kernel_rfl) h
theorem zEv (N:Nat) (x0:D) (Q:QT [.ag 9,.bool]) (h :
Bel N x0→∃ n:Int,(x0.cell 0)=D.lit (.int .i64 n)∧Br (bne n 2) (∃ d:Int,(x0.cell 0)=D.lit (.int .i64 d)∧Br (bne d 3) (∀ a,N≤a→Q (D.ag
 [D.lit (.int .i64 0),D.lit (.string (bytes [])),D.lit (.string (bytes [])),D.lit (.int .i64 0),D.lit (.int .i64 0),D.sl Option.none 2 [] 0,D.lit (.int .i64
 0),D.sl Option.none 2 [] 0,D.sl Option.none 9 [] 0]) false a) (∀ d,N≤d→ACalls prog 72 [.bool] [.dg 9 x0] d (fun b e=>d≤e→Br (!b) (∀ a,
 e≤a→Q (D.ag [D.lit (.int .i64 0),D.lit (.string (bytes [])),D.lit (.string (bytes [])),D.lit (.int .i64 0),D.lit (.int .i64 0),D.sl Option.none 2 []
 0,D.lit (.int .i64 0),D.sl Option.none 2 [] 0,D.sl Option.none 9 [] 0]) false a) (∀ b,e≤b→ACalls prog 40 [Sh.pk,.int .i64,.str,.str,.int .i64,
 Sh.dc,Sh.dc,Sh.dc,Sh.dc,.row (OfNat.ofNat 34) 9] [.dg 9 x0] b (fun c s d e x f g h i j k=>b≤k→Bel k (D.ag i)→(i.length=i.length
 ∧ j=j)∧∀ a b,k≤b→Fresh N b a [D.ag i]→(1=([D.ag [D.lit (.int .i64 c),D.lit (.string s),D.lit (.string d),D.lit (.int .i64 e),x,f,
 g,h,D.sl a 9 i j]]).length∧1=1)∧∀ k l,b≤l→Fresh N l k [D.ag [D.ag [D.lit (.int .i64 c),D.lit (.string s),D.lit (.string d),D.lit
 (.int .i64 e),x,f,g,h,D.sl a 9 i j]]]→∀ b,l≤b→ACalls prog 152 [.ag 9] [.int .i64 10,.sv k 9 [D.ag [D.lit (.int .i64 c),D.lit (.string
 s),D.lit (.string d),D.lit (.int .i64 e),x,f,g,h,D.sl a 9 i j]] 1] b (fun a c=>b≤c→Bel c a→∀ b,c≤b→Q a
 true b)))))) (∀ a,N≤a→ACalls prog 72 [.bool] [.dg 9 x0] a (fun b c=>a≤c→Br (!b) (∀ a,c≤a→Q (D.ag [D.lit (.int .i64
 0),D.lit (.string (bytes [])),D.lit (.string (bytes [])),D.lit (.int .i64 0),D.lit (.int .i64 0),D.sl Option.none 2 [] 0,D.lit (.int .i64 0),D.sl Option.none
 2 [] 0,D.sl Option.none 9 [] 0]) false a) (∀ a,c≤a→ACalls prog 40 [Sh.pk,.int .i64,.str,.str,.int .i64,Sh.dc,Sh.dc,Sh.dc,Sh.dc,.row (OfNat.ofNat
 34) 9] [.dg 9 x0] a (fun b c d e f g h i j k l=>a≤l→Bel l (D.ag j)→(j.length=j.length∧k=k)∧∀ a
 m,l≤m→Fresh N m a [D.ag j]→(1=([D.ag [D.lit (.int .i64 b),D.lit (.string c),D.lit (.string d),D.lit (.int .i64 e),f,g,
 h,i,D.sl a 9 j k]]).length∧1=1)∧∀ l n,m≤n→Fresh N n l [D.ag [D.ag [D.lit (.int .i64 b),D.lit (.string c),D.lit (.string
 d),D.lit (.int .i64 e),f,g,h,i,D.sl a 9 j k]]]→∀ m,n≤m→ACalls prog 152 [.ag 9] [.int .i64 10,.sv l 9 [D.ag [D.lit (.int
 .i64 b),D.lit (.string c),D.lit (.string d),D.lit (.int .i64 e),f,g,h,i,D.sl a 9 j k]] 1] m (fun a b=>m≤b→Bel
 b a→∀ c,b≤c→Q a true c)))))):ACalls prog 113 [.ag 9,.bool] [PV.dg 9 x0] N Q:=
  eE (H:=zFr) (by kernel_rfl) (by kernel_rfl) h
theorem zCB (N:Nat) (x0:D) (Q:QT [.bool]) (h :
Bel N x0→∃ n:Int,(x0.cell 0)=D.lit (.int .i64 n)∧Br (n==2) (∀ a,N≤a→ACalls prog 72 [.bool] [.dg 9 x0] a (fun b c=>a≤c→∀ a,c
 ≤ a→Q b a)) (Br (n==3) (∀ a,N≤a→ACalls prog 72 [.bool] [.dg 9 x0] a (fun b c=>a≤c→∀ a,c≤a→Q b a)) (Br (n==6) (∀
 a,N≤a→ACalls prog 72 [.bool] [.dg 9 x0] a (fun b c=>a≤c→∀ a,c≤a→Q b a)) (Br (n==9) (∀ a,N≤a→ACalls prog 72 [.bool]
 [.dg 9 x0] a (fun b c=>a≤c→∀ a,c≤a→Q b a)) (Br (n==10) (∀ b,N≤b→ACalls prog 72 [.bool] [.dg 9 x0] b (fun d
 e=>b≤e→Br d (∃ a b,∃ c:Nat,(x0.cell 8)=D.sl a 9 b c∧((0:Int)≤(0:Int)∧0<(b.length:Int))∧∀ a,e≤a→ACalls prog
 108 [.bool] [.dg 9 (List.getD b 0 default),.int .i64 1] a (fun b c=>a≤c→∀ a,c≤a→Q b a)) (∀ a,e≤a→Q false a)))
 (∀ a,N≤a→Q false a)))))):ACalls prog 76 [.bool] [PV.dg 9 x0] N Q:=
  eE (H:=zCk) (by kernel_rfl) (by kernel_rfl) h
theorem pH (N:Nat) (x0:D) (n1:Int) (Q:QT [.bool]) (h :
Bel N x0→∀ a,N≤a→ACalls prog 39 [.bool] [.dg 9 x0,.int .i64 n1] a (fun b c=>a≤c→Br b (∀ a,c≤a→ACalls prog 73 [.bool] [.dg 9
 x0,.int .i64 n1,.fn 144 []] a (fun b c=>a≤c→∀ a,c≤a→Q b a)) (∀ a,c≤a→Q false a))):ACalls prog 108 [.bool] [PV.dg 9 x0,PV.int .i64 n1] N Q:=
  eE (H:=qS) (by kernel_rfl) (by kernel_rfl) h
theorem ra (N:Nat) (x0:D) (n1:Int) (Q:QT [.bool]) (h :
Bel N x0→∃ n:Int,(x0.cell 0)=D.lit (.int .i64 n)∧Br (bne n 11) (∀ a,N≤a→Q true a) (∀ a,N≤a→Q (bne n1 1) a)):ACalls prog 144 [.bool] [PV.dg 9 x0,PV.int .i64 n1] N Q:=
 eE (H:=rY) (by kernel_rfl) (by kernel_rfl) h
theorem tU (Q:QT [.ag 9,.bool]) (N0:Nat) (n4:Int) (m5 c5:Nat) (a15:Option Addr) (e15:List D) (c15:Nat) (n16 n17:Int) (y0:D) (n1_0:Int) (s1_1 s1_2:ByteArray) (n1_3 n1_4:Int) (a1_5:Option Addr) (e1_5:List D) (c1_5:Nat) (n1_6:Int) (a1_7:Option Addr) (e1_7:List D) (c1_7:Nat) (a1_8:Option Addr) (e1_8:List D) (c1_8:Nat) (r2:List D) (q2:Nat) (N:Nat) (h :
Br (decide (n17<n16)) ((0≤n17∧n17<(e15.length:Int))∧∃ n:Int,D.cell (List.getD e15 n17.toNat default) 0=D.lit (.int .i64 n)∧Br (bne n n4) (∀ a,
 N≤a→Q (D.ag [D.lit (.int .i64 0),D.lit (.string (bytes [])),D.lit (.string (bytes [])),D.lit (.int .i64 0),D.lit (.int .i64 0),D.sl Option.none 2 [] 0,
 D.lit (.int .i64 0),D.sl Option.none 2 [] 0,D.sl Option.none 9 [] 0]) false a) (∃ a:Int,D.cell (List.getD e15 n17.toNat default) 3=D.lit (.int .i64 a)
 ∧ (0≤n17∧n17<(m5:Int)∧(0+n17.toNat:Nat)<r2.length)∧(0+n17.toNat:Nat)<r2.length∧yK Q N0 n4 m5 c5 a15 e15 c15 n16 (IntKind.i64.wrap
 (n17+1)) y0 n1_0 s1_1 s1_2 n1_3 n1_4 a1_5 e1_5 c1_5 n1_6 a1_7 e1_7 c1_7 a1_8 e1_8 c1_8 (List.set r2 (0+n17.toNat:Nat) (D.lit (.int .i64 a))) q2 N)) (∃ s,
 (y0.cell 1)=D.lit (.string s)∧((0:Int)≤(0:Int)∧0<(m5:Int)∧0<r2.length)∧0<r2.length∧∃ a:Int,List.getD r2 0 default=D.lit (.int .i64
 a)∧((0:Int)≤(1:Int)∧1<(m5:Int)∧1<r2.length)∧1<r2.length∧∃ c:Int,List.getD r2 1 default=D.lit (.int .i64 c)∧∀ d,N≤d →
 ACalls prog 146 [.int .i64,.bool] [.str s,.int .i64 a,.int .i64 c] d (fun a b c=>d≤c→∃ d,(y0.cell 1)=D.lit (.string d)∧∀ e,c
 ≤ e→ACalls prog 148 [.bool] [.str d] e (fun c d=>e≤d→∀ e,d≤e→ACalls prog 147 [.ag 9] [.int .i64 a,.bool c] e (fun x a=>
 e≤a→Bel a x→∀ c,a≤c→Q x b c))))):yK Q N0 n4 m5 c5 a15 e15 c15 n16 n17 y0 n1_0 s1_1 s1_2 n1_3 n1_4 a1_5 e1_5 c1_5 n1_6 a1_7 e1_7 c1_7 a1_8 e1_8 c1_8 r2 q2 N:=
  hE (H:=qC) (by kernel_rfl) h
theorem zA1 (N:Nat) (x0:D) (n1:Int) (Q:QT [.ag 9,.int .i64,.bool]) (h :
Bel N x0→∃ n:Int,(x0.cell 0)=D.lit (.int .i64 n)∧Br (n==11) (Br (n1==1) (∃ a d,∃ c:Nat,(x0.cell 8)=D.sl a 9 d c∧((0:Int)≤(0:Int)∧0
 < (d.length:Int))∧∀ a,N≤a→ACalls prog 76 [.bool] [.dg 9 (List.getD d 0 default)] a (fun b c=>a≤c→Br (!b) (∀ a,c≤a→ACalls
 prog 41 [.ag 9,.int .i64] [.dg 9 (List.getD d 0 default)] a (fun x b c=>a≤c→Bel c x→(1=([x]).length∧1=1)∧∀ a,ApA a [x]→Off [a]
 x0→∀ d,c≤d→w8 d [a]→ACalls prog 78 [Sh.pk,.int .i64,.str,.str,.int .i64,Sh.dc,Sh.dc,Sh.dc,Sh.dc,Sh.bk 1] [.dg 9 x0,.sv a 9 [x] 1]
 d (fun c s e f g h i j k l=>d≤l→k=D.sl a 9 [x] 1∧Off [a] g∧Off [a] h∧Off [a] i∧Off [a] j∧(1=([x]).length
 ∧ 1=1)∧(1=([x]).length∧1=1)∧(1=([x]).length∧1=1)∧∀ a d,l≤d→Fresh N d a [D.ag [x],g,h,i,j]→∀ k,d≤k→Q
 (D.ag [D.lit (.int .i64 c),D.lit (.string s),D.lit (.string e),D.lit (.int .i64 f),g,h,i,j,D.sl a 9 [x] 1]) b true k))) (∀ a,c ≤
 a→ACalls prog 109 [.ag 9,.bool] [.dg 9 (List.getD d 0 default)] a (fun b c d=>a≤d→Bel d b→Br c (∀ a,d≤a→Q b 6
 true a) (∀ a,d≤a→Q x0 0 true a))))) (∃ a b,∃ c:Nat,(x0.cell 8)=D.sl a 9 b c∧yM Q N n1 a b c (b.length
 : Int) 0 x0 0 (bytes []) (bytes []) 0 0 Option.none [] 0 0 Option.none [] 0 Option.none [] 0 N)) (∃ a b,∃ c:Nat,(x0.cell 8)=D.sl a 9 b c∧yM
 Q N n1 a b c (b.length:Int) 0 x0 0 (bytes []) (bytes []) 0 0 Option.none [] 0 0 Option.none [] 0 Option.none [] 0 N)):ACalls prog 77 [.ag 9,.int .i64,.bool] [.dg 9 x0,.int .i64 n1,.fn 41 []] N Q:=
  eE (H:=qP) (by kernel_rfl) (by kernel_rfl) h
theorem qu (Q:QT [.ag 9,.int .i64]) (N0:Nat) (n32 n33:Int) (y0:D) (n1_0:Int) (s1_1 s1_2:ByteArray) (n1_3 n1_4:Int) (a1_5:Option Addr) (e1_5:List D) (c1_5:Nat) (n1_6:Int) (a1_7:Option Addr) (e1_7:List D) (c1_7:Nat) (a1_8:Option Addr) (e1_8:List D) (c1_8:Nat) (N:Nat) (h :
Br (decide (n33<n32)) (∃ a d,∃ c:Nat,(y0.cell 8)=D.sl a 9 d c∧(0≤n33∧n33<(d.length:Int))∧∀ a,N≤a→ACalls prog 76 [.bool] [.dg 9 (List.getD
 d n33.toNat default)] a (fun b c=>a≤c→Br b (vK Q N0 n32 (IntKind.i64.wrap (n33+1)) y0 n1_0 s1_1 s1_2 n1_3 n1_4 a1_5 e1_5 c1_5 n1_6 a1_7
 e1_7 c1_7 a1_8 e1_8 c1_8 c) (∃ a b,∃ d:Nat,(y0.cell 8)=D.sl a 9 b d∧(0≤n33∧n33<(b.length:Int))∧∀ a,c≤a→ACalls prog
 41 [.ag 9,.int .i64] [.dg 9 (List.getD b n33.toNat default)] a (fun x n b=>a≤b→Bel b x→∀ a,b≤a→ACalls prog 40 [Sh.pk,.int .i64,
 .str,.str,.int .i64,Sh.dc,Sh.dc,Sh.dc,Sh.dc,.row (OfNat.ofNat 34) 9] [.dg 9 y0] a (fun b s c d e f g h i j k=>a≤k→Bel k
 (D.ag i)→(0≤n33∧n33<(i.length:Int)∧(0+n33.toNat:Nat)<i.length)∧(0+n33.toNat:Nat)<i.length∧(i.length=(List.set i (0
 + n33.toNat:Nat) x).length∧j=j)∧(i.length=(List.set i (0+n33.toNat:Nat) x).length∧j=j)∧(i.length=(List.set i (0+n33.toNat
 : Nat) x).length∧j=j)∧(i.length=(List.set i (0+n33.toNat:Nat) x).length∧j=j)∧(i.length=(List.set i (0+n33.toNat:Nat)
 x).length∧j=j)∧∀ a l,k≤l→Fresh N0 l a [D.ag (List.set i (0+n33.toNat:Nat) x),e,f,g,h]→∀ k,l≤k→Q (D.ag
 [D.lit (.int .i64 b),D.lit (.string s),D.lit (.string c),D.lit (.int .i64 d),e,f,g,h,D.sl a 9 (List.set i (0+n33.toNat:Nat) x) j])
 n k))))) (∀ a,N≤a→ACalls prog 80 [.ag 9,.int .i64] [.dg 9 y0] a (fun b c d=>a≤d→Bel d b→∀ a,d≤a→Q b c a)) 
 ):vK Q N0 n32 n33 y0 n1_0 s1_1 s1_2 n1_3 n1_4 a1_5 e1_5 c1_5 n1_6 a1_7 e1_7 c1_7 a1_8 e1_8 c1_8 N:=
  hE (H:=zDC) (by kernel_rfl) h
theorem zAc (N:Nat) (x0:D) (n1:Int) (Q:QT [.bool]) (h :
Bel N x0→∀ d,N≤d→ACalls prog 144 [.bool] [.dg 9 x0,.int .i64 n1] d (fun b e=>d≤e→Br (!b) (∀ a,e≤a→Q false a) (∃ a b,∃ c
 : Nat,(x0.cell 8)=D.sl a 9 b c∧xg Q N n1 a b c (b.length:Int) 0 x0 e))):ACalls prog 73 [.bool] [.dg 9 x0,.int .i64 n1,.fn 144 []] N Q:=
  eE (H:=rn) (by kernel_rfl) (by kernel_rfl) h
theorem tq (Q:QT [.ag 9,.int .i64,.bool]) (N0:Nat) (n1:Int) (a54:Option Addr) (e54:List D) (c54:Nat) (n55 n56:Int) (y0:D) (n1_0:Int) (s1_1 s1_2:ByteArray) (n1_3 n1_4:Int) (a1_5:Option Addr) (e1_5:List D) (c1_5:Nat) (n1_6:Int) (a1_7:Option Addr) (e1_7:List D) (c1_7:Nat) (a1_8:Option Addr) (e1_8:List D) (c1_8:Nat) (N:Nat) (h :
Br (decide (n56<n55)) ((0≤n56∧n56<(e54.length:Int))∧∀ d,N≤d→ACalls prog 107 [.int .i64] [.dg 9 y0,.int .i64 n1] d (fun n e=>d≤e
 → ∀ d,e≤d→ACalls prog 77 [.ag 9,.int .i64,.bool] [.dg 9 (List.getD e54 n56.toNat default),.int .i64 n,.fn 41 []] d (fun x b e f=>d≤f
 → Bel f x→Br e (∀ d,f≤d→ACalls prog 40 [Sh.pk,.int .i64,.str,.str,.int .i64,Sh.dc,Sh.dc,Sh.dc,Sh.dc,.row (OfNat.ofNat 34) 9] [.dg 9 y0] d
 (fun c s e f g h i j k l m=>d≤m→Bel m (D.ag k)→(0≤n56∧n56<(k.length:Int)∧(0+n56.toNat:Nat)<k.length)∧(0+n56.toNat
 : Nat)<k.length∧(k.length=(List.set k (0+n56.toNat:Nat) x).length∧l=l)∧(k.length=(List.set k (0+n56.toNat:Nat) x).length∧l=l)∧(k.length
 = (List.set k (0+n56.toNat:Nat) x).length∧l=l)∧(k.length=(List.set k (0+n56.toNat:Nat) x).length∧l=l)∧(k.length=(List.set k (0+n56.toNat
 : Nat) x).length∧l=l)∧∀ a d,m≤d→Fresh N0 d a [D.ag (List.set k (0+n56.toNat:Nat) x),g,h,i,j]→∀ m,d≤m→Q (D.ag [D.lit
 (.int .i64 c),D.lit (.string s),D.lit (.string e),D.lit (.int .i64 f),g,h,i,j,D.sl a 9 (List.set k (0+n56.toNat:Nat) x) l]) b true m))
 (yM Q N0 n1 a54 e54 c54 n55 (IntKind.i64.wrap (n56+1)) y0 n1_0 s1_1 s1_2 n1_3 n1_4 a1_5 e1_5 c1_5 n1_6 a1_7 e1_7 c1_7 a1_8 e1_8 c1_8 f)))) (∀ a,
 N≤a→Q y0 0 false a)):yM Q N0 n1 a54 e54 c54 n55 n56 y0 n1_0 s1_1 s1_2 n1_3 n1_4 a1_5 e1_5 c1_5 n1_6 a1_7 e1_7 c1_7 a1_8 e1_8 c1_8 N:=
  hE (H:=qP) (by kernel_rfl) h
theorem te (Q:QT [.bool]) (N0:Nat) (n1:Int) (a15:Option Addr) (e15:List D) (c15:Nat) (n16 n17:Int) (y0:D) (N:Nat) (h :
Br (decide (n17<n16)) ((0≤n17∧n17<(e15.length:Int))∧∀ a,N≤a→ACalls prog 107 [.int .i64] [.dg 9 y0,.int .i64 n1] a (fun n c=>a≤c
 → ∀ a,c≤a→ACalls prog 73 [.bool] [.dg 9 (List.getD e15 n17.toNat default),.int .i64 n,.fn 144 []] a (fun b c=>a≤c→Br (!b) (∀ a,c
 ≤ a→Q false a) (xg Q N0 n1 a15 e15 c15 n16 (IntKind.i64.wrap (n17+1)) y0 c)))) (∀ a,N≤a→Q true a)):xg Q N0 n1 a15 e15 c15 n16 n17 y0 N:=
  hE (H:=rn) (by kernel_rfl) h
end Go.Proofs.YtnpjpplbkoammaaGreatDoor
set_option maxRecDepth 100000
namespace Go.Proofs.YtnpjpplbkoammaaGreatDoor
open Go Go.Proofs Go.Proofs.Tryz
end Go.Proofs.YtnpjpplbkoammaaGreatDoor
set_option maxRecDepth 100000
namespace Go.Proofs.YtnpjpplbkoammaaGreatDoor
open Go Go.Proofs Go.Proofs.Tryz
def qb:Hint:=⟨[hc 3 [1,3,4]],[],[(5,hs 9 [ec 6 [17]])]⟩
def wM (Q:QT [.int .i64]) (N0:Nat) (n3 n4:Int) (y0:D) (N:Nat):Prop:=AT prog 48 [.int .i64] Q N0 .ord (zF prog 48 3) ⟨an 1 (.pb 0 0 0 0::an 1 (.int .i64 n3::.int .i64 n4::an 16 [])),[.vd y0 9],N,none⟩
theorem zFO (N:Nat) (x0:D) (Q:QT [.int .i64]) (h :
Bel N x0→wM Q N 1 0 x0 N):ACalls prog 48 [.int .i64] [PV.dg 9 x0] N Q:=
 eE (H:=qb) (by kernel_rfl) (by kernel_rfl) h
theorem sL (Q:QT [.int .i64]) (N0:Nat) (n3 n4:Int) (y0:D) (N:Nat) (h :
∃ a b,∃ c:Nat,(y0.cell 8)=D.sl a 9 b c∧Br (decide (n4<(b.length:Int))) (∃ a b,∃ c:Nat,(y0.cell 8)=D.sl a 9 b c∧(0≤n4∧n4
 < (b.length:Int))∧∀ a,N≤a→ACalls prog 48 [.int .i64] [.dg 9 (List.getD b n4.toNat default)] a (fun n b=>a≤b→wM Q N0
 (IntKind.i64.wrap (n3+n)) (IntKind.i64.wrap (n4+1)) y0 b)) (∀ a,N≤a→Q n3 a)):wM Q N0 n3 n4 y0 N:=
  hE (H:=qb) (by kernel_rfl) h
end Go.Proofs.YtnpjpplbkoammaaGreatDoor
set_option maxRecDepth 100000
namespace Go.Proofs.YtnpjpplbkoammaaGreatDoor
open Go Go.Proofs Go.Proofs.Tryz
def shB:FuncId→List Sh:=fun f=>match zLM f [(114,[.row 0 1000007,.ag 9]),(87,[.row 0 1000007,.ag 9]),(88,[.row 0 1000007,.ag 9]),(55,[.row 0 1000007,.ag 9]),(90,[.row 0 1000007,.bool]),(57,[.row 0 1000007,.ag 9]),(89,[.row 0 1000007,.ag 9])] with
 | []=>sh f
 | l=>l
theorem zJu {f:FuncId} {rs:List Sh} {Q:QT rs} {N:Nat} {H:Hint} {args:List PV} {F:Prop} (hc:zu prog f=true) (he:F=zGx prog shB f rs Q N H 400 args) (h:F):ACalls prog f rs args N Q:=zOZ mixed hc he h
theorem zH2 {f:FuncId} {full:List Sh} {Q:QT full} {N:Nat} {H:Hint} {args:List PV} {bx:List Bx} {F:Env→Prop} (hc:zu prog f=true) (he:∀ E,F E=zHK prog shB f full Q N H 400 args bx E) (h:∀ E,F E):BCalls prog f full args bx N Q:=zKt mixed hc he h
theorem zKJ {f:FuncId} {rs:List Sh} {Q:QT rs} {N0:Nat} {M:Mode} {H:Hint} {items:List Item} {st:St} {F:Prop} (he:F=zAO st fun st=>W prog shB f rs Q N0 M H 400 true items st) (h:F):AT prog f rs Q N0 M items st:=zQO mixed he h
def zDV:Hint:=⟨[],[],[(1,hs 8 [ec 1 [9]]),(4,hs 6 [ec 2 [22],ec 3 [23]]),(7,[en 0,en 2,en 3,en 4,en 5,ec 1 [30],eh 6,en 7,en 8])]⟩
def zD0:Hint:=⟨[],[],[(1,hs 8 [ec 1 [9]]),(4,hs 6 [ec 2 [22],ec 3 [23]]),(7,[en 0,en 2,en 3,en 4,en 5,ec 1 [30],eh 6,en 7,en 8])]⟩
def uP:Hint:=⟨[hc 4 [1,2,4,19,20,21]],[],[(6,[en 0,en 1,en 2,en 8,ec 3 [27],ec 4 [26],en 5,en 6,en 7,eh 9,en 10]),(10,hs 5 [ec 2 [37]])]⟩
def uf:Hint:=⟨[],[],[]⟩
def s9:Hint:=⟨[],[],[(2,hs 4 [ec 2 [19]]),(5,hs 12 [ec 1 [25],ec 3 [26]]),(6,hs 4 [ec 1 [32]]),(7,hs 11 [ec 2 [35]]),(8,hs 14 [ec 2 [41,42]]),(10,[en 0,en 1,ec 2 [56],ec 3 [55,57],en 4]),(13,hs 4 [em 2 (some 9) [1,2,6,7,8,10,11,12,13]]),(14,hs 18 [ec 5 [66,67]]),(17,hs 4 [em 2 (some 10) [1,2,6,7,8,10,14]]),(19,hs 4 [ec 2 [84]]),(24,hs 12 [ec 1 [93],ec 3 [94]]),(25,hs 14 [ec 2 [100,101]]),(28,hs 4 [ec 2 [114]])]⟩
def qA:Hint:=⟨[hc 12 [0,3,4,6,7,8]],[],[(1,hs 8 [ec 6 [14]]),(4,hs 10 [ec 5 [25]]),(5,hs 13 [ec 7 [35]]),(7,hs 4 [ec 1 [42]]),(14,[en 0,en 1,en 2,en 3,en 4,en 5,en 6,en 7,en 8,ec 9 [82],en 10,eh 11]),(15,hs 4 [ec 2 [86]])]⟩
def xo:Hint:=⟨[hc 1 [0,3,4],hc 6 [0,3,4,5,28,29]],[],[(1,hs 10 [ec 7 [15]]),(3,hs 4 [ec 2 [23]]),(4,hs 4 [ec 1 [25]]),(5,hs 3 [ec 1 [27]]),(8,[en 0,en 1,en 2,en 3,en 4,en 5,en 6,en 7,en 8,ec 9 [40],en 10,eh 11]),(12,hs 8 [ec 1 [50]]),(13,hs 5 [ec 3 [55]])]⟩
def ro:Hint:=⟨[hc 11 [0,2,4,6,8,9]],[],[(4,hs 8 [ec 5 [26]]),(8,hs 7 [ec 5 [45]]),(9,hs 4 [ec 1 [47]]),(13,[en 0,en 1,en 2,en 3,en 4,en 5,en 6,en 7,en 8,en 9,en 10,ec 11 [65],ec 12 [64],en 13,eh 14])]⟩
def zDI:Hint:=⟨[],[],[(2,[en 0,en 1,en 2,en 3,en 4,en 5,en 6,en 7,en 8,en 9,en 10,en 11,en 12,en 13,en 14,en 15,en 16,en 17,ec 18 [30],en 19,en 20,en 21,en 22,eh 23])]⟩
def zCT:Hint:=⟨[],[],[(3,hs 8 [ec 1 [14]]),(7,hs 5 [ec 2 [25]]),(10,hs 4 [ec 2 [33]])]⟩
def tB:Hint:=⟨[],[],[(1,hs 11 [ec 4 [16]]),(5,hs 8 [ec 5 [30]]),(6,hs 8 [ec 1 [33]]),(10,hs 5 [ec 3 [46]]),(13,hs 6 [ec 4 [58]]),(14,hs 8 [ec 2 [62]]),(15,hs 7 [ec 1 [69]]),(16,hs 5 [ec 3 [74]])]⟩
def rc:Hint:=⟨[],[],[(1,hs 14 [ec 11 [17]])]⟩
def sN:Hint:=⟨[hc 11 [1,2,3,6,54,55,56]],[],[(3,hs 3 [ec 1 [31]]),(4,hs 9 [ec 2 [36]]),(5,hs 8 [ec 3 [40]]),(6,hs 8 [ec 1 [46]]),(13,[en 0,en 1,en 2,en 4,en 10,ec 3 [63],ec 5 [62],en 6,en 7,en 8,en 9,eh 11,en 12,en 13]),(15,hs 4 [ec 1 [72]])]⟩
def ze (Q:QT [.ag 9,.bool]) (N0:Nat) (n1:Int) (a19:Option Addr) (e19:List D) (c19:Nat) (n20 n21:Int) (y0:D) (n1_0:Int) (s1_1 s1_2:ByteArray) (n1_3 n1_4:Int) (a1_5:Option Addr) (e1_5:List D) (c1_5:Nat) (n1_6:Int) (a1_7:Option Addr) (e1_7:List D) (c1_7:Nat) (a1_8:Option Addr) (e1_8:List D) (c1_8:Nat) (N:Nat):Prop:=AT prog 115 [.ag 9,.bool] Q N0 .ord (zF prog 115 4) ⟨an 1 (.int .i64 n1::.pb 0 0 0 0::an 1 (.pb 1 0 0 0::an 14 (.sv a19 9 e19 c19::.int .i64 n20::.int .i64 n21::an 17 []))),[.vd y0 9,.var [.int .i64 n1_0,.str s1_1,.str s1_2,.int .i64 n1_3,.int .i64 n1_4,.sv a1_5 2 e1_5 c1_5,.int .i64 n1_6,.sv a1_7 2 e1_7 c1_7,.sv a1_8 9 e1_8 c1_8]],N,none⟩
def zh (E:Env) (Q:QT [(Sh.ag 9),(Sh.int IntKind.i64),(Sh.int IntKind.i64),Sh.bool]) (N0:Nat) (n7 n8 n0_0 n0_1:Int) (b0_2:Bool) (y1:D) (n2_0:Int) (s2_1 s2_2:ByteArray) (n2_3 n2_4:Int) (a2_5:Option Addr) (e2_5:List D) (c2_5:Nat) (n2_6:Int) (a2_7:Option Addr) (e2_7:List D) (c2_7:Nat) (a2_8:Option Addr) (e2_8:List D) (c2_8:Nat) (n3_0:Int) (s3_1 s3_2:ByteArray) (n3_3:Int) (x3_4 x3_5 x3_6 x3_7:D) (m3_8 c3_8:Nat) (r4:List D) (q4:Nat) (N:Nat):Prop:=AT prog 55 [(Sh.ag 9),(Sh.int IntKind.i64),(Sh.int IntKind.i64),Sh.bool] Q N0 (.io E [.var [.int .i64 0,.int .i64 0,.bool false]]) (zF prog 55 12) ⟨.pb 0 0 0 0::an 2 (.pb 1 0 0 0::.pb 2 0 0 0::an 1 (.pb 3 0 0 0::.int .i64 n7::.int .i64 n8::an 79 [])),[.var [.int .i64 n0_0,.int .i64 n0_1,.bool b0_2],.vd y1 9,.var [.int .i64 n2_0,.str s2_1,.str s2_2,.int .i64 n2_3,.int .i64 n2_4,.sv a2_5 2 e2_5 c2_5,.int .i64 n2_6,.sv a2_7 2 e2_7 c2_7,.sv a2_8 9 e2_8 c2_8],.var [.int .i64 n3_0,.str s3_1,.str s3_2,.int .i64 n3_3,.dc x3_4,.dc x3_5,.dc x3_6,.dc x3_7,.sb 4 9 0 m3_8 c3_8],.arr 34 9 r4 q4],N,some (vz E 0 [.var [.int .i64 0,.int .i64 0,.bool false]],[])⟩
def zV (E:Env) (Q:QT [(Sh.ag 9),(Sh.int IntKind.i64),(Sh.int IntKind.i64),Sh.bool]) (N0:Nat) (n0_0 n0_1:Int) (b0_2:Bool) (y1:D) (n2_0:Int) (s2_1 s2_2:ByteArray) (n2_3 n2_4:Int) (a2_5:Option Addr) (e2_5:List D) (c2_5:Nat) (n2_6:Int) (a2_7:Option Addr) (e2_7:List D) (c2_7:Nat) (a2_8:Option Addr) (e2_8:List D) (c2_8:Nat) (N:Nat):Prop:=AT prog 57 [(Sh.ag 9),(Sh.int IntKind.i64),(Sh.int IntKind.i64),Sh.bool] Q N0 (.io E [.var [.int .i64 0,.int .i64 0,.bool false]]) (zF prog 57 1) ⟨.pb 0 0 0 0::an 2 (.pb 1 0 0 0::.pb 2 0 0 0::an 57 []),[.var [.int .i64 n0_0,.int .i64 n0_1,.bool b0_2],.vd y1 9,.var [.int .i64 n2_0,.str s2_1,.str s2_2,.int .i64 n2_3,.int .i64 n2_4,.sv a2_5 2 e2_5 c2_5,.int .i64 n2_6,.sv a2_7 2 e2_7 c2_7,.sv a2_8 9 e2_8 c2_8]],N,some (vz E 0 [.var [.int .i64 0,.int .i64 0,.bool false]],[])⟩
def zk (E:Env) (Q:QT [(Sh.ag 9),(Sh.int IntKind.i64),(Sh.int IntKind.i64),Sh.bool]) (N0:Nat) (n2 n9 n0_0 n0_1:Int) (b0_2:Bool) (y1:D) (n2_0:Int) (s2_1 s2_2:ByteArray) (n2_3 n2_4:Int) (a2_5:Option Addr) (e2_5:List D) (c2_5:Nat) (n2_6:Int) (a2_7:Option Addr) (e2_7:List D) (c2_7:Nat) (a2_8:Option Addr) (e2_8:List D) (c2_8:Nat) (n3_0:Int) (s3_1 s3_2:ByteArray) (n3_3:Int) (x3_4 x3_5 x3_6 x3_7:D) (m3_8 c3_8:Nat) (r4:List D) (q4:Nat) (N:Nat):Prop:=AT prog 87 [(Sh.ag 9),(Sh.int IntKind.i64),(Sh.int IntKind.i64),Sh.bool] Q N0 (.io E [.var [.int .i64 0,.int .i64 0,.bool false]]) (zF prog 87 11) ⟨.pb 0 0 0 0::an 1 (.int .i64 n2::an 1 (.pb 1 0 0 0::an 1 (.pb 2 0 0 0::an 1 (.pb 3 0 0 0::.int .i64 n9::an 61 [])))),[.var [.int .i64 n0_0,.int .i64 n0_1,.bool b0_2],.vd y1 9,.var [.int .i64 n2_0,.str s2_1,.str s2_2,.int .i64 n2_3,.int .i64 n2_4,.sv a2_5 2 e2_5 c2_5,.int .i64 n2_6,.sv a2_7 2 e2_7 c2_7,.sv a2_8 9 e2_8 c2_8],.var [.int .i64 n3_0,.str s3_1,.str s3_2,.int .i64 n3_3,.dc x3_4,.dc x3_5,.dc x3_6,.dc x3_7,.sb 4 9 0 m3_8 c3_8],.arr 34 9 r4 q4],N,some (vz E 0 [.var [.int .i64 0,.int .i64 0,.bool false]],[])⟩
def yQ (E:Env) (Q:QT [(Sh.ag 9),(Sh.int IntKind.i64),(Sh.int IntKind.i64),Sh.bool]) (N0:Nat) (n28 n29 n0_0 n0_1:Int) (b0_2:Bool) (y1:D) (n2_0:Int) (s2_1 s2_2:ByteArray) (n2_3 n2_4:Int) (a2_5:Option Addr) (e2_5:List D) (c2_5:Nat) (n2_6:Int) (a2_7:Option Addr) (e2_7:List D) (c2_7:Nat) (a2_8:Option Addr) (e2_8:List D) (c2_8:Nat) (n3_0:Int) (s3_1 s3_2:ByteArray) (n3_3:Int) (x3_4 x3_5 x3_6 x3_7:D) (m3_8 c3_8:Nat) (r4:List D) (q4:Nat) (N:Nat):Prop:=AT prog 57 [(Sh.ag 9),(Sh.int IntKind.i64),(Sh.int IntKind.i64),Sh.bool] Q N0 (.io E [.var [.int .i64 0,.int .i64 0,.bool false]]) (zF prog 57 6) ⟨.pb 0 0 0 0::an 2 (.pb 1 0 0 0::.pb 2 0 0 0::.pb 3 0 0 0::an 22 (.int .i64 n28::.int .i64 n29::an 32 [])),[.var [.int .i64 n0_0,.int .i64 n0_1,.bool b0_2],.vd y1 9,.var [.int .i64 n2_0,.str s2_1,.str s2_2,.int .i64 n2_3,.int .i64 n2_4,.sv a2_5 2 e2_5 c2_5,.int .i64 n2_6,.sv a2_7 2 e2_7 c2_7,.sv a2_8 9 e2_8 c2_8],.var [.int .i64 n3_0,.str s3_1,.str s3_2,.int .i64 n3_3,.dc x3_4,.dc x3_5,.dc x3_6,.dc x3_7,.sb 4 9 0 m3_8 c3_8],.arr 34 9 r4 q4],N,some (vz E 0 [.var [.int .i64 0,.int .i64 0,.bool false]],[])⟩
def yC (Q:QT [.ag 9,.int .i64,.bool]) (N0:Nat) (n1:Int) (a2_0:Addr) (x2_0_:D) (a54:Option Addr) (e54:List D) (c54:Nat) (n55 n56:Int) (y0:D) (n1_0:Int) (s1_1 s1_2:ByteArray) (n1_3 n1_4:Int) (a1_5:Option Addr) (e1_5:List D) (c1_5:Nat) (n1_6:Int) (a1_7:Option Addr) (e1_7:List D) (c1_7:Nat) (a1_8:Option Addr) (e1_8:List D) (c1_8:Nat) (N:Nat):Prop:=AT prog 77 [.ag 9,.int .i64,.bool] Q N0 .ord (zF prog 77 11) ⟨an 1 (.int .i64 n1::.fn 116 [.pd a2_0 9 x2_0_]::.pb 0 0 0 0::an 2 (.pb 1 0 0 0::an 47 (.sv a54 9 e54 c54::.int .i64 n55::.int .i64 n56::an 26 []))),[.vd y0 9,.var [.int .i64 n1_0,.str s1_1,.str s1_2,.int .i64 n1_3,.int .i64 n1_4,.sv a1_5 2 e1_5 c1_5,.int .i64 n1_6,.sv a1_7 2 e1_7 c1_7,.sv a1_8 9 e1_8 c1_8]],N,none⟩
theorem zDb (N:Nat) (x0:D) (n1:Int) (Q:QT [.ag 9,.int .i64,.bool]) (h :
Bel N x0→∀ d,N≤d→ACalls prog 34 [.bool] [.dg 9 x0,.int .i64 0] d (fun b e=>d≤e→Br (!b) (∀ a,e≤a→Q (D.ag [D.lit (.int .i64 0),
 D.lit (.string (bytes [])),D.lit (.string (bytes [])),D.lit (.int .i64 0),D.lit (.int .i64 0),D.sl Option.none 2 [] 0,D.lit (.int .i64 0),D.sl Option.none
 2 [] 0,D.sl Option.none 9 [] 0]) 0 false a) (∀ b,e≤b→ACalls prog 52 [.bool] [.int .i64 n1,.int .i64 0,.int .i64 200] b (fun d e=>b≤e
 → Br (!d) (∀ a,e≤a→Q (D.ag [D.lit (.int .i64 0),D.lit (.string (bytes [])),D.lit (.string (bytes [])),D.lit (.int .i64 0),D.lit (.int .i64 0),D.sl
 Option.none 2 [] 0,D.lit (.int .i64 0),D.sl Option.none 2 [] 0,D.sl Option.none 9 [] 0]) 0 false a) (∀ b,e≤b→ACalls prog 35 [Sh.pk,.int .i64,.str,
 .str,.int .i64,Sh.dc,Sh.dc,Sh.dc,Sh.dc,.row (OfNat.ofNat 34) 9] [.dg 9 x0] b (fun n s c d x e f g h i j=>b≤j→Bel j (D.ag h)→(h.length
 = h.length∧i=i)∧∀ a b,j≤b→Fresh N b a [D.ag h]→∀ j,b≤j→BCalls prog 55 [.ag 9,.int .i64,.int .i64,.bool] [.pb 0 0 0 0,.dg
 9 (D.ag [D.lit (.int .i64 n),D.lit (.string s),D.lit (.string c),D.lit (.int .i64 d),x,e,f,g,D.sl a 9 h i])] [Bx.var [.int .i64 n1,.int .i64
 0,.bool false]] j (fun a _ b c d=>j≤d→Bel d a→Br c (∀ a,d≤a→Q (D.ag [D.lit (.int .i64 0),D.lit (.string (bytes
 [])),D.lit (.string (bytes [])),D.lit (.int .i64 0),D.lit (.int .i64 0),D.sl Option.none 2 [] 0,D.lit (.int .i64 0),D.sl Option.none 2 [] 0,D.sl Option.none
 9 [] 0]) 0 false a) (∀ c,d≤c→ACalls prog 35 [Sh.pk,.int .i64,.str,.str,.int .i64,Sh.dc,Sh.dc,Sh.dc,Sh.dc,.row (OfNat.ofNat 34) 9] [.dg
 9 a] c (fun a d e f g h i j k l m=>c≤m→Bel m (D.ag k)→(k.length=k.length∧l=l)∧(k.length=k.length
 ∧ l=l)∧∀ c n,m≤n→Fresh N n c [D.ag k,g,h,i,j]→∀ m,n≤m→Q (D.ag [D.lit (.int .i64 a),D.lit (.string
 d),D.lit (.string e),D.lit (.int .i64 f),g,h,i,j,D.sl c 9 k l]) b true m))))))))):ACalls prog 28 [.ag 9,.int .i64,.bool] [PV.dg 9 x0,PV.int .i64 n1] N Q:=
  zJu (H:=zDV) (by kernel_rfl) (by kernel_rfl) h
theorem zDz (N:Nat) (x0:D) (n1:Int) (Q:QT [.ag 9,.int .i64,.bool]) (h :
Bel N x0→∀ d,N≤d→ACalls prog 39 [.bool] [.dg 9 x0,.int .i64 0] d (fun b e=>d≤e→Br (!b) (∀ a,e≤a→Q (D.ag [D.lit (.int .i64 0),
 D.lit (.string (bytes [])),D.lit (.string (bytes [])),D.lit (.int .i64 0),D.lit (.int .i64 0),D.sl Option.none 2 [] 0,D.lit (.int .i64 0),D.sl Option.none
 2 [] 0,D.sl Option.none 9 [] 0]) 0 false a) (∀ b,e≤b→ACalls prog 56 [.bool] [.int .i64 n1,.int .i64 0,.int .i64 200] b (fun d e=>b≤e
 → Br (!d) (∀ a,e≤a→Q (D.ag [D.lit (.int .i64 0),D.lit (.string (bytes [])),D.lit (.string (bytes [])),D.lit (.int .i64 0),D.lit (.int .i64 0),D.sl
 Option.none 2 [] 0,D.lit (.int .i64 0),D.sl Option.none 2 [] 0,D.sl Option.none 9 [] 0]) 0 false a) (∀ b,e≤b→ACalls prog 40 [Sh.pk,.int .i64,.str,
 .str,.int .i64,Sh.dc,Sh.dc,Sh.dc,Sh.dc,.row (OfNat.ofNat 34) 9] [.dg 9 x0] b (fun n s c d x e f g h i j=>b≤j→Bel j (D.ag h)→(h.length
 = h.length∧i=i)∧∀ a b,j≤b→Fresh N b a [D.ag h]→∀ j,b≤j→BCalls prog 57 [.ag 9,.int .i64,.int .i64,.bool] [.pb 0 0 0 0,.dg
 9 (D.ag [D.lit (.int .i64 n),D.lit (.string s),D.lit (.string c),D.lit (.int .i64 d),x,e,f,g,D.sl a 9 h i])] [Bx.var [.int .i64 n1,.int .i64
 0,.bool false]] j (fun a _ b c d=>j≤d→Bel d a→Br c (∀ a,d≤a→Q (D.ag [D.lit (.int .i64 0),D.lit (.string (bytes
 [])),D.lit (.string (bytes [])),D.lit (.int .i64 0),D.lit (.int .i64 0),D.sl Option.none 2 [] 0,D.lit (.int .i64 0),D.sl Option.none 2 [] 0,D.sl Option.none
 9 [] 0]) 0 false a) (∀ c,d≤c→ACalls prog 40 [Sh.pk,.int .i64,.str,.str,.int .i64,Sh.dc,Sh.dc,Sh.dc,Sh.dc,.row (OfNat.ofNat 34) 9] [.dg
 9 a] c (fun a d e f g h i j k l m=>c≤m→Bel m (D.ag k)→(k.length=k.length∧l=l)∧(k.length=k.length
 ∧ l=l)∧∀ c n,m≤n→Fresh N n c [D.ag k,g,h,i,j]→∀ m,n≤m→Q (D.ag [D.lit (.int .i64 a),D.lit (.string
 d),D.lit (.string e),D.lit (.int .i64 f),g,h,i,j,D.sl c 9 k l]) b true m))))))))):ACalls prog 29 [.ag 9,.int .i64,.bool] [PV.dg 9 x0,PV.int .i64 n1] N Q:=
  zJu (H:=zD0) (by kernel_rfl) (by kernel_rfl) h
theorem pO (N:Nat) (x0:D) (n1:Int) (Q:QT [.ag 9,.bool]) (h :
Bel N x0→∃ n:Int,(x0.cell 0)=D.lit (.int .i64 n)∧Br (n==11) (Br (n1==1) (∀ a,N≤a→Q x0 true a) (∃ a b,∃ c:Nat,(x0.cell 8)=D.sl a 9
 b c∧ze Q N n1 a b c (b.length:Int) 0 x0 0 (bytes []) (bytes []) 0 0 Option.none [] 0 0 Option.none [] 0 Option.none [] 0 N)) (∃ a b,
 ∃ c:Nat,(x0.cell 8)=D.sl a 9 b c∧ze Q N n1 a b c (b.length:Int) 0 x0 0 (bytes []) (bytes []) 0 0 Option.none [] 0 0
 Option.none [] 0 Option.none [] 0 N)):ACalls prog 115 [.ag 9,.bool] [PV.dg 9 x0,PV.int .i64 n1] N Q:=
  zJu (H:=uP) (by kernel_rfl) (by kernel_rfl) h
theorem sd (N:Nat) (x0:D) (n1:Int) (Q:QT [.bool]) (h :
Bel N x0→∀ a,N≤a→ACalls prog 9 [.int .i64] [.dg 9 x0,.int .i64 1048576] a (fun n c=>a≤c→Br (decide (n<0)) (∀ a,c≤a→Q true
 a) (∀ a,c≤a→ACalls prog 11 [.ag 9] [.dg 9 x0] a (fun x c=>a≤c→Bel c x→∀ a,c≤a→ACalls prog 28 [.ag 9,.int .i64,.bool]
 [.dg 9 x,.int .i64 n1] a (fun b c d e=>a≤e→Bel e b→∀ a,e≤a→ACalls prog 11 [.ag 9] [.dg 9 x0] a (fun e f=>a≤f →
 Bel f e→∀ a,f≤a→ACalls prog 29 [.ag 9,.int .i64,.bool] [.dg 9 e,.int .i64 n1] a (fun f g h i=>a≤i→Bel i f →
 ∀ a,i≤a→ACalls prog 13 [.bool] [.dg 9 f,.dg 9 b] a (fun i j=>a≤j→Br (!i) (∀ a,j≤a→Q false a) (Br (bne g
 c) (∀ a,j≤a→Q false a) (Br (!(h==d)) (∀ a,j≤a→Q false a) (∀ a,j≤a→ACalls prog 11 [.ag 9] [.dg 9 x0] a (fun
 i j=>a≤j→Bel j i→∀ a,j≤a→ACalls prog 13 [.bool] [.dg 9 e,.dg 9 i] a (fun i j=>a≤j→Br (!i) (∀ a,
 j≤a→Q false a) (Tree e∧Low N e∧e=e∧Dis e [x0,b,f]∧∀ a,j≤a→MC prog 14 e 1 a (fun e i j=>a ≤
 j→Br (decide (i<0)) (∀ a,j≤a→Q false a) (∀ a,j≤a→ACalls prog 13 [.bool] [.dg 9 f,.dg 9 b] a (fun i j=>a
 ≤ j→Br (!i) (∀ a,j≤a→Q false a) (Br (bne g c) (∀ a,j≤a→Q false a) (Br (!(h==d)) (∀ a,j≤a→Q false a)
 (Tree f∧Low N f∧f=f∧Dis f [x0,b,e]∧∀ a,j≤a→MC prog 14 f 1 a (fun e f g=>a≤g→∀ a,g≤a →
 ACalls prog 15 [.int .i64] [.dg 9 e,.int .i64 1] a (fun g h=>a≤h→Br (decide (g<0)) (∀ a,h≤a→Q false a) (Br (bne g f)
 (∀ a,h≤a→Q false a) (∀ a,h≤a→ACalls prog 11 [.ag 9] [.dg 9 x0] a (fun g h=>a≤h→Bel h g→∀ a,h≤a
 → ACalls prog 29 [.ag 9,.int .i64,.bool] [.dg 9 g,.int .i64 n1] a (fun g h i j=>a≤j→Bel j g→∀ a,j≤a→ACalls prog
 13 [.bool] [.dg 9 g,.dg 9 b] a (fun b g=>a≤g→Br (!b) (∀ a,g≤a→Q false a) (Br (bne h c) (∀ a,g≤a→Q false
 a) (Br (!(i==d)) (∀ a,g≤a→Q false a) (∀ a,g≤a→ACalls prog 15 [.int .i64] [.dg 9 e,.int .i64 1] a (fun b c=>a
 ≤ c→Br (decide (b<0)) (∀ a,c≤a→Q false a) (Br (bne b f) (∀ a,c≤a→Q false a) (∀ a,c≤a→Q true a)))))))))))))))))))))))))))))))) 
 ):ACalls prog 7 [.bool] [PV.dg 9 x0,PV.int .i64 n1] N Q:=
  zJu (H:=s9) (by kernel_rfl) (by kernel_rfl) h
theorem zAg (N:Nat) (x1:D) (nB0_0 nB0_1:Int) (bB0_2:Bool) (Q:QT [(Sh.ag 9),(Sh.int IntKind.i64),(Sh.int IntKind.i64),Sh.bool]) (h:∀ E:Env,
Bel N x1→Br bB0_2 (ud E [.var [.int .i64 0,.int .i64 0,.bool false]]∧∀ a,N≤a→Q x1 nB0_0 nB0_1 bB0_2 a) (∀ d,N≤d→ACalls prog 53 [.bool]
 [.dg 9 x1] d (fun b e=>d≤e→Br b (ud E [.var [.int .i64 0,.int .i64 0,.bool false]]∧∀ a,e≤a→Q x1 nB0_0 nB0_1 bB0_2 a) (∃ n:Int,
 (x1.cell 0)=D.lit (.int .i64 n)∧Br (n==10) (∃ a b,∃ c:Nat,(x1.cell 8)=D.sl a 9 b c∧((0:Int)≤(0:Int)∧0<(b.length:Int))∧∀ a,e ≤
 a→BCalls prog 87 [.ag 9,.int .i64,.int .i64,.bool] [.pb 0 0 0 0,.dg 9 (List.getD b 0 default),.int .i64 1] [Bx.var [.int .i64 nB0_0,.int .i64 nB0_1,.bool
 bB0_2]] a (fun x b c d e=>a≤e→Bel e x→(1=([x]).length∧1=1)∧∀ a,ApA a [x]→∀ f,e≤f→w8 f [a]→ACalls prog 86
 [.ag 9] [.int .i64 10,.sv a 9 [x] 1] f (fun e g=>f≤g→Off [a] e∧(Bel g e→Br d (ud E [.var [.int .i64 0,.int .i64 0,.bool false]]
 ∧ ∀ a,g≤a→Q e b c true a) (∀ a,g≤a→ACalls prog 53 [.bool] [.dg 9 e] a (fun d f=>a≤f→ud E [.var [.int .i64
 0,.int .i64 0,.bool false]]∧∀ a,f≤a→Q e b c (!d) a)))))) (∀ a,e≤a→ACalls prog 35 [Sh.pk,.int .i64,.str,.str,.int .i64,
 Sh.dc,Sh.dc,Sh.dc,Sh.dc,.row (OfNat.ofNat 34) 9] [.dg 9 x1] a (fun b s c d e f g h i j k=>a≤k→Bel k (D.ag i)→∃ a
 : Int,(x1.cell 0)=D.lit (.int .i64 a)∧Br (a==4) (∃ a l,∃ m:Nat,(x1.cell 8)=D.sl a 9 l m∧zh E Q N (l.length:Int)
 0 nB0_0 nB0_1 bB0_2 x1 0 (bytes []) (bytes []) 0 0 Option.none [] 0 0 Option.none [] 0 Option.none [] 0 b s c d e f g h i.length j i j k)
 (∃ a:Int,(x1.cell 0)=D.lit (.int .i64 a)∧Br (a==7) (∃ a l,∃ m:Nat,(x1.cell 8)=D.sl a 9 l m∧zh E Q N (l.length
 : Int) 0 nB0_0 nB0_1 bB0_2 x1 0 (bytes []) (bytes []) 0 0 Option.none [] 0 0 Option.none [] 0 Option.none [] 0 b s c d e f g h i.length j i
 j k) (zh E Q N 1 0 nB0_0 nB0_1 bB0_2 x1 0 (bytes []) (bytes []) 0 0 Option.none [] 0 0 Option.none [] 0 Option.none [] 0 b s c d e f
 g h i.length j i j k)))))))):BCalls prog 55 [(Sh.ag 9),(Sh.int IntKind.i64),(Sh.int IntKind.i64),Sh.bool] [.pb 0 0 0 0,.dg 9 x1] [.var [.int .i64 nB0_0,.int .i64 nB0_1,.bool bB0_2]] N Q:=
  zH2 (H:=qA) (by kernel_rfl) (fun E=>by kernel_rfl) h
theorem tv (N:Nat) (x1:D) (nB0_0 nB0_1:Int) (bB0_2:Bool) (Q:QT [(Sh.ag 9),(Sh.int IntKind.i64),(Sh.int IntKind.i64),Sh.bool]) (h:∀ E:Env,
Bel N x1→zV E Q N nB0_0 nB0_1 bB0_2 x1 0 (bytes []) (bytes []) 0 0 Option.none [] 0 0 Option.none [] 0 Option.none [] 0 N):BCalls prog 57 [(Sh.ag 9),(Sh.int IntKind.i64),(Sh.int IntKind.i64),Sh.bool] [.pb 0 0 0 0,.dg 9 x1] [.var [.int .i64 nB0_0,.int .i64 nB0_1,.bool bB0_2]] N Q:=
 zH2 (H:=xo) (by kernel_rfl) (fun E=>by kernel_rfl) h
theorem vH (Q:QT [.ag 9,.bool]) (N0:Nat) (n1:Int) (a19:Option Addr) (e19:List D) (c19:Nat) (n20 n21:Int) (y0:D) (n1_0:Int) (s1_1 s1_2:ByteArray) (n1_3 n1_4:Int) (a1_5:Option Addr) (e1_5:List D) (c1_5:Nat) (n1_6:Int) (a1_7:Option Addr) (e1_7:List D) (c1_7:Nat) (a1_8:Option Addr) (e1_8:List D) (c1_8:Nat) (N:Nat) (h :
Br (decide (n21<n20)) ((0≤n21∧n21<(e19.length:Int))∧∀ a,N≤a→ACalls prog 107 [.int .i64] [.dg 9 y0,.int .i64 n1] a (fun n c=>a≤c
 → ∀ a,c≤a→ACalls prog 115 [.ag 9,.bool] [.dg 9 (List.getD e19 n21.toNat default),.int .i64 n] a (fun x b c=>a≤c→Bel c x→Br b (∀ a,
 c≤a→Q x true a) (ze Q N0 n1 a19 e19 c19 n20 (IntKind.i64.wrap (n21+1)) y0 n1_0 s1_1 s1_2 n1_3 n1_4 a1_5 e1_5 c1_5 n1_6 a1_7 e1_7 c1_7
 a1_8 e1_8 c1_8 c)))) ((1=1∧1=1)∧∀ a b,N≤b→Fresh N0 b a [D.ag [D.ag [D.lit (.int .i64 0),D.lit (.string (bytes [])),D.lit (.string (bytes [])),
 D.lit (.int .i64 0),D.lit (.int .i64 0),D.sl Option.none 2 [] 0,D.lit (.int .i64 0),D.sl Option.none 2 [] 0,D.sl Option.none 9 [] 0]]]→∀ c,b≤c →
 ACalls prog 152 [.ag 9] [.int .i64 11,.sv a 9 [D.ag [D.lit (.int .i64 0),D.lit (.string (bytes [])),D.lit (.string (bytes [])),D.lit (.int .i64 0),D.lit (.int
 .i64 0),D.sl Option.none 2 [] 0,D.lit (.int .i64 0),D.sl Option.none 2 [] 0,D.sl Option.none 9 [] 0]] 1] c (fun a b=>c≤b→Bel b a→∀ c,
 b≤c→Q a false c))):ze Q N0 n1 a19 e19 c19 n20 n21 y0 n1_0 s1_1 s1_2 n1_3 n1_4 a1_5 e1_5 c1_5 n1_6 a1_7 e1_7 c1_7 a1_8 e1_8 c1_8 N:=
  zKJ (H:=uP) (by kernel_rfl) h
theorem uo (N:Nat) (x1:D) (n2 nB0_0 nB0_1:Int) (bB0_2:Bool) (Q:QT [(Sh.ag 9),(Sh.int IntKind.i64),(Sh.int IntKind.i64),Sh.bool]) (h:∀ E:Env,
Bel N x1→Br bB0_2 (ud E [.var [.int .i64 0,.int .i64 0,.bool false]]∧∀ a,N≤a→Q x1 nB0_0 nB0_1 bB0_2 a) (∃ n:Int,(x1.cell 0)=D.lit (.int .i64
 n)∧Br (n==11) (Br (n2==1) (∃ a d,∃ c:Nat,(x1.cell 8)=D.sl a 9 d c∧((0:Int)≤(0:Int)∧0<(d.length:Int))∧∀ a,N≤a→BCalls prog
 55 [.ag 9,.int .i64,.int .i64,.bool] [.pb 0 0 0 0,.dg 9 (List.getD d 0 default)] [Bx.var [.int .i64 nB0_0,.int .i64 nB0_1,.bool bB0_2]] a (fun x b c
 d e=>a≤e→Bel e x→Br d (ud E [.var [.int .i64 0,.int .i64 0,.bool false]]∧∀ a,e≤a→Q x1 b c true a) (∃ a:Int,(x.cell 0)
 = D.lit (.int .i64 a)∧Br (bne a 10) (ud E [.var [.int .i64 0,.int .i64 0,.bool false]]∧∀ a,e≤a→Q x1 b c true a) (∃ a f,∃ g :
 Nat,(x.cell 8)=D.sl a 9 f g∧((0:Int)≤(0:Int)∧0<(f.length:Int))∧∀ a,e≤a→BCalls prog 114 [.ag 9,.int .i64,.int .i64,.bool]
 [.pb 0 0 0 0,.dg 9 (List.getD f 0 default)] [Bx.var [.int .i64 b,.int .i64 c,.bool d]] a (fun b c d e f=>a≤f→Bel f b→ud E
 [.var [.int .i64 0,.int .i64 0,.bool false]]∧∀ a,f≤a→Q b c d e a))))) (∀ a,N≤a→ACalls prog 35 [Sh.pk,.int .i64,.str,.str,.int
 .i64,Sh.dc,Sh.dc,Sh.dc,Sh.dc,.row (OfNat.ofNat 34) 9] [.dg 9 x1] a (fun b s c d e f g h i j k=>a≤k→Bel k (D.ag i) →
 zk E Q N n2 0 nB0_0 nB0_1 bB0_2 x1 0 (bytes []) (bytes []) 0 0 Option.none [] 0 0 Option.none [] 0 Option.none [] 0 b s c d e f g h
 i.length j i j k))) (∀ a,N≤a→ACalls prog 35 [Sh.pk,.int .i64,.str,.str,.int .i64,Sh.dc,Sh.dc,Sh.dc,Sh.dc,.row (OfNat.ofNat 34) 9]
 [.dg 9 x1] a (fun b c d e f g h i j k l=>a≤l→Bel l (D.ag j)→zk E Q N n2 0 nB0_0 nB0_1 bB0_2 x1 0 (bytes
 []) (bytes []) 0 0 Option.none [] 0 0 Option.none [] 0 Option.none [] 0 b c d e f g h i j.length k j k l)))):BCalls prog 87 [(Sh.ag 9),(Sh.int IntKind.i64),(Sh.int IntKind.i64),Sh.bool] [.pb 0 0 0 0,.dg 9 x1,.int .i64 n2] [.var [.int .i64 nB0_0,.int .i64 nB0_1,.bool bB0_2]] N Q:=
  zH2 (H:=ro) (by kernel_rfl) (fun E=>by kernel_rfl) h
theorem xL (E:Env) (Q:QT [(Sh.ag 9),(Sh.int IntKind.i64),(Sh.int IntKind.i64),Sh.bool]) (N0:Nat) (n7 n8 n0_0 n0_1:Int) (b0_2:Bool) (y1:D) (n2_0:Int) (s2_1 s2_2:ByteArray) (n2_3 n2_4:Int) (a2_5:Option Addr) (e2_5:List D) (c2_5:Nat) (n2_6:Int) (a2_7:Option Addr) (e2_7:List D) (c2_7:Nat) (a2_8:Option Addr) (e2_8:List D) (c2_8:Nat) (n3_0:Int) (s3_1 s3_2:ByteArray) (n3_3:Int) (x3_4 x3_5 x3_6 x3_7:D) (m3_8 c3_8:Nat) (r4:List D) (q4:Nat) (N:Nat) (h :
Br (decide (n8<n7)) (∃ a d,∃ c:Nat,(y1.cell 8)=D.sl a 9 d c∧Br (decide (n8<(d.length:Int))) (Br (!b0_2) (∃ a c,∃ d:Nat,(y1.cell 8) =
 D.sl a 9 c d∧(0≤n8∧n8<(c.length:Int))∧∀ a,N≤a→BCalls prog 55 [.ag 9,.int .i64,.int .i64,.bool] [.pb 0 0 0 0,.dg 9 (List.getD c
 n8.toNat default)] [Bx.var [.int .i64 n0_0,.int .i64 n0_1,.bool b0_2]] a (fun x n b c d=>a≤d→Bel d x→(0≤n8∧n8<(m3_8:Int)∧(0+n8.toNat
 : Nat)<r4.length)∧(0+n8.toNat:Nat)<r4.length∧zh E Q N0 n7 (IntKind.i64.wrap (n8+1)) n b c y1 n2_0 s2_1 s2_2 n2_3 n2_4 a2_5 e2_5 c2_5
 n2_6 a2_7 e2_7 c2_7 a2_8 e2_8 c2_8 n3_0 s3_1 s3_2 n3_3 x3_4 x3_5 x3_6 x3_7 m3_8 c3_8 (List.set r4 (0+n8.toNat:Nat) x) q4 d)) ((m3_8=r4.length∧c3_8=q4)
 ∧ (m3_8=r4.length∧c3_8=q4)∧∀ a b,N≤b→Fresh N0 b a [D.ag r4]→∀ c,b≤c→BCalls prog 88 [.ag 9,.int .i64,.int .i64,.bool] [.pb
 0 0 0 0,.dg 9 (D.ag [D.lit (.int .i64 n3_0),D.lit (.string s3_1),D.lit (.string s3_2),D.lit (.int .i64 n3_3),x3_4,x3_5,x3_6,x3_7,D.sl a 9 r4 q4])] [Bx.var
 [.int .i64 n0_0,.int .i64 n0_1,.bool b0_2]] c (fun a b d e f=>c≤f→Bel f a→ud E [.var [.int .i64 0,.int .i64 0,.bool false]]∧∀
 c,f≤c→Q a b d e c))) ((m3_8=r4.length∧c3_8=q4)∧(m3_8=r4.length∧c3_8=q4)∧∀ a b,N≤b→Fresh N0 b a [D.ag r4]→∀
 c,b≤c→BCalls prog 88 [.ag 9,.int .i64,.int .i64,.bool] [.pb 0 0 0 0,.dg 9 (D.ag [D.lit (.int .i64 n3_0),D.lit (.string s3_1),D.lit (.string s3_2),
 D.lit (.int .i64 n3_3),x3_4,x3_5,x3_6,x3_7,D.sl a 9 r4 q4])] [Bx.var [.int .i64 n0_0,.int .i64 n0_1,.bool b0_2]] c (fun a b d e f=>c≤f
 → Bel f a→ud E [.var [.int .i64 0,.int .i64 0,.bool false]]∧∀ c,f≤c→Q a b d e c))) ((m3_8=r4.length∧c3_8=q4)∧(m3_8 =
 r4.length∧c3_8=q4)∧∀ a b,N≤b→Fresh N0 b a [D.ag r4]→∀ c,b≤c→BCalls prog 88 [.ag 9,.int .i64,.int .i64,.bool] [.pb 0 0
 0 0,.dg 9 (D.ag [D.lit (.int .i64 n3_0),D.lit (.string s3_1),D.lit (.string s3_2),D.lit (.int .i64 n3_3),x3_4,x3_5,x3_6,x3_7,D.sl a 9 r4 q4])] [Bx.var
 [.int .i64 n0_0,.int .i64 n0_1,.bool b0_2]] c (fun a b d e f=>c≤f→Bel f a→ud E [.var [.int .i64 0,.int .i64 0,.bool false]]
 ∧ ∀ c,f≤c→Q a b d e c))):zh E Q N0 n7 n8 n0_0 n0_1 b0_2 y1 n2_0 s2_1 s2_2 n2_3 n2_4 a2_5 e2_5 c2_5 n2_6 a2_7 e2_7 c2_7 a2_8 e2_8 c2_8 n3_0 s3_1 s3_2 n3_3 x3_4 x3_5 x3_6 x3_7 m3_8 c3_8 r4 q4 N:=
  zKJ (H:=qA) (by kernel_rfl) h
theorem wy (E:Env) (Q:QT [(Sh.ag 9),(Sh.int IntKind.i64),(Sh.int IntKind.i64),Sh.bool]) (N0:Nat) (n0_0 n0_1:Int) (b0_2:Bool) (y1:D) (n2_0:Int) (s2_1 s2_2:ByteArray) (n2_3 n2_4:Int) (a2_5:Option Addr) (e2_5:List D) (c2_5:Nat) (n2_6:Int) (a2_7:Option Addr) (e2_7:List D) (c2_7:Nat) (a2_8:Option Addr) (e2_8:List D) (c2_8:Nat) (N:Nat) (h :
Br (!b0_2) (∀ a,N≤a→ACalls prog 76 [.bool] [.dg 9 y1] a (fun b d=>a≤d→Br (!b) (∃ n:Int,(y1.cell 0)=D.lit (.int .i64 n)∧Br (n==10)
 (∀ a,d≤a→BCalls prog 89 [.ag 9,.int .i64,.int .i64,.bool] [.pb 0 0 0 0,.dg 9 y1] [Bx.var [.int .i64 n0_0,.int .i64 n0_1,.bool b0_2]] a (fun x
 b c d e=>a≤e→Bel e x→zV E Q N0 b c d x n2_0 s2_1 s2_2 n2_3 n2_4 a2_5 e2_5 c2_5 n2_6 a2_7 e2_7 c2_7 a2_8 e2_8 c2_8
 e)) (∀ a,d≤a→ACalls prog 40 [Sh.pk,.int .i64,.str,.str,.int .i64,Sh.dc,Sh.dc,Sh.dc,Sh.dc,.row (OfNat.ofNat 34) 9] [.dg 9 y1] a (fun b s
 c d e f g h i j k=>a≤k→Bel k (D.ag i)→∀ a,k≤a→ACalls prog 79 [.int .i64] [.dg 9 y1] a (fun k l=>a≤l→yQ
 E Q N0 k 0 n0_0 n0_1 b0_2 y1 n2_0 s2_1 s2_2 n2_3 n2_4 a2_5 e2_5 c2_5 n2_6 a2_7 e2_7 c2_7 a2_8 e2_8 c2_8 b s c d e f g h i.length j i j l))))
 (ud E [.var [.int .i64 0,.int .i64 0,.bool false]]∧∀ a,d≤a→Q y1 n0_0 n0_1 b0_2 a))) (ud E [.var [.int .i64 0,.int .i64 0,.bool false]]∧∀
 a,N≤a→Q y1 n0_0 n0_1 b0_2 a)):zV E Q N0 n0_0 n0_1 b0_2 y1 n2_0 s2_1 s2_2 n2_3 n2_4 a2_5 e2_5 c2_5 n2_6 a2_7 e2_7 c2_7 a2_8 e2_8 c2_8 N:=
  zKJ (H:=xo) (by kernel_rfl) h
theorem zAQ (N:Nat) (x1:D) (nB0_0 nB0_1:Int) (bB0_2:Bool) (Q:QT [(Sh.ag 9),(Sh.int IntKind.i64),(Sh.int IntKind.i64),Sh.bool]) (h:∀ E:Env,
Bel N x1→Br bB0_2 (ud E [.var [.int .i64 0,.int .i64 0,.bool false]]∧∀ a,N≤a→Q x1 nB0_0 (IntKind.i64.wrap (nB0_1+1)) true a) (Br (decide (IntKind.i64.wrap
 (nB0_1+1)>nB0_0)) (ud E [.var [.int .i64 0,.int .i64 0,.bool false]]∧∀ a,N≤a→Q x1 nB0_0 (IntKind.i64.wrap (nB0_1+1)) true a) (∀ a,N≤a
 → ACalls prog 48 [.int .i64] [.dg 9 x1] a (fun n b=>a≤b→ud E [.var [.int .i64 0,.int .i64 0,.bool false]]∧∀ a,b≤a→Q x1 nB0_0 (IntKind.i64.wrap
 (nB0_1+1)) (decide (n>400)) a)))):BCalls prog 114 [(Sh.ag 9),(Sh.int IntKind.i64),(Sh.int IntKind.i64),Sh.bool] [.pb 0 0 0 0,.dg 9 x1] [.var [.int .i64 nB0_0,.int .i64 nB0_1,.bool bB0_2]] N Q:=
  zH2 (H:=zDI) (by kernel_rfl) (fun E=>by kernel_rfl) h
theorem xM (E:Env) (Q:QT [(Sh.ag 9),(Sh.int IntKind.i64),(Sh.int IntKind.i64),Sh.bool]) (N0:Nat) (n2 n9 n0_0 n0_1:Int) (b0_2:Bool) (y1:D) (n2_0:Int) (s2_1 s2_2:ByteArray) (n2_3 n2_4:Int) (a2_5:Option Addr) (e2_5:List D) (c2_5:Nat) (n2_6:Int) (a2_7:Option Addr) (e2_7:List D) (c2_7:Nat) (a2_8:Option Addr) (e2_8:List D) (c2_8:Nat) (n3_0:Int) (s3_1 s3_2:ByteArray) (n3_3:Int) (x3_4 x3_5 x3_6 x3_7:D) (m3_8 c3_8:Nat) (r4:List D) (q4:Nat) (N:Nat) (h :
∃ a d,∃ c:Nat,(y1.cell 8)=D.sl a 9 d c∧Br (decide (n9<(d.length:Int))) (∃ a c,∃ d:Nat,(y1.cell 8)=D.sl a 9 c d∧(0≤n9∧n9
 < (c.length:Int))∧∀ a,N≤a→ACalls prog 100 [.int .i64] [.dg 9 y1,.int .i64 n2] a (fun n d=>a≤d→∀ a,d≤a→BCalls prog 87 [.ag
 9,.int .i64,.int .i64,.bool] [.pb 0 0 0 0,.dg 9 (List.getD c n9.toNat default),.int .i64 n] [Bx.var [.int .i64 n0_0,.int .i64 n0_1,.bool b0_2]] a (fun
 x b c d e=>a≤e→Bel e x→(0≤n9∧n9<(m3_8:Int)∧(0+n9.toNat:Nat)<r4.length)∧(0+n9.toNat:Nat)<r4.length∧zk
 E Q N0 n2 (IntKind.i64.wrap (n9+1)) b c d y1 n2_0 s2_1 s2_2 n2_3 n2_4 a2_5 e2_5 c2_5 n2_6 a2_7 e2_7 c2_7 a2_8 e2_8 c2_8 n3_0 s3_1 s3_2 n3_3 x3_4 x3_5 x3_6
 x3_7 m3_8 c3_8 (List.set r4 (0+n9.toNat:Nat) x) q4 e))) ((m3_8=r4.length∧c3_8=q4)∧(m3_8=r4.length∧c3_8=q4)∧(m3_8=r4.length∧c3_8=q4) ∧
 ∀ a b,N≤b→Fresh N0 b a [D.ag r4,x3_4,x3_5,x3_6,x3_7]→ud E [.var [.int .i64 0,.int .i64 0,.bool false]]∧∀ c,b≤c→Q (D.ag [D.lit
 (.int .i64 n3_0),D.lit (.string s3_1),D.lit (.string s3_2),D.lit (.int .i64 n3_3),x3_4,x3_5,x3_6,x3_7,D.sl a 9 r4 q4]) n0_0 n0_1 b0_2 c)):zk E Q N0 n2 n9 n0_0 n0_1 b0_2 y1 n2_0 s2_1 s2_2 n2_3 n2_4 a2_5 e2_5 c2_5 n2_6 a2_7 e2_7 c2_7 a2_8 e2_8 c2_8 n3_0 s3_1 s3_2 n3_3 x3_4 x3_5 x3_6 x3_7 m3_8 c3_8 r4 q4 N:=
  zKJ (H:=ro) (by kernel_rfl) h
theorem uW (N:Nat) (x1:D) (nB0_0 nB0_1:Int) (bB0_2:Bool) (Q:QT [(Sh.ag 9),(Sh.int IntKind.i64),(Sh.int IntKind.i64),Sh.bool]) (h:∀ E:Env,
Bel N x1→Br bB0_2 (ud E [.var [.int .i64 0,.int .i64 0,.bool false]]∧∀ a,N≤a→Q x1 nB0_0 nB0_1 bB0_2 a) (∀ a,N≤a→ACalls prog 36 [.ag 9,
 .int .i64] [.dg 9 x1] a (fun x n c=>a≤c→Bel c x→Br (n==0) (ud E [.var [.int .i64 0,.int .i64 0,.bool false]]∧∀ a,c≤a→Q x1 nB0_0
 nB0_1 true a) (∀ a,c≤a→BCalls prog 114 [.ag 9,.int .i64,.int .i64,.bool] [.pb 0 0 0 0,.dg 9 x] [Bx.var [.int .i64 nB0_0,.int .i64 nB0_1,.bool
 bB0_2]] a (fun b c d e f=>a≤f→Bel f b→Br e (ud E [.var [.int .i64 0,.int .i64 0,.bool false]]∧∀ a,f≤a→Q x1 c d e a)
 (∀ a,f≤a→BCalls prog 55 [.ag 9,.int .i64,.int .i64,.bool] [.pb 0 0 0 0,.dg 9 b] [Bx.var [.int .i64 c,.int .i64 d,.bool e]] a (fun b c
 d e f=>a≤f→Bel f b→ud E [.var [.int .i64 0,.int .i64 0,.bool false]]∧∀ a,f≤a→Q b c d e a))))))):BCalls prog 88 [(Sh.ag 9),(Sh.int IntKind.i64),(Sh.int IntKind.i64),Sh.bool] [.pb 0 0 0 0,.dg 9 x1] [.var [.int .i64 nB0_0,.int .i64 nB0_1,.bool bB0_2]] N Q:=
  zH2 (H:=zCT) (by kernel_rfl) (fun E=>by kernel_rfl) h
theorem uA (N:Nat) (x1:D) (nB0_0 nB0_1:Int) (bB0_2:Bool) (Q:QT [(Sh.ag 9),(Sh.int IntKind.i64),(Sh.int IntKind.i64),Sh.bool]) (h:∀ E:Env,
Bel N x1→∃ a d,∃ c:Nat,(x1.cell 8)=D.sl a 9 d c∧((0:Int)≤(0:Int)∧0<(d.length:Int))∧∀ a,N≤a→ACalls prog 115 [.ag 9,.bool] [.dg
 9 (List.getD d 0 default),.int .i64 1] a (fun x b c=>a≤c→Bel c x→Br (!b) (ud E [.var [.int .i64 0,.int .i64 0,.bool false]]∧∀ a,c
 ≤ a→Q x1 nB0_0 nB0_1 true a) (∃ a b,∃ d:Nat,(x.cell 8)=D.sl a 9 b d∧((0:Int)≤(0:Int)∧0<(b.length:Int))∧∀ a,c ≤
 a→BCalls prog 57 [.ag 9,.int .i64,.int .i64,.bool] [.pb 0 0 0 0,.dg 9 (List.getD b 0 default)] [Bx.var [.int .i64 nB0_0,.int .i64 nB0_1,.bool bB0_2]]
 a (fun b n c d e=>a≤e→Bel e b→∀ a,e≤a→ACalls prog 109 [.ag 9,.bool] [.dg 9 b] a (fun e f g=>a≤g→Bel g
 e→Br f (Br (!d) (∀ a,g≤a→BCalls prog 90 [.bool,.int .i64,.int .i64,.bool] [.pb 0 0 0 0,.dg 9 e,.int .i64 6] [Bx.var [.int .i64 n,.int
 .i64 c,.bool d]] a (fun c d e f g=>a≤g→Br (!c) (ud E [.var [.int .i64 0,.int .i64 0,.bool false]]∧∀ a,g≤a→Q x1 d
 e f a) (∃ a c,∃ h:Nat,(x1.cell 8)=D.sl a 9 c h∧((0:Int)≤(0:Int)∧0<(c.length:Int))∧∃ a h,∃ i:Nat,(x.cell
 8)=D.sl a 9 h i∧((0:Int)≤(0:Int)∧0<(h.length:Int))∧∀ a,g≤a→ACalls prog 76 [.bool] [.dg 9 (List.getD h 0 default)] a
 (fun g h=>a≤h→Br (!g) (∀ a,ApA (Option.some a) [b]→Off [Option.some a] (List.getD c 0 default)→∀ g,h≤g→w8 g [Option.some
 a]→ACalls prog 77 [.ag 9,.int .i64,.bool] [.dg 9 (List.getD c 0 default),.int .i64 1,.fn 116 [.pd a 9 b]] g (fun b _ _ c=>g≤c
 → Off [Option.some a] b∧(Bel c b→∀ a,c≤a→ACalls prog 77 [.ag 9,.int .i64,.bool] [.dg 9 b,.int .i64 1,.fn 41 []] a (fun b _
 _ c=>a≤c→Bel c b→(1=([b]).length∧1=1)∧∀ a,ApA a [b]→Off [a] x1→∀ g,c≤g→w8 g [a]→ACalls prog
 78 [Sh.pk,.int .i64,.str,.str,.int .i64,Sh.dc,Sh.dc,Sh.dc,Sh.dc,Sh.bk 1] [.dg 9 x1,.sv a 9 [b] 1] g (fun c s h i j k l m n o
 => g≤o→n=D.sl a 9 [b] 1∧Off [a] j∧Off [a] k∧Off [a] l∧Off [a] m∧(1=([b]).length∧1=1)∧(1=([b]).length ∧
 1=1)∧(1=([b]).length∧1=1)∧∀ a g,o≤g→Fresh N g a [D.ag [b],j,k,l,m]→ud E [.var [.int .i64 0,.int .i64 0,.bool
 false]]∧∀ n,g≤n→Q (D.ag [D.lit (.int .i64 c),D.lit (.string s),D.lit (.string h),D.lit (.int .i64 i),j,k,l,m,D.sl a 9 [b]
 1]) d e f n))))) (∀ a,h≤a→ACalls prog 77 [.ag 9,.int .i64,.bool] [.dg 9 (List.getD c 0 default),.int .i64 1,.fn 41 []] a (fun b
 _ _ c=>a≤c→Bel c b→(1=([b]).length∧1=1)∧∀ a,ApA a [b]→Off [a] x1→∀ g,c≤g→w8 g [a]→ACalls
 prog 78 [Sh.pk,.int .i64,.str,.str,.int .i64,Sh.dc,Sh.dc,Sh.dc,Sh.dc,Sh.bk 1] [.dg 9 x1,.sv a 9 [b] 1] g (fun c h i j k l m n
 o p=>g≤p→o=D.sl a 9 [b] 1∧Off [a] k∧Off [a] l∧Off [a] m∧Off [a] n∧(1=([b]).length∧1=1)∧(1 =
 ([b]).length∧1=1)∧(1=([b]).length∧1=1)∧∀ a g,p≤g→Fresh N g a [D.ag [b],k,l,m,n]→ud E [.var [.int
 .i64 0,.int .i64 0,.bool false]]∧∀ o,g≤o→Q (D.ag [D.lit (.int .i64 c),D.lit (.string h),D.lit (.string i),D.lit (.int .i64 j),k,
 l,m,n,D.sl a 9 [b] 1]) d e f o))))))) (∀ a,g≤a→BCalls prog 90 [.bool,.int .i64,.int .i64,.bool] [.pb 0 0 0 0,.dg 9 e,
 .int .i64 0] [Bx.var [.int .i64 n,.int .i64 c,.bool d]] a (fun c d e f g=>a≤g→Br (!c) (ud E [.var [.int .i64 0,.int .i64
 0,.bool false]]∧∀ a,g≤a→Q x1 d e f a) (∃ a c,∃ h:Nat,(x1.cell 8)=D.sl a 9 c h∧((0:Int)≤(0:Int)∧0<(c.length
 : Int))∧∃ a h,∃ i:Nat,(x.cell 8)=D.sl a 9 h i∧((0:Int)≤(0:Int)∧0<(h.length:Int))∧∀ a,g≤a→ACalls prog 76 [.bool]
 [.dg 9 (List.getD h 0 default)] a (fun g h=>a≤h→Br (!g) (∀ a,ApA (Option.some a) [b]→Off [Option.some a] (List.getD c
 0 default)→∀ g,h≤g→w8 g [Option.some a]→ACalls prog 77 [.ag 9,.int .i64,.bool] [.dg 9 (List.getD c 0 default),.int .i64 1,.fn 116
 [.pd a 9 b]] g (fun b _ _ c=>g≤c→Off [Option.some a] b∧(Bel c b→∀ a,c≤a→ACalls prog 77 [.ag 9,.int
 .i64,.bool] [.dg 9 b,.int .i64 1,.fn 41 []] a (fun b _ _ c=>a≤c→Bel c b→(1=([b]).length∧1=1)∧∀ a,ApA a
 [b]→Off [a] x1→∀ g,c≤g→w8 g [a]→ACalls prog 78 [Sh.pk,.int .i64,.str,.str,.int .i64,Sh.dc,Sh.dc,Sh.dc,Sh.dc,Sh.bk 1] [.dg
 9 x1,.sv a 9 [b] 1] g (fun c h i j k l m n o p=>g≤p→o=D.sl a 9 [b] 1∧Off [a] k∧Off [a]
 l∧Off [a] m∧Off [a] n∧(1=([b]).length∧1=1)∧(1=([b]).length∧1=1)∧(1=([b]).length∧1=1)∧∀ a g,p≤g
 → Fresh N g a [D.ag [b],k,l,m,n]→ud E [.var [.int .i64 0,.int .i64 0,.bool false]]∧∀ o,g≤o→Q (D.ag [D.lit (.int .i64
 c),D.lit (.string h),D.lit (.string i),D.lit (.int .i64 j),k,l,m,n,D.sl a 9 [b] 1]) d e f o))))) (∀ a,h ≤
 a→ACalls prog 77 [.ag 9,.int .i64,.bool] [.dg 9 (List.getD c 0 default),.int .i64 1,.fn 41 []] a (fun b _ _ c=>a≤c→Bel c
 b→(1=([b]).length∧1=1)∧∀ a,ApA a [b]→Off [a] x1→∀ g,c≤g→w8 g [a]→ACalls prog 78 [Sh.pk,.int .i64,.str,
 .str,.int .i64,Sh.dc,Sh.dc,Sh.dc,Sh.dc,Sh.bk 1] [.dg 9 x1,.sv a 9 [b] 1] g (fun c h i j k l m n o p=>g≤p →
 o=D.sl a 9 [b] 1∧Off [a] k∧Off [a] l∧Off [a] m∧Off [a] n∧(1=([b]).length∧1=1)∧(1=([b]).length∧1 =
 1)∧(1=([b]).length∧1=1)∧∀ a g,p≤g→Fresh N g a [D.ag [b],k,l,m,n]→ud E [.var [.int .i64 0,.int .i64 0,
 .bool false]]∧∀ o,g≤o→Q (D.ag [D.lit (.int .i64 c),D.lit (.string h),D.lit (.string i),D.lit (.int .i64 j),k,l,m,n,
 D.sl a 9 [b] 1]) d e f o)))))))) (∀ a,g≤a→BCalls prog 90 [.bool,.int .i64,.int .i64,.bool] [.pb 0 0 0 0,.dg 9 e,.int .i64 0]
 [Bx.var [.int .i64 n,.int .i64 c,.bool d]] a (fun c d e f g=>a≤g→Br (!c) (ud E [.var [.int .i64 0,.int .i64 0,.bool false]]
 ∧ ∀ a,g≤a→Q x1 d e f a) (∃ a c,∃ h:Nat,(x1.cell 8)=D.sl a 9 c h∧((0:Int)≤(0:Int)∧0<(c.length:Int))
 ∧ ∃ a h,∃ i:Nat,(x.cell 8)=D.sl a 9 h i∧((0:Int)≤(0:Int)∧0<(h.length:Int))∧∀ a,g≤a→ACalls prog 76 [.bool]
 [.dg 9 (List.getD h 0 default)] a (fun g h=>a≤h→Br (!g) (∀ a,ApA (Option.some a) [b]→Off [Option.some a] (List.getD c
 0 default)→∀ g,h≤g→w8 g [Option.some a]→ACalls prog 77 [.ag 9,.int .i64,.bool] [.dg 9 (List.getD c 0 default),.int .i64 1,.fn 116
 [.pd a 9 b]] g (fun b _ _ c=>g≤c→Off [Option.some a] b∧(Bel c b→∀ a,c≤a→ACalls prog 77 [.ag 9,.int
 .i64,.bool] [.dg 9 b,.int .i64 1,.fn 41 []] a (fun b _ _ c=>a≤c→Bel c b→(1=([b]).length∧1=1)∧∀ a,ApA a
 [b]→Off [a] x1→∀ g,c≤g→w8 g [a]→ACalls prog 78 [Sh.pk,.int .i64,.str,.str,.int .i64,Sh.dc,Sh.dc,Sh.dc,Sh.dc,Sh.bk 1] [.dg
 9 x1,.sv a 9 [b] 1] g (fun c h i j k l m n o p=>g≤p→o=D.sl a 9 [b] 1∧Off [a] k∧Off [a]
 l∧Off [a] m∧Off [a] n∧(1=([b]).length∧1=1)∧(1=([b]).length∧1=1)∧(1=([b]).length∧1=1)∧∀ a g,p≤g
 → Fresh N g a [D.ag [b],k,l,m,n]→ud E [.var [.int .i64 0,.int .i64 0,.bool false]]∧∀ o,g≤o→Q (D.ag [D.lit (.int .i64
 c),D.lit (.string h),D.lit (.string i),D.lit (.int .i64 j),k,l,m,n,D.sl a 9 [b] 1]) d e f o))))) (∀ a,h ≤
 a→ACalls prog 77 [.ag 9,.int .i64,.bool] [.dg 9 (List.getD c 0 default),.int .i64 1,.fn 41 []] a (fun b _ _ c=>a≤c→Bel c
 b→(1=([b]).length∧1=1)∧∀ a,ApA a [b]→Off [a] x1→∀ g,c≤g→w8 g [a]→ACalls prog 78 [Sh.pk,.int .i64,.str,
 .str,.int .i64,Sh.dc,Sh.dc,Sh.dc,Sh.dc,Sh.bk 1] [.dg 9 x1,.sv a 9 [b] 1] g (fun c h i j k l m n o p=>g≤p
 → o=D.sl a 9 [b] 1∧Off [a] k∧Off [a] l∧Off [a] m∧Off [a] n∧(1=([b]).length∧1=1)∧(1=([b]).length∧1
 = 1)∧(1=([b]).length∧1=1)∧∀ a g,p≤g→Fresh N g a [D.ag [b],k,l,m,n]→ud E [.var [.int .i64 0,.int .i64
 0,.bool false]]∧∀ o,g≤o→Q (D.ag [D.lit (.int .i64 c),D.lit (.string h),D.lit (.string i),D.lit (.int .i64 j),k,l,m,n,
 D.sl a 9 [b] 1]) d e f o)))))))))))):BCalls prog 89 [(Sh.ag 9),(Sh.int IntKind.i64),(Sh.int IntKind.i64),Sh.bool] [.pb 0 0 0 0,.dg 9 x1] [.var [.int .i64 nB0_0,.int .i64 nB0_1,.bool bB0_2]] N Q:=
  zH2 (H:=tB) (by kernel_rfl) (fun E=>by kernel_rfl) h
theorem wt (E:Env) (Q:QT [(Sh.ag 9),(Sh.int IntKind.i64),(Sh.int IntKind.i64),Sh.bool]) (N0:Nat) (n28 n29 n0_0 n0_1:Int) (b0_2:Bool) (y1:D) (n2_0:Int) (s2_1 s2_2:ByteArray) (n2_3 n2_4:Int) (a2_5:Option Addr) (e2_5:List D) (c2_5:Nat) (n2_6:Int) (a2_7:Option Addr) (e2_7:List D) (c2_7:Nat) (a2_8:Option Addr) (e2_8:List D) (c2_8:Nat) (n3_0:Int) (s3_1 s3_2:ByteArray) (n3_3:Int) (x3_4 x3_5 x3_6 x3_7:D) (m3_8 c3_8:Nat) (r4:List D) (q4:Nat) (N:Nat) (h :
Br (decide (n29<n28)) ((0≤n29∧n29<(m3_8:Int)∧(0+n29.toNat:Nat)<r4.length)∧(0+n29.toNat:Nat)<r4.length∧∀ a,N≤a→BCalls prog 57
 [.ag 9,.int .i64,.int .i64,.bool] [.pb 0 0 0 0,.dg 9 (List.getD r4 (0+n29.toNat:Nat) default)] [Bx.var [.int .i64 n0_0,.int .i64 n0_1,.bool b0_2]] a
 (fun x n b c d=>a≤d→Bel d x→(0≤n29∧n29<(m3_8:Int)∧(0+n29.toNat:Nat)<r4.length)∧(0+n29.toNat:Nat)<r4.length∧Br c (ud
 E [.var [.int .i64 0,.int .i64 0,.bool false]]∧∀ a,d≤a→Q y1 n b c a) (yQ E Q N0 n28 (IntKind.i64.wrap (n29+1)) n b c y1
 n2_0 s2_1 s2_2 n2_3 n2_4 a2_5 e2_5 c2_5 n2_6 a2_7 e2_7 c2_7 a2_8 e2_8 c2_8 n3_0 s3_1 s3_2 n3_3 x3_4 x3_5 x3_6 x3_7 m3_8 c3_8 (List.set r4 (0+n29.toNat:Nat) x)
 q4 d))) ((m3_8=r4.length∧c3_8=q4)∧(m3_8=r4.length∧c3_8=q4)∧∀ a b,N≤b→Fresh N0 b a [D.ag r4]→∀ c,b≤c→ACalls prog 80 [.ag
 9,.int .i64] [.dg 9 (D.ag [D.lit (.int .i64 n3_0),D.lit (.string s3_1),D.lit (.string s3_2),D.lit (.int .i64 n3_3),x3_4,x3_5,x3_6,x3_7,D.sl a 9 r4 q4])]
 c (fun a b d=>c≤d→Bel d a→∀ c,d≤c→BCalls prog 90 [.bool,.int .i64,.int .i64,.bool] [.pb 0 0 0 0,.dg 9 a,.int .i64 b]
 [Bx.var [.int .i64 n0_0,.int .i64 n0_1,.bool b0_2]] c (fun b d e f g=>c≤g→Br (!b) (ud E [.var [.int .i64 0,.int .i64 0,.bool false]]
 ∧ ∀ a,g≤a→Q y1 d e f a) (zV E Q N0 d e f a n2_0 s2_1 s2_2 n2_3 n2_4 a2_5 e2_5 c2_5 n2_6 a2_7 e2_7 c2_7 a2_8 e2_8 c2_8
 g))))):yQ E Q N0 n28 n29 n0_0 n0_1 b0_2 y1 n2_0 s2_1 s2_2 n2_3 n2_4 a2_5 e2_5 c2_5 n2_6 a2_7 e2_7 c2_7 a2_8 e2_8 c2_8 n3_0 s3_1 s3_2 n3_3 x3_4 x3_5 x3_6 x3_7 m3_8 c3_8 r4 q4 N:=
  zKJ (H:=xo) (by kernel_rfl) h
theorem wR (N:Nat) (x1:D) (n2 nB0_0 nB0_1:Int) (bB0_2:Bool) (Q:QT [Sh.bool,(Sh.int IntKind.i64),(Sh.int IntKind.i64),Sh.bool]) (h:∀ E:Env,
Bel N x1→Br (n2==0) (ud E [.var [.int .i64 0,.int .i64 0,.bool false]]∧∀ a,N≤a→Q false nB0_0 nB0_1 true a) (Br (nB0_0==0) (ud E [.var [.int
 .i64 0,.int .i64 0,.bool false]]∧∀ a,N≤a→Q false nB0_0 nB0_1 true a) (∀ a,N≤a→ACalls prog 49 [.int .i64] [.dg 9 x1] a (fun n b=>a
 ≤ b→Br (decide (n>400)) (ud E [.var [.int .i64 0,.int .i64 0,.bool false]]∧∀ a,b≤a→Q false nB0_0 nB0_1 true a) (ud E [.var [.int .i64
 0,.int .i64 0,.bool false]]∧∀ a,b≤a→Q true (IntKind.i64.wrap (nB0_0 - 1)) (IntKind.i64.wrap (nB0_1+1)) bB0_2 a))))):BCalls prog 90 [Sh.bool,(Sh.int IntKind.i64),(Sh.int IntKind.i64),Sh.bool] [.pb 0 0 0 0,.dg 9 x1,.int .i64 n2] [.var [.int .i64 nB0_0,.int .i64 nB0_1,.bool bB0_2]] N Q:=
  zH2 (H:=rc) (by kernel_rfl) (fun E=>by kernel_rfl) h
theorem zAW (N:Nat) (x0:D) (n1:Int) (a2_0:Addr) (x2_0_:D) (Q:QT [.ag 9,.int .i64,.bool]) (h :
Bel N x0→∃ n:Int,(x0.cell 0)=D.lit (.int .i64 n)∧Br (n==11) (Br (n1==1) (∃ a d,∃ c:Nat,(x0.cell 8)=D.sl a 9 d c∧((0:Int)≤(0:Int)∧0
 < (d.length:Int))∧∀ a,N≤a→ACalls prog 76 [.bool] [.dg 9 (List.getD d 0 default)] a (fun b c=>a≤c→Br (!b) (∀ a,c≤a→ACalls
 prog 116 [.ag 9,.int .i64] [.dg 9 (List.getD d 0 default),.pd a2_0 9 x2_0_] a (fun x b c=>a≤c→Bel c x→(1=([x]).length∧1=1)∧∀ a,
 ApA a [x]→Off [a] x0→∀ d,c≤d→w8 d [a]→ACalls prog 78 [Sh.pk,.int .i64,.str,.str,.int .i64,Sh.dc,Sh.dc,Sh.dc,Sh.dc,Sh.bk 1] [.dg
 9 x0,.sv a 9 [x] 1] d (fun c s e f g h i j k l=>d≤l→k=D.sl a 9 [x] 1∧Off [a] g∧Off [a] h∧Off [a] i∧Off
 [a] j∧(1=([x]).length∧1=1)∧(1=([x]).length∧1=1)∧(1=([x]).length∧1=1)∧∀ a d,l≤d→Fresh N d a [D.ag [x],g,h,i,
 j]→∀ k,d≤k→Q (D.ag [D.lit (.int .i64 c),D.lit (.string s),D.lit (.string e),D.lit (.int .i64 f),g,h,i,j,D.sl a 9 [x] 1]) b
 true k))) (∀ a,c≤a→ACalls prog 109 [.ag 9,.bool] [.dg 9 (List.getD d 0 default)] a (fun b c d=>a≤d→Bel d b→Br c (∀ a,
 d≤a→Q b 6 true a) (∀ a,d≤a→Q x0 0 true a))))) (∃ a b,∃ c:Nat,(x0.cell 8)=D.sl a 9 b c∧yC Q N
 n1 a2_0 x2_0_ a b c (b.length:Int) 0 x0 0 (bytes []) (bytes []) 0 0 Option.none [] 0 0 Option.none [] 0 Option.none [] 0 N)) (∃ a b,∃ c:Nat,
 (x0.cell 8)=D.sl a 9 b c∧yC Q N n1 a2_0 x2_0_ a b c (b.length:Int) 0 x0 0 (bytes []) (bytes []) 0 0 Option.none [] 0 0 Option.none
 [] 0 Option.none [] 0 N)):ACalls prog 77 [.ag 9,.int .i64,.bool] [.dg 9 x0,.int .i64 n1,.fn 116 [.pd a2_0 9 x2_0_]] N Q:=
  zJu (H:=sN) (by kernel_rfl) (by kernel_rfl) h
theorem vO (N:Nat) (x0:D) (a1:Addr) (x1_:D) (Q:QT [.ag 9,.int .i64]) (h :
Bel N x0→∀ a,N≤a→Q x1_ 0 a):ACalls prog 116 [.ag 9,.int .i64] [.dg 9 x0,.pd a1 9 x1_] N Q:=
 zJu (H:=uf) (by kernel_rfl) (by kernel_rfl) h
theorem ut (Q:QT [.ag 9,.int .i64,.bool]) (N0:Nat) (n1:Int) (a2_0:Addr) (x2_0_:D) (a54:Option Addr) (e54:List D) (c54:Nat) (n55 n56:Int) (y0:D) (n1_0:Int) (s1_1 s1_2:ByteArray) (n1_3 n1_4:Int) (a1_5:Option Addr) (e1_5:List D) (c1_5:Nat) (n1_6:Int) (a1_7:Option Addr) (e1_7:List D) (c1_7:Nat) (a1_8:Option Addr) (e1_8:List D) (c1_8:Nat) (N:Nat) (h :
Br (decide (n56<n55)) ((0≤n56∧n56<(e54.length:Int))∧∀ d,N≤d→ACalls prog 107 [.int .i64] [.dg 9 y0,.int .i64 n1] d (fun n e=>d≤e
 → ∀ d,e≤d→ACalls prog 77 [.ag 9,.int .i64,.bool] [.dg 9 (List.getD e54 n56.toNat default),.int .i64 n,.fn 116 [.pd a2_0 9 x2_0_]] d (fun x b e
 f=>d≤f→Bel f x→Br e (∀ d,f≤d→ACalls prog 40 [Sh.pk,.int .i64,.str,.str,.int .i64,Sh.dc,Sh.dc,Sh.dc,Sh.dc,.row (OfNat.ofNat 34)
 9] [.dg 9 y0] d (fun c s e f g h i j k l m=>d≤m→Bel m (D.ag k)→(0≤n56∧n56<(k.length:Int)∧(0+n56.toNat:Nat)<k.length)
 ∧ (0+n56.toNat:Nat)<k.length∧(k.length=(List.set k (0+n56.toNat:Nat) x).length∧l=l)∧(k.length=(List.set k (0+n56.toNat:Nat) x).length
 ∧ l=l)∧(k.length=(List.set k (0+n56.toNat:Nat) x).length∧l=l)∧(k.length=(List.set k (0+n56.toNat:Nat) x).length∧l=l)∧(k.length =
 (List.set k (0+n56.toNat:Nat) x).length∧l=l)∧∀ a d,m≤d→Fresh N0 d a [D.ag (List.set k (0+n56.toNat:Nat) x),g,h,i,j]→∀
 m,d≤m→Q (D.ag [D.lit (.int .i64 c),D.lit (.string s),D.lit (.string e),D.lit (.int .i64 f),g,h,i,j,D.sl a 9 (List.set k (0+n56.toNat
 : Nat) x) l]) b true m)) (yC Q N0 n1 a2_0 x2_0_ a54 e54 c54 n55 (IntKind.i64.wrap (n56+1)) y0 n1_0 s1_1 s1_2 n1_3 n1_4 a1_5 e1_5 c1_5 n1_6 a1_7
 e1_7 c1_7 a1_8 e1_8 c1_8 f)))) (∀ a,N≤a→Q y0 0 false a)):yC Q N0 n1 a2_0 x2_0_ a54 e54 c54 n55 n56 y0 n1_0 s1_1 s1_2 n1_3 n1_4 a1_5 e1_5 c1_5 n1_6 a1_7 e1_7 c1_7 a1_8 e1_8 c1_8 N:=
  zKJ (H:=sN) (by kernel_rfl) h
end Go.Proofs.YtnpjpplbkoammaaGreatDoor
