/- Printed by gen.py: what the functions come to. -/
import Derived.Test.YtfajiphkncipoaaGreatDoorJh
set_option linter.unusedVariables false
set_option maxRecDepth 100000
namespace Go.Proofs.YtfajiphkncipoaaGreatDoor
open Go Go.Proofs Go.Proofs.Tryz
def zIC:Hint:=⟨[],[],[]⟩
def uI:Hint:=⟨[hc 2 [0,1,7,8]],[],[]⟩
def s9:Hint:=⟨[],[],[]⟩
def zAr:Hint:=⟨[hc 2 [0,6,7]],[],[]⟩
def tP:Hint:=⟨[hc 3 [3,7,8,9]],[],[(5,hs 5 [ec 2 [14]])]⟩
def tB:Hint:=⟨[hc 3 [3,7,8,9]],[],[(5,hs 5 [ec 2 [14]])]⟩
def qo:Hint:=⟨[],[],[(1,[en 0,en 1,eh 2,en 3,en 4,en 5,en 6,en 7,en 8,en 9,en 10,en 11,en 12,en 13,en 14,en 15])]⟩
def zBX:Hint:=⟨[],[],[(1,hs 5 [ec 2 [4]])]⟩
def wu:Hint:=⟨[hc 2 [0,1,7,8]],[],[(4,hs 6 [ec 5 [15]])]⟩
def uj:Hint:=⟨[],[],[]⟩
def zDV:Hint:=⟨[],[],[(1,hs 11 [ec 2 [6]])]⟩
def zAO:Hint:=⟨[],[],[(1,hs 13 [ec 1 [3],ec 5 [7],ec 10 [12]])]⟩
def zFv:Hint:=⟨[],[],[]⟩
def zKH:Hint:=⟨[],[],[]⟩
def zE0:Hint:=⟨[],[],[]⟩
def zFk:Hint:=⟨[],[],[(12,hs 9 [ec 6 [34]]),(14,hs 26 [ec 18 [56],ec 23 [61]])]⟩
def wy:Hint:=⟨[hc 4 [1,2,15,16,17]],[],[(7,hs 5 [ec 3 [27,28]])]⟩
def zCo:Hint:=⟨[],[],[]⟩
def zIm:Hint:=⟨[],[],[(1,[en 0,en 1,en 2,en 3,ec 4 [7],en 5]),(14,[en 0,en 1,en 2,en 3,en 4,eh 5,en 6,eh 7]),(16,[en 0,en 1,en 2,en 3,en 4,en 5,en 6,en 7,en 8,eh 9,en 10,eh 11,en 12,eh 13,en 14,eh 15]),(17,hs 38 [ec 1 [54],ec 28 [79,81],ec 35 [86,88]])]⟩
def zBj:Hint:=⟨[],[],[(1,hs 5 [ec 2 [4]])]⟩
def wU:Hint:=⟨[hc 2 [0,1,7,8]],[],[(4,hs 6 [ec 5 [15]])]⟩
def uh:Hint:=⟨[],[],[]⟩
def zDg:Hint:=⟨[],[],[(1,hs 11 [ec 2 [6]])]⟩
def zHI:Hint:=⟨[],[],[(1,hs 3 [ec 1 [3]])]⟩
def zBR:Hint:=⟨[],[],[]⟩
def zDA:Hint:=⟨[],[],[]⟩
def zA8:Hint:=⟨[hc 4 [1,2,3,15,16,17]],[],[(1,hs 5 [ec 3 [10]]),(6,[en 0,en 1,en 2,en 4,ec 3 [22],ec 5 [21],en 6])]⟩
def zEi:Hint:=⟨[],[],[(1,hs 8 [ec 1 [5],ec 5 [8]])]⟩
def uH:Hint:=⟨[hc 3 [2,3,10,11,12]],[],[(5,[en 0,en 1,en 2,ec 3 [18],en 4,eh 5,en 6,eh 7])]⟩
def yc (Q:QT [.int .i64]) (N0:Nat) (a0:Option Addr) (e0:List D) (c0:Nat) (I:ByteArray) (J O:Int) (N:Nat):Prop:=AT prog 172 [.int .i64] Q N0 .ord (zD prog 172 2) ⟨.sv a0 0 e0 c0::.str I::an 5 (.int .i64 J::.int .i64 O::an 10 []),[],N,none⟩
def yv (Q:QT [.bool]) (N0:Nat) (I:ByteArray) (J O:Int) (N:Nat):Prop:=AT prog 165 [.bool] Q N0 .ord (zD prog 165 2) ⟨.str I::an 5 (.int .i64 J::.int .i64 O::an 40 []),[],N,none⟩
def yw (Q:QT [.int .i64]) (N0:Nat) (I:Int) (J:Option Addr) (O:List D) (U:Nat) (Y n9:Int) (N:Nat):Prop:=AT prog 187 [.int .i64] Q N0 .ord (zD prog 187 3) ⟨an 3 (.int .i64 I::an 3 (.sv J 2 O U::.int .i64 Y::.int .i64 n9::an 9 [])),[],N,none⟩
def ym (Q:QT [.int .i64]) (N0:Nat) (I:Int) (J:Option Addr) (O:List D) (U:Nat) (Y n9:Int) (N:Nat):Prop:=AT prog 188 [.int .i64] Q N0 .ord (zD prog 188 3) ⟨an 3 (.int .i64 I::an 3 (.sv J 2 O U::.int .i64 Y::.int .i64 n9::an 10 [])),[],N,none⟩
def vD (Q:QT [.ag 2]) (N0:Nat) (ae:Option Addr) (ah:List D) (ai:Nat) (aj ak I:Int) (J:Option Addr) (O:List D) (U:Nat) (Y:Int) (aa:Option Addr) (ab:List D) (ac:Nat) (N:Nat):Prop:=AT prog 103 [.ag 2] Q N0 .ord (zD prog 103 3) ⟨an 2 (.pb 0 0 0 0::.pb 1 0 0 0::an 6 (.sv ae 2 ah ai::.int .i64 aj::.int .i64 ak::an 12 [])),[.var [.int .i64 I,.sv J 2 O U],.var [.int .i64 Y,.sv aa 2 ab ac]],N,none⟩
def zU (Q:QT [.bool]) (N0:Nat) (a1:Option Addr) (e1:List D) (c1:Nat) (I:Option Addr) (J:List D) (O:Nat) (U Y:Int) (N:Nat):Prop:=AT prog 168 [.bool] Q N0 .ord (zD prog 168 4) ⟨an 1 (.sv a1 2 e1 c1::.fn 139 []::an 12 (.sv I 2 J O::.int .i64 U::.int .i64 Y::an 14 [])),[],N,none⟩
def wt (Q:QT [.bool]) (N0:Nat) (n1:Int) (I:Option Addr) (J:List D) (O:Nat) (U Y:Int) (y0:D) (N:Nat):Prop:=AT prog 59 [.bool] Q N0 .ord (zD prog 59 4) ⟨an 1 (.int .i64 n1::.fn 60 []::.pb 0 0 0 0::an 11 (.sv I 9 J O::.int .i64 U::.int .i64 Y::an 11 [])),[.vd y0 9],N,none⟩
def yi (Q:QT [.ag 2]) (N0:Nat) (ac:Option Addr) (ae:List D) (ah:Nat) (ai aj I:Int) (J:Option Addr) (O:List D) (U:Nat) (Y:Int) (aa ab:Nat) (r2:List D) (q2:Nat) (N:Nat):Prop:=AT prog 103 [.ag 2] Q N0 .ord (zD prog 103 3) ⟨an 2 (.pb 0 0 0 0::.pb 1 0 0 0::an 6 (.sv ac 2 ae ah::.int .i64 ai::.int .i64 aj::an 12 [])),[.var [.int .i64 I,.sv J 2 O U],.var [.int .i64 Y,.sb 2 2 0 aa ab],.arr 26 2 r2 q2],N,none⟩
def zu (Q:QT [.int .i64]) (N0:Nat) (a0:Option Addr) (e0:List D) (c0:Nat) (I:Addr) (J O:Int) (N:Nat):Prop:=AT prog 209 [.int .i64] Q N0 .ord (zD prog 209 2) ⟨.sv a0 2 e0 c0::.fn 204 [.pd I 0 (.fn 190 [])]::an 5 (.int .i64 J::.int .i64 O::an 10 []),[],N,none⟩
def zw (Q:QT [.int .i64]) (N0:Nat) (a0:Option Addr) (e0:List D) (c0:Nat) (I:Addr) (J O:Int) (N:Nat):Prop:=AT prog 163 [.int .i64] Q N0 .ord (zD prog 163 2) ⟨.sv a0 9 e0 c0::.fn 136 [.pd I 0 (.fn 99 [])]::an 5 (.int .i64 J::.int .i64 O::an 10 []),[],N,none⟩
theorem zIh (N:Nat) (n0 n1 I:Int) (Q:QT [.bool]) (h :
Br (decide (n1<=n0)) (uP N (Q (decide (n0<=I)))) (uP N (Q false))):ACalls prog 43 [.bool] [PV.int .i64 n0,PV.int .i64 n1,PV.int .i64 I] N Q:=
 eE (H:=zIC) (by kernel_rfl) (by kernel_rfl) h
theorem pN (N:Nat) (a0:Option Addr) (e0:List D) (c0:Nat) (I:ByteArray) (Q:QT [.int .i64]) (h :
Bel N (D.sl a0 0 e0 c0)->yc Q N a0 e0 c0 I (e0.length:Int) 0 N):ACalls prog 172 [.int .i64] [PV.sv a0 0 e0 c0,PV.str I] N Q:=
 eE (H:=uI) (by kernel_rfl) (by kernel_rfl) h
theorem s8 (N:Nat) (a0:Option Addr) (e0:List D) (c0:Nat) (I:ByteArray) (Q:QT [.bool]) (h :
Bel N (D.sl a0 0 e0 c0)->kI 172 [.sv a0 0 e0 c0,.str I] N (λn a=>uP a (Q (decide (n≥0))))):ACalls prog 147 [.bool] [PV.sv a0 0 e0 c0,PV.str I] N Q:=
 eE (H:=s9) (by kernel_rfl) (by kernel_rfl) h
theorem zID (N:Nat) (I:ByteArray) (Q:QT [.bool]) (h :
yv Q N I (I.size:Int) 0 N):ACalls prog 165 [.bool] [PV.str I] N Q:=
 eE (H:=zAr) (by kernel_rfl) (by kernel_rfl) h
theorem zBv (N:Nat) (I:D) (Q:QT [.int .i64]) (h :
Bel N I->∃ a b,∃ c:Nat,(I.cell 1)=D.sl a 2 b c/\yw Q N 1 a b c (b.length:Int) 0 N):ACalls prog 187 [.int .i64] [PV.dg 2 I] N Q:=
 eE (H:=tP) (by kernel_rfl) (by kernel_rfl) h
theorem zAp (N:Nat) (I:D) (Q:QT [.int .i64]) (h :
Bel N I->∃ a b,∃ c:Nat,(I.cell 1)=D.sl a 2 b c/\ym Q N 0 a b c (b.length:Int) 0 N):ACalls prog 188 [.int .i64] [PV.dg 2 I] N Q:=
 eE (H:=tB) (by kernel_rfl) (by kernel_rfl) h
theorem qk (N:Nat) (I:D) (Q:QT [.bool]) (h :
Bel N I->∃ n:Int,(I.cell 0)=D.lit (.int .i64 n)/\kB 43 [.int .i64 n,.int .i64 1,.int .i64 4] N (λb d=>Br b (∃ a b,∃ c:Nat,(I.cell 1)
 = D.sl a 2 b c/\∃ a:Int,(I.cell 0)=D.lit (.int .i64 a)/\(0<=IntKind.i64.wrap (a - 1)/\IntKind.i64.wrap (a - 1)<4/\(0+(IntKind.i64.wrap
 (a - 1)).toNat:Nat)<4)/\(0+(IntKind.i64.wrap (a - 1)).toNat:Nat)<4/\∃ c:Int,List.getD [D.lit (.int .i64 0),D.lit (.int .i64 0),D.lit
 (.int .i64 2),D.lit (.int .i64 1)] (0+(IntKind.i64.wrap (a - 1)).toNat:Nat) default=D.lit (.int .i64 c)/\uP d (Q ((b.length:Int)==c))) (uP
 d (Q false)))):ACalls prog 190 [.bool] [PV.dg 2 I] N Q:=
  eE (H:=qo) (by kernel_rfl) (by kernel_rfl) h
theorem zAR (N:Nat) (I:D) (Q:QT [.bool]) (h :
Bel N I->kI 187 [.dg 2 I] N (λn a=>Br (decide (n<=30)) (kI 188 [.dg 2 I] a (λa c=>Br (decide (a<=8)) (kB 189 [.dg 2 I,.fn 190 []]
 c (λb a=>uP a (Q b))) (uP c (Q false)))) (uP a (Q false)))):ACalls prog 167 [.bool] [PV.dg 2 I] N Q:=
  eE (H:=zAO) (by kernel_rfl) (by kernel_rfl) h
theorem zFY (N:Nat) (I:ByteArray) (Q:QT [.int .i64]) (h :
Br (ByteArray.toList I==ByteArray.toList (bytes [43])) (uP N (Q 2)) (Br (ByteArray.toList I==ByteArray.toList (bytes [45])) (uP N (Q 2)) (Br
 (ByteArray.toList I==ByteArray.toList (bytes [42])) (uP N (Q 2)) (Br (ByteArray.toList I==ByteArray.toList (bytes [61])) (uP N (Q 2)) (Br
 (ByteArray.toList I==ByteArray.toList (bytes [60])) (uP N (Q 2)) (Br (ByteArray.toList I==ByteArray.toList (bytes [38])) (uP N (Q 2)) (Br
 (ByteArray.toList I==ByteArray.toList (bytes [124])) (uP N (Q 2)) (Br (ByteArray.toList I==ByteArray.toList (bytes [33])) (uP N (Q 1)) (uP N (Q
 0)))))))))):ACalls prog 164 [.int .i64] [PV.str I] N Q:=
  eE (H:=zFv) (by kernel_rfl) (by kernel_rfl) h
theorem zJv (N:Nat) (I:D) (Q:QT [.int .i64]) (h :
Bel N I->∃ n:Int,(I.cell 0)=D.lit (.int .i64 n)/\Br (n==4) (∃ s,(I.cell 1)=D.lit (.string s)/\kI 164 [.str s] N (λa b=>uP b (Q
 a))) (Br (n==5) (uP N (Q 3)) (Br (n==7) (uP N (Q 2)) (Br (n==8) (uP N (Q 2)) (Br (n==6) (uP N (Q 1)) (Br (n==9) (uP N (Q 1)) (Br (n==10) (uP N (Q
 1)) (Br (n==11) (uP N (Q 1)) (Br (n==12) (uP N (Q 1)) (Br (n==13) (uP N (Q 1)) (uP N (Q 0)))))))))))):ACalls prog 137 [.int .i64] [PV.dg 9 I] N Q:=
  eE (H:=zKH) (by kernel_rfl) (by kernel_rfl) h
theorem zDw (N:Nat) (n0:Int) (Q:QT [.bool]) (h :
kB 43 [.int .i64 n0,.int .i64 0,.int .i64 10006] N (λb a=>uP a (Q b))):ACalls prog 166 [.bool] [PV.int .i64 n0] N Q:=
 eE (H:=zE0) (by kernel_rfl) (by kernel_rfl) h
theorem zFn (N:Nat) (I:D) (Q:QT [.bool]) (h :
Bel N I->∃ n:Int,(I.cell 0)=D.lit (.int .i64 n)/\Br (n==1) (∃ s,(I.cell 1)=D.lit (.string s)/\kB 165 [.str s] N (λb a=>uP a (Q b)))
 (Br (n==8) (∃ a,(I.cell 1)=D.lit (.string a)/\kB 165 [.str a] N (λa b=>uP b (Q a))) (Br (n==2) (∃ a:Int,(I.cell 3)=D.lit (.int
 .i64 a)/\kB 166 [.int .i64 a] N (λa b=>uP b (Q a))) (Br (n==3) (∃ a:Int,(I.cell 3)=D.lit (.int .i64 a)/\kB 43 [.int .i64 a,.int
 .i64 0,.int .i64 1] N (λa b=>uP b (Q a))) (Br (n==4) (∃ a,(I.cell 1)=D.lit (.string a)/\kI 164 [.str a] N (λa b=>uP b (Q
 (decide (a>0))))) (Br (n==6) (∃ a,(I.cell 1)=D.lit (.string a)/\kB 165 [.str a] N (λa b=>Br a (kB 167 [.dg 2 (D.sub I 4 2)] b
 (λa b=>uP b (Q a))) (uP b (Q false)))) (Br (n==9) (∃ a,(I.cell 1)=D.lit (.string a)/\kB 165 [.str a] N (λa b=>Br a (∃
 a,(I.cell 2)=D.lit (.string a)/\kB 165 [.str a] b (λa b=>Br a (∃ a,(I.cell 1)=D.lit (.string a)/\∃ c,(I.cell 2)=D.lit
 (.string c)/\Br (!(ByteArray.toList a==ByteArray.toList c)) (kB 167 [.dg 2 (D.sub I 4 2)] b (λa b=>Br a (kB 167 [.dg 2 (D.sub I 6 2)]
 b (λa b=>uP b (Q a))) (uP b (Q false)))) (uP b (Q false))) (uP b (Q false)))) (uP b (Q false)))) (∃ a:Int,(I.cell 0)=D.lit (.int
 .i64 a)/\kB 43 [.int .i64 a,.int .i64 1,.int .i64 13] N (λa b=>uP b (Q a)))))))))):ACalls prog 138 [.bool] [PV.dg 9 I] N Q:=
  eE (H:=zFk) (by kernel_rfl) (by kernel_rfl) h
theorem zCi (N:Nat) (I J:D) (Q:QT [.bool]) (h :
Bel N I->Bel N J->∃ n:Int,(I.cell 0)=D.lit (.int .i64 n)/\∃ d:Int,(J.cell 0)=D.lit (.int .i64 d)/\Br (n==d) (∃ a d,∃ c:Nat,
 (I.cell 1)=D.sl a 2 d c/\∃ e f,∃ g:Nat,(J.cell 1)=D.sl e 2 f g/\kB 168 [.sv a 2 d c,.sv e 2 f g,.fn 139 []] N (λb a=>
 uP a (Q b))) (uP N (Q false))):ACalls prog 139 [.bool] [PV.dg 2 I,PV.dg 2 J] N Q:=
  eE (H:=zCo) (by kernel_rfl) (by kernel_rfl) h
theorem zIA (N:Nat) (I:D) (Q:QT [.bool]) (h :
Bel N I->∃ a d,∃ c:Nat,(I.cell 8)=D.sl a 9 d c/\kI 137 [.dg 9 I] N (λn a=>Br (bne (d.length:Int) n) (uP a (Q false)) (∃ c:Int,
 (I.cell 0)=D.lit (.int .i64 c)/\∃ c:Int,(I.cell 0)=D.lit (.int .i64 c)/\Br (c==1) (∃ s,(I.cell 1)=D.lit (.string s)/\kB 138 [.dg 9 I]
 a (λb a=>Br b (∃ b,(I.cell 1)=D.lit (.string b)/\Br (ByteArray.toList b==ByteArray.toList s) (∃ b,(I.cell 2)=D.lit (.string b)/\Br
 (ByteArray.toList b==ByteArray.toList (bytes [])) (∃ b:Int,(I.cell 3)=D.lit (.int .i64 b)/\Br (b==0) (kB 139 [.dg 2 (D.sub I 4 2),.dg 2
 (D.ag [D.lit (.int .i64 0),D.sl Option.none 2 [] 0])] a (λa b=>Br a (kB 139 [.dg 2 (D.sub I 6 2),.dg 2 (D.ag [D.lit (.int .i64 0),D.sl
 Option.none 2 [] 0])] b (λa b=>uP b (Q a))) (uP b (Q false)))) (uP a (Q false))) (uP a (Q false))) (uP a (Q false))) (uP a (Q false)))) (Br
 (c==8) (∃ b,(I.cell 1)=D.lit (.string b)/\kB 138 [.dg 9 I] a (λa c=>Br a (∃ a,(I.cell 1)=D.lit (.string a)/\Br
 (ByteArray.toList a==ByteArray.toList b) (∃ a,(I.cell 2)=D.lit (.string a)/\Br (ByteArray.toList a==ByteArray.toList (bytes [])) (∃ a :
 Int,(I.cell 3)=D.lit (.int .i64 a)/\Br (a==0) (kB 139 [.dg 2 (D.sub I 4 2),.dg 2 (D.ag [D.lit (.int .i64 0),D.sl Option.none 2 [] 0])] c (fun
 a b=>Br a (kB 139 [.dg 2 (D.sub I 6 2),.dg 2 (D.ag [D.lit (.int .i64 0),D.sl Option.none 2 [] 0])] b (λa b=>uP b (Q a))) (uP b (Q
 false)))) (uP c (Q false))) (uP c (Q false))) (uP c (Q false))) (uP c (Q false)))) (Br (c==2) (∃ b:Int,(I.cell 3)=D.lit (.int .i64 b)/\kB
 138 [.dg 9 I] a (λa c=>Br a (∃ a,(I.cell 1)=D.lit (.string a)/\Br (ByteArray.toList a==ByteArray.toList (bytes [])) (∃ a,(I.cell
 2)=D.lit (.string a)/\Br (ByteArray.toList a==ByteArray.toList (bytes [])) (∃ a:Int,(I.cell 3)=D.lit (.int .i64 a)/\Br (a==b) (kB 139
 [.dg 2 (D.sub I 4 2),.dg 2 (D.ag [D.lit (.int .i64 0),D.sl Option.none 2 [] 0])] c (λa b=>Br a (kB 139 [.dg 2 (D.sub I 6 2),.dg 2 (D.ag [D.lit
 (.int .i64 0),D.sl Option.none 2 [] 0])] b (λa b=>uP b (Q a))) (uP b (Q false)))) (uP c (Q false))) (uP c (Q false))) (uP c (Q false)))
 (uP c (Q false)))) (Br (c==3) (∃ b:Int,(I.cell 3)=D.lit (.int .i64 b)/\kB 138 [.dg 9 I] a (λa c=>Br a (∃ a,(I.cell 1)=D.lit
 (.string a)/\Br (ByteArray.toList a==ByteArray.toList (bytes [])) (∃ a,(I.cell 2)=D.lit (.string a)/\Br (ByteArray.toList a ==
 ByteArray.toList (bytes [])) (∃ a:Int,(I.cell 3)=D.lit (.int .i64 a)/\Br (a==b) (kB 139 [.dg 2 (D.sub I 4 2),.dg 2 (D.ag [D.lit (.int .i64
 0),D.sl Option.none 2 [] 0])] c (λa b=>Br a (kB 139 [.dg 2 (D.sub I 6 2),.dg 2 (D.ag [D.lit (.int .i64 0),D.sl Option.none 2 [] 0])] b (fun
 a b=>uP b (Q a))) (uP b (Q false)))) (uP c (Q false))) (uP c (Q false))) (uP c (Q false))) (uP c (Q false)))) (Br (c==4) (∃ b,
 (I.cell 1)=D.lit (.string b)/\kB 138 [.dg 9 I] a (λa c=>Br a (∃ a,(I.cell 1)=D.lit (.string a)/\Br (ByteArray.toList a ==
 ByteArray.toList b) (∃ a,(I.cell 2)=D.lit (.string a)/\Br (ByteArray.toList a==ByteArray.toList (bytes [])) (∃ a:Int,(I.cell 3)=D.lit
 (.int .i64 a)/\Br (a==0) (kB 139 [.dg 2 (D.sub I 4 2),.dg 2 (D.ag [D.lit (.int .i64 0),D.sl Option.none 2 [] 0])] c (λa b=>Br a (kB 139
 [.dg 2 (D.sub I 6 2),.dg 2 (D.ag [D.lit (.int .i64 0),D.sl Option.none 2 [] 0])] b (λa b=>uP b (Q a))) (uP b (Q false)))) (uP c (Q
 false))) (uP c (Q false))) (uP c (Q false))) (uP c (Q false)))) (Br (c==6) (∃ b,(I.cell 1)=D.lit (.string b)/\kB 138 [.dg 9 I] a (fun
 a c=>Br a (∃ a,(I.cell 1)=D.lit (.string a)/\Br (ByteArray.toList a==ByteArray.toList b) (∃ a,(I.cell 2)=D.lit (.string
 a)/\Br (ByteArray.toList a==ByteArray.toList (bytes [])) (∃ a:Int,(I.cell 3)=D.lit (.int .i64 a)/\Br (a==0) (kB 139 [.dg 2 (D.sub I
 4 2),.dg 2 (D.ag [D.cell (D.sub I 4 2) 0,D.cell (D.sub I 4 2) 1])] c (λa b=>Br a (kB 139 [.dg 2 (D.sub I 6 2),.dg 2 (D.ag [D.lit (.int .i64
 0),D.sl Option.none 2 [] 0])] b (λa b=>uP b (Q a))) (uP b (Q false)))) (uP c (Q false))) (uP c (Q false))) (uP c (Q false))) (uP c
 (Q false)))) (Br (c==9) (∃ b,(I.cell 1)=D.lit (.string b)/\∃ c,(I.cell 2)=D.lit (.string c)/\kB 138 [.dg 9 I] a (λa d=>Br
 a (∃ a,(I.cell 1)=D.lit (.string a)/\Br (ByteArray.toList a==ByteArray.toList b) (∃ a,(I.cell 2)=D.lit (.string a)/\Br
 (ByteArray.toList a==ByteArray.toList c) (∃ a:Int,(I.cell 3)=D.lit (.int .i64 a)/\Br (a==0) (kB 139 [.dg 2 (D.sub I 4 2),.dg 2 (D.ag
 [D.cell (D.sub I 4 2) 0,D.cell (D.sub I 4 2) 1])] d (λa b=>Br a (kB 139 [.dg 2 (D.sub I 6 2),.dg 2 (D.ag [D.cell (D.sub I 6 2) 0,D.cell
 (D.sub I 6 2) 1])] b (λa b=>uP b (Q a))) (uP b (Q false)))) (uP d (Q false))) (uP d (Q false))) (uP d (Q false))) (uP d (Q false))))
 (kB 138 [.dg 9 I] a (λa b=>Br a (∃ a,(I.cell 1)=D.lit (.string a)/\Br (ByteArray.toList a==ByteArray.toList (bytes [])) (∃ a,
 (I.cell 2)=D.lit (.string a)/\Br (ByteArray.toList a==ByteArray.toList (bytes [])) (∃ a:Int,(I.cell 3)=D.lit (.int .i64 a)/\Br (a ==
 0) (kB 139 [.dg 2 (D.sub I 4 2),.dg 2 (D.ag [D.lit (.int .i64 0),D.sl Option.none 2 [] 0])] b (λa b=>Br a (kB 139 [.dg 2 (D.sub I 6 2),.dg 2
 (D.ag [D.lit (.int .i64 0),D.sl Option.none 2 [] 0])] b (λa b=>uP b (Q a))) (uP b (Q false)))) (uP b (Q false))) (uP b (Q false))) (uP
 b (Q false))) (uP b (Q false))))))))))))):ACalls prog 99 [.bool] [PV.dg 9 I] N Q:=
  eE (H:=zIm) (by kernel_rfl) (by kernel_rfl) h
theorem zIY (N:Nat) (I:D) (Q:QT [.bool]) (h :
Bel N I->kB 98 [.dg 9 I,.fn 99 []] N (λb a=>uP a (Q b))):ACalls prog 58 [.bool] [PV.dg 9 I] N Q:=
 eE (H:=zHI) (by kernel_rfl) (by kernel_rfl) h
theorem zBa (N:Nat) (I:D) (n1:Int) (Q:QT [.bool]) (h :
Bel N I->kB 43 [.int .i64 n1,.int .i64 0,.int .i64 2] N (λb a=>uP a (Q b))):ACalls prog 60 [.bool] [PV.dg 9 I,PV.int .i64 n1] N Q:=
 eE (H:=zBR) (by kernel_rfl) (by kernel_rfl) h
theorem si (N:Nat) (I:D) (n1:Int) (Q:QT [.int .i64]) (h :
Bel N I->∃ n:Int,(I.cell 0)=D.lit (.int .i64 n)/\Br (n==10) (uP N (Q (IntKind.i64.wrap (n1+1)))) (Br (n==11) (uP N (Q (IntKind.i64.wrap (n1
 - 1)))) (uP N (Q n1)))):ACalls prog 100 [.int .i64] [PV.dg 9 I,PV.int .i64 n1] N Q:=
  eE (H:=zDA) (by kernel_rfl) (by kernel_rfl) h
theorem zEx (N:Nat) (I:D) (n1:Int) (Q:QT [.bool]) (h :
Bel N I->kB 58 [.dg 9 I] N (λb a=>Br b (kB 59 [.dg 9 I,.int .i64 n1,.fn 60 []] a (λa b=>uP b (Q a))) (uP a (Q false)))):ACalls prog 32 [.bool] [PV.dg 9 I,PV.int .i64 n1] N Q:=
 eE (H:=zEi) (by kernel_rfl) (by kernel_rfl) h
theorem zEb (N:Nat) (I:D) (Q:QT [.ag 2]) (h :
Bel N I->∃ n:Int,(I.cell 0)=D.lit (.int .i64 n)/\∃ a b,∃ c:Nat,(I.cell 1)=D.sl a 2 b c/\vD Q N a b c (b.length:Int) 0
 0 Option.none [] 0 n Option.none [] 0 N):ACalls prog 103 [.ag 2] [PV.dg 2 I] N Q:=
  eE (H:=uH) (by kernel_rfl) (by kernel_rfl) h
theorem vU (Q:QT [.int .i64]) (N0:Nat) (a0:Option Addr) (e0:List D) (c0:Nat) (J:ByteArray) (O I:Int) (N:Nat) (h :
Br (decide (I<O)) ((0<=I/\I<(e0.length:Int))/\∃ s,List.getD e0 I.toNat default=D.lit (.string s)/\Br (ByteArray.toList J ==
 ByteArray.toList s) (uP N (Q I)) (yc Q N0 a0 e0 c0 J O (IntKind.i64.wrap (I+1)) N)) (uP N (Q (-1)))):yc Q N0 a0 e0 c0 J O I N:=
  hE (H:=uI) (by kernel_rfl) h
theorem rp (Q:QT [.bool]) (N0:Nat) (J:ByteArray) (O I:Int) (N:Nat) (h :
Br (decide (I<O)) ((0<=I/\I<(J.size:Int))/\Br (decide ((UInt8.toNat (Array.getD (ByteArray.data J) I.toNat (OfNat.ofNat 0)):Int)≥97))
 ((0<=I/\I<(J.size:Int))/\Br (!(decide ((UInt8.toNat (Array.getD (ByteArray.data J) I.toNat (OfNat.ofNat 0)):Int)<=122))) (Br (I==0) (uP N (Q
 false)) ((0<=I/\I<(J.size:Int))/\Br (decide ((UInt8.toNat (Array.getD (ByteArray.data J) I.toNat (OfNat.ofNat 0)):Int)<48)) (uP N (Q false)) ((0
 <= I/\I<(J.size:Int))/\Br (decide ((UInt8.toNat (Array.getD (ByteArray.data J) I.toNat (OfNat.ofNat 0)):Int)>57)) (uP N (Q false))
 (yv Q N0 J O (IntKind.i64.wrap (I+1)) N)))) (yv Q N0 J O (IntKind.i64.wrap (I+1)) N)) (Br (I==0) (uP N (Q false)) ((0 <=
 I/\I<(J.size:Int))/\Br (decide ((UInt8.toNat (Array.getD (ByteArray.data J) I.toNat (OfNat.ofNat 0)):Int)<48)) (uP N (Q false)) ((0<=I/\I <
 (J.size:Int))/\Br (decide ((UInt8.toNat (Array.getD (ByteArray.data J) I.toNat (OfNat.ofNat 0)):Int)>57)) (uP N (Q false)) (yv Q N0 J O
 (IntKind.i64.wrap (I+1)) N))))) (kB 43 [.int .i64 (J.size:Int),.int .i64 1,.int .i64 4] N (λb c=>Br b ((5=5/\5=5)/\∀ a,ApA a [D.lit
 (.string (bytes [105,102])),D.lit (.string (bytes [108,101,116])),D.lit (.string (bytes [108,105,102,116])),D.lit (.string (bytes [114,101,99])),
 D.lit (.string (bytes [114,117,110]))]->∀ b,c<=b->wQ b [a]->ACalls prog 147 [.bool] [.sv a 0 [D.lit (.string (bytes [105,102])),D.lit (.string
 (bytes [108,101,116])),D.lit (.string (bytes [108,105,102,116])),D.lit (.string (bytes [114,101,99])),D.lit (.string (bytes [114,117,110]))] 5,.str
 J] b (λa c=>b<=c->uP c (Q (!a)))) (uP c (Q false))))):yv Q N0 J O I N:=
  hE (H:=zAr) (by kernel_rfl) h
theorem uO (Q:QT [.int .i64]) (N0:Nat) (n3:Int) (a7:Option Addr) (e7:List D) (c7:Nat) (n8 n9:Int) (N:Nat) (h :
Br (decide (n9<n8)) ((0<=n9/\n9<(e7.length:Int))/\kI 187 [.dg 2 (List.getD e7 n9.toNat default)] N (fun n a=>yw Q N0
 (IntKind.i64.wrap (n3+n)) a7 e7 c7 n8 (IntKind.i64.wrap (n9+1)) a)) (uP N (Q n3))):yw Q N0 n3 a7 e7 c7 n8 n9 N:=
  hE (H:=tP) (by kernel_rfl) h
theorem vk (Q:QT [.int .i64]) (N0:Nat) (J:Int) (Y:Option Addr) (O:List D) (c7:Nat) (U I:Int) (N:Nat) (h :
Br (decide (I<U)) ((0<=I/\I<(O.length:Int))/\kI 188 [.dg 2 (List.getD O I.toNat default)] N (λn a=>ym Q N0 (if n >
 J then n else J) Y O c7 U (IntKind.i64.wrap (I+1)) a)) (uP N (Q (IntKind.i64.wrap (J+1)))) ):ym Q N0 J Y O c7 U I N:=
  hE (H:=tB) (by kernel_rfl) h
theorem zAH (N:Nat) (x0:D) (Q:QT [.bool]) (h :
Bel N x0->kB 190 [.dg 2 x0] N (fun b d=>Br b (∃ a b,∃ c:Nat,(x0.cell 1)=D.sl a 2 b c/\∀ e,ApA (Option.some e) [D.fn (OfNat.ofNat 190) []] ->
 Off [Option.some e] (D.sl a 2 b c)->∀ f,d<=f->wQ f [Option.some e]->ACalls prog 203 [.bool] [.sv a 2 b c,.fn 204 [.pd e 0 (.fn 190 [])]] f
 (fun a b=>f<=b->uP b (Q (!a)))) (uP d (Q false)))):ACalls prog 189 [.bool] [.dg 2 x0,.fn 190 []] N Q:=
  eE (H:=zDV) (by kernel_rfl) (by kernel_rfl) h
theorem uf (N:Nat) (a0:Option Addr) (e0:List D) (c0:Nat) (a1:Option Addr) (e1:List D) (c1:Nat) (Q:QT [.bool]) (h :
Bel N (D.sl a0 2 e0 c0)->Bel N (D.sl a1 2 e1 c1)->Br (bne (e0.length:Int) (e1.length:Int)) (uP N (Q false)) (zU Q N a1 e1 c1
 a0 e0 c0 (e0.length:Int) 0 N)):ACalls prog 168 [.bool] [.sv a0 2 e0 c0,.sv a1 2 e1 c1,.fn 139 []] N Q:=
  eE (H:=wy) (by kernel_rfl) (by kernel_rfl) h
theorem zAE (N:Nat) (I:D) (Q:QT [.bool]) (h :
Bel N I->kB 99 [.dg 9 I] N (λb d=>Br b (∃ a b,∃ c:Nat,(I.cell 8)=D.sl a 9 b c/\∀ e,ApA (Option.some e) [D.fn (OfNat.ofNat 99) []] ->
 Off [Option.some e] (D.sl a 9 b c)->∀ f,d<=f->wQ f [Option.some e]->ACalls prog 135 [.bool] [.sv a 9 b c,.fn 136 [.pd e 0 (.fn 99 [])]] f (fun
 a b=>f<=b->uP b (Q (!a)))) (uP d (Q false)))):ACalls prog 98 [.bool] [.dg 9 I,.fn 99 []] N Q:=
  eE (H:=zDg) (by kernel_rfl) (by kernel_rfl) h
theorem zCp (N:Nat) (I:D) (n1:Int) (Q:QT [.bool]) (h :
Bel N I->kB 60 [.dg 9 I,.int .i64 n1] N (λb d=>Br (!b) (uP d (Q false)) (∃ a b,∃ c:Nat,(I.cell 8)=D.sl a 9 b c/\wt Q N n1
 a b c (b.length:Int) 0 I d))):ACalls prog 59 [.bool] [.dg 9 I,.int .i64 n1,.fn 60 []] N Q:=
  eE (H:=zA8) (by kernel_rfl) (by kernel_rfl) h
theorem tj (Q:QT [.ag 2]) (N0:Nat) (aj:Option Addr) (aa:List D) (ak:Nat) (ai J ab:Int) (ac:Option Addr) (ae:List D) (ah:Nat) (O:Int) (U:Option Addr) (I:List D) (Y:Nat) (N:Nat) (h :
Br (decide (J<ai)) ((0<=J/\J<(aa.length:Int))/\kA 2 103 [.dg 2 (List.getD aa J.toNat default)] N (λx a=>zRH U I Y [x] /\
 zB I [x] 32/\∀ (c:Nat),yi Q N0 aj aa ak ai (IntKind.i64.wrap (J+1)) ab ac ae ah O (I++[x]).length c (I
 ++ [x]) c a)) (uP N (Q (D.ag [D.lit (.int .i64 O),D.sl U 2 I Y])))):vD Q N0 aj aa ak ai J ab ac ae ah O U I Y N:=
  hE (H:=uH) (by kernel_rfl) h
theorem vZ (N:Nat) (a0:Option Addr) (e0:List D) (c0:Nat) (I:Addr) (Q:QT [.bool]) (h :
Bel N (D.sl a0 2 e0 c0)->kI 209 [.sv a0 2 e0 c0,.fn 204 [.pd I 0 (.fn 190 [])]] N (λn a=>uP a (Q (decide (n≥0))))):ACalls prog 203 [.bool] [.sv a0 2 e0 c0,.fn 204 [.pd I 0 (.fn 190 [])]] N Q:=
 eE (H:=uj) (by kernel_rfl) (by kernel_rfl) h
theorem xk (Q:QT [.bool]) (N0:Nat) (a1:Option Addr) (e1:List D) (c1:Nat) (U:Option Addr) (J:List D) (Y:Nat) (O I:Int) (N:Nat) (h :
Br (decide (I<O)) ((0<=I/\I<(J.length:Int))/\(0<=I/\I<(e1.length:Int))/\kB 139 [.dg 2 (List.getD J I.toNat default),.dg
 2 (List.getD e1 I.toNat default)] N (λb a=>Br (!b) (uP a (Q false)) (zU Q N0 a1 e1 c1 U J Y O (IntKind.i64.wrap (I +
 1)) a))) (uP N (Q true))):zU Q N0 a1 e1 c1 U J Y O I N:=
  hE (H:=wy) (by kernel_rfl) h
theorem vX (N:Nat) (a0:Option Addr) (e0:List D) (c0:Nat) (I:Addr) (Q:QT [.bool]) (h :
Bel N (D.sl a0 9 e0 c0)->kI 163 [.sv a0 9 e0 c0,.fn 136 [.pd I 0 (.fn 99 [])]] N (λn a=>uP a (Q (decide (n≥0))))):ACalls prog 135 [.bool] [.sv a0 9 e0 c0,.fn 136 [.pd I 0 (.fn 99 [])]] N Q:=
 eE (H:=uh) (by kernel_rfl) (by kernel_rfl) h
theorem rR (Q:QT [.bool]) (N0:Nat) (n1:Int) (U:Option Addr) (J:List D) (Y:Nat) (O I:Int) (y0:D) (N:Nat) (h :
Br (decide (I<O)) ((0<=I/\I<(J.length:Int))/\kI 100 [.dg 9 y0,.int .i64 n1] N (λn a=>kB 59 [.dg 9 (List.getD J I.toNat
 default),.int .i64 n,.fn 60 []] a (λb a=>Br (!b) (uP a (Q false)) (wt Q N0 n1 U J Y O (IntKind.i64.wrap (I+1)) y0 a)))) (uP
 N (Q true))):wt Q N0 n1 U J Y O I y0 N:=
  hE (H:=zA8) (by kernel_rfl) h
theorem vl (Q:QT [.ag 2]) (N0:Nat) (aj:Option Addr) (aa:List D) (ak:Nat) (ai O ab:Int) (ac:Option Addr) (ae:List D) (ah:Nat) (U:Int) (I J:Nat) (Y:List D) (q2:Nat) (N:Nat) (h :
Br (decide (O<ai)) ((0<=O/\O<(aa.length:Int))/\kA 2 103 [.dg 2 (List.getD aa O.toNat default)] N (λx a=>(I=Y.length/\J
 = q2)/\zB Y [x] 32/\∀ (c:Nat),yi Q N0 aj aa ak ai (IntKind.i64.wrap (O+1)) ab ac ae ah U (Y++[x]).length c
 (Y++[x]) c a)) ((I=Y.length/\J=q2)/\(I=Y.length/\J=q2)/\(I=Y.length/\J=q2)/\∀ a b,N<=b->Fresh N0 b a [D.ag Y]
 -> uP b (Q (D.ag [D.lit (.int .i64 U),D.sl a 2 Y q2])))):yi Q N0 aj aa ak ai O ab ac ae ah U I J Y q2 N:=
  hE (H:=uH) (by kernel_rfl) h
theorem uk (N:Nat) (a0:Option Addr) (e0:List D) (c0:Nat) (I:Addr) (Q:QT [.int .i64]) (h :
Bel N (D.sl a0 2 e0 c0)->zu Q N a0 e0 c0 I (e0.length:Int) 0 N):ACalls prog 209 [.int .i64] [.sv a0 2 e0 c0,.fn 204 [.pd I 0 (.fn 190 [])]] N Q:=
 eE (H:=wu) (by kernel_rfl) (by kernel_rfl) h
theorem um (N:Nat) (a0:Option Addr) (e0:List D) (c0:Nat) (I:Addr) (Q:QT [.int .i64]) (h :
Bel N (D.sl a0 9 e0 c0)->zw Q N a0 e0 c0 I (e0.length:Int) 0 N):ACalls prog 163 [.int .i64] [.sv a0 9 e0 c0,.fn 136 [.pd I 0 (.fn 99 [])]] N Q:=
 eE (H:=wU) (by kernel_rfl) (by kernel_rfl) h
theorem xo (Q:QT [.int .i64]) (N0:Nat) (a0:Option Addr) (e0:List D) (c0:Nat) (I:Addr) (O J:Int) (N:Nat) (h :
Br (decide (J<O)) ((0<=J/\J<(e0.length:Int))/\kB 204 [.dg 2 (List.getD e0 J.toNat default),.pd I 0 (.fn 190 [])] N (λb a=>Br b (uP
 a (Q J)) (zu Q N0 a0 e0 c0 I O (IntKind.i64.wrap (J+1)) a))) (uP N (Q (-1)))):zu Q N0 a0 e0 c0 I O J N:=
  hE (H:=wu) (by kernel_rfl) h
theorem xl (Q:QT [.int .i64]) (N0:Nat) (a0:Option Addr) (e0:List D) (c0:Nat) (I:Addr) (O J:Int) (N:Nat) (h :
Br (decide (J<O)) ((0<=J/\J<(e0.length:Int))/\kB 136 [.dg 9 (List.getD e0 J.toNat default),.pd I 0 (.fn 99 [])] N (λb a=>Br b (uP
 a (Q J)) (zw Q N0 a0 e0 c0 I O (IntKind.i64.wrap (J+1)) a))) (uP N (Q (-1)))):zw Q N0 a0 e0 c0 I O J N:=
  hE (H:=wU) (by kernel_rfl) h
theorem qi (N:Nat) (I:D) (a1:Addr) (Q:QT [.bool]) (h :
Bel N I->kB 189 [.dg 2 I,.fn 190 []] N (λb a=>uP a (Q (!b)))):ACalls prog 204 [.bool] [.dg 2 I,.pd a1 0 (.fn 190 [])] N Q:=
 eE (H:=zBX) (by kernel_rfl) (by kernel_rfl) h
theorem qj (N:Nat) (I:D) (a1:Addr) (Q:QT [.bool]) (h :
Bel N I->kB 98 [.dg 9 I,.fn 99 []] N (λb a=>uP a (Q (!b)))):ACalls prog 136 [.bool] [.dg 9 I,.pd a1 0 (.fn 99 [])] N Q:=
 eE (H:=zBj) (by kernel_rfl) (by kernel_rfl) h
end Go.Proofs.YtfajiphkncipoaaGreatDoor
set_option maxRecDepth 100000
namespace Go.Proofs.YtfajiphkncipoaaGreatDoor
open Go Go.Proofs Go.Proofs.Tryz
def p9:Hint:=⟨[hc 3 [3,7,8,9]],[],[(5,hs 5 [ec 2 [14]])]⟩
def pA:Hint:=⟨[hc 3 [1,3,4]],[],[(5,hs 9 [ec 6 [17]])]⟩
def qp:Hint:=⟨[hc 2 [0,1,5]],[],[]⟩
def zAh:Hint:=⟨[],[],[(1,hs 13 [ec 1 [3],ec 5 [7],ec 10 [12]])]⟩
def zBA:Hint:=⟨[hc 3 [1,2,5]],[],[(5,hs 8 [ec 6 [23]])]⟩
def wx (Q:QT [.int .i64]) (N0:Nat) (I:Int) (J:Option Addr) (O:List D) (U:Nat) (Y n9:Int) (N:Nat):Prop:=AT prog 81 [.int .i64] Q N0 .ord (zD prog 81 3) ⟨an 3 (.int .i64 I::an 3 (.sv J 9 O U::.int .i64 Y::.int .i64 n9::an 9 [])),[],N,none⟩
def wB (Q:QT [.int .i64]) (N0:Nat) (I J:Int) (O:D) (N:Nat):Prop:=AT prog 201 [.int .i64] Q N0 .ord (zD prog 201 3) ⟨an 1 (.pb 0 0 0 0::an 1 (.int .i64 I::.int .i64 J::an 17 [])),[.vd O 9],N,none⟩
def xu (Q:QT [.int .i64]) (N0:Nat) (a0:Option Addr) (e0:List D) (c0:Nat) (I:ByteArray) (J:Int) (N:Nat):Prop:=AT prog 123 [.int .i64] Q N0 .ord (zD prog 123 2) ⟨.sv a0 0 e0 c0::.str I::an 3 (.int .i64 J::an 13 []),[],N,none⟩
def w7 (Q:QT [.int .i64]) (N0:Nat) (n1 I:Int) (J:D) (N:Nat):Prop:=AT prog 200 [.int .i64] Q N0 .ord (zD prog 200 3) ⟨an 1 (.int .i64 n1::.pb 0 0 0 0::an 2 (.int .i64 I::an 21 [])),[.vd J 9],N,none⟩
theorem zHH (N:Nat) (I:D) (Q:QT [.int .i64]) (h :
Bel N I->∃ a b,∃ c:Nat,(I.cell 8)=D.sl a 9 b c/\wx Q N 1 a b c (b.length:Int) 0 N):ACalls prog 81 [.int .i64] [PV.dg 9 I] N Q:=
 eE (H:=p9) (by kernel_rfl) (by kernel_rfl) h
theorem zFl (N:Nat) (I:D) (Q:QT [.int .i64]) (h :
Bel N I->wB Q N 0 0 I N):ACalls prog 201 [.int .i64] [PV.dg 9 I] N Q:=
 eE (H:=pA) (by kernel_rfl) (by kernel_rfl) h
theorem zFu (N:Nat) (a0:Option Addr) (e0:List D) (c0:Nat) (I:ByteArray) (Q:QT [.int .i64]) (h :
Bel N (D.sl a0 0 e0 c0)->xu Q N a0 e0 c0 I 0 N):ACalls prog 123 [.int .i64] [PV.sv a0 0 e0 c0,PV.str I] N Q:=
 eE (H:=qp) (by kernel_rfl) (by kernel_rfl) h
theorem pz (N:Nat) (I:D) (Q:QT [.bool]) (h :
Bel N I->kI 200 [.dg 9 I,.int .i64 80] N (λn a=>Br (decide (n≥0)) (kI 201 [.dg 9 I] a (λa c=>Br (decide (a<=20)) (kB 38 [.dg 9 I]
 c (λb a=>uP a (Q b))) (uP c (Q false)))) (uP a (Q false)))):ACalls prog 185 [.bool] [PV.dg 9 I] N Q:=
  eE (H:=zAh) (by kernel_rfl) (by kernel_rfl) h
theorem zG5 (N:Nat) (I:D) (n1:Int) (Q:QT [.int .i64]) (h :
Bel N I->w7 Q N (IntKind.i64.wrap (n1 - 1)) 0 I N):ACalls prog 200 [.int .i64] [PV.dg 9 I,PV.int .i64 n1] N Q:=
 eE (H:=zBA) (by kernel_rfl) (by kernel_rfl) h
theorem qD (Q:QT [.int .i64]) (N0:Nat) (O:Int) (Y:Option Addr) (J:List D) (c7:Nat) (U I:Int) (N:Nat) (h :
Br (decide (I<U)) ((0<=I/\I<(J.length:Int))/\∀ a,N<=a->ACalls prog 81 [.int .i64] [.dg 9 (List.getD J I.toNat default)] a (λn b
 => a<=b->wx Q N0 (IntKind.i64.wrap (O+n)) Y J c7 U (IntKind.i64.wrap (I+1)) b)) (uP N (Q O))):wx Q N0 O Y J c7 U I N:=
  hE (H:=p9) (by kernel_rfl) h
theorem sc (Q:QT [.int .i64]) (N0:Nat) (O I:Int) (J:D) (N:Nat) (h :
∃ a b,∃ c:Nat,(J.cell 8)=D.sl a 9 b c/\Br (decide (I<(b.length:Int))) (∃ a b,∃ c:Nat,(J.cell 8)=D.sl a 9 b c/\(0<=I
 /\ I<(b.length:Int))/\kI 201 [.dg 9 (List.getD b I.toNat default)] N (λn a=>kI 151 [.int .i64 O,.int .i64 n] a (λa b=>
 wB Q N0 a (IntKind.i64.wrap (I+1)) J b))) (uP N (Q (IntKind.i64.wrap (O+1))))):wB Q N0 O I J N:=
  hE (H:=pA) (by kernel_rfl) h
theorem sk (Q:QT [.int .i64]) (N0:Nat) (a0:Option Addr) (e0:List D) (c0:Nat) (J:ByteArray) (I:Int) (N:Nat) (h :
Br (decide (I<(e0.length:Int))) ((0<=I/\I<(e0.length:Int))/\∃ s,List.getD e0 I.toNat default=D.lit (.string s)/\Br (ByteArray.toList s
 == ByteArray.toList J) (uP N (Q I)) (xu Q N0 a0 e0 c0 J (IntKind.i64.wrap (I+1)) N)) (uP N (Q (-1)))):xu Q N0 a0 e0 c0 J I N:=
  hE (H:=qp) (by kernel_rfl) h
theorem rX (Q:QT [.int .i64]) (N0:Nat) (n1 n5:Int) (y0:D) (N:Nat) (h :
∃ a b,∃ c:Nat,(y0.cell 8)=D.sl a 9 b c/\Br (decide (n5<(b.length:Int))) (Br (decide (n1≥0)) (∃ a b,∃ c:Nat,(y0.cell 8)=D.sl
 a 9 b c/\(0<=n5/\n5<(b.length:Int))/\kI 200 [.dg 9 (List.getD b n5.toNat default),.int .i64 n1] N (fun n a=>w7 Q N0 n
 (IntKind.i64.wrap (n5+1)) y0 a)) (uP N (Q n1))) (uP N (Q n1))):w7 Q N0 n1 n5 y0 N:=
  hE (H:=zBA) (by kernel_rfl) h
end Go.Proofs.YtfajiphkncipoaaGreatDoor
