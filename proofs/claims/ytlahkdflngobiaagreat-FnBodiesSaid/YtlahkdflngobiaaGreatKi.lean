/- Printed by gen.py: what the functions come to. -/
import Derived.Test.YtlahkdflngobiaaGreatJh
set_option linter.unusedVariables false
set_option maxRecDepth 100000
namespace Go.Proofs.YtlahkdflngobiaaGreat
open Go Go.Proofs Go.Proofs.Tryz
def uW:Hint:=⟨[hc 2 [0,1,7,8]],[],[]⟩
def zBS:Hint:=⟨[hc 2 [0,6,7]],[],[]⟩
def tn:Hint:=⟨[hc 3 [3,7,8,9]],[],[(5,hs 5 [ec 2 [14]])]⟩
def tX:Hint:=⟨[hc 3 [3,7,8,9]],[],[(5,hs 5 [ec 2 [14]])]⟩
def qv:Hint:=⟨[],[],[(1,[en 0,en 1,eh 2,en 3,en 4,en 5,en 6,en 7,en 8,en 9,en 10,en 11,en 12,en 13,en 14,en 15])]⟩
def zB5:Hint:=⟨[],[],[(1,hs 5 [ec 2 [4]])]⟩
def wz:Hint:=⟨[hc 2 [0,1,7,8]],[],[(4,hs 6 [ec 5 [15]])]⟩
def zDj:Hint:=⟨[],[],[(1,hs 11 [ec 2 [6]])]⟩
def zAw:Hint:=⟨[],[],[(1,hs 13 [ec 1 [3],ec 5 [7],ec 10 [12]])]⟩
def zGB:Hint:=⟨[],[],[(1,hs 17 [ec 7 [9]])]⟩
def wG:Hint:=⟨[hc 2 [0,1,7,8]],[],[(4,hs 6 [ec 5 [15]])]⟩
def zFy:Hint:=⟨[],[],[(12,hs 9 [ec 6 [34]]),(14,hs 26 [ec 18 [56],ec 23 [61]])]⟩
def w9:Hint:=⟨[hc 4 [1,2,15,16,17]],[],[(7,hs 5 [ec 3 [27,28]])]⟩
def zIg:Hint:=⟨[],[],[(1,[en 0,en 1,en 2,en 3,ec 4 [7],en 5]),(14,[en 0,en 1,en 2,en 3,en 4,eh 5,en 6,eh 7]),(16,[en 0,en 1,en 2,en 3,en 4,en 5,en 6,en 7,en 8,eh 9,en 10,eh 11,en 12,eh 13,en 14,eh 15]),(17,hs 38 [ec 1 [54],ec 28 [79,81],ec 35 [86,88]])]⟩
def zCG:Hint:=⟨[],[],[(1,hs 5 [ec 2 [4]])]⟩
def wc:Hint:=⟨[hc 2 [0,1,7,8]],[],[(4,hs 6 [ec 5 [15]])]⟩
def zDw:Hint:=⟨[],[],[(1,hs 11 [ec 2 [6]])]⟩
def zHP:Hint:=⟨[],[],[(1,hs 3 [ec 1 [3]])]⟩
def zBf:Hint:=⟨[hc 4 [1,2,3,15,16,17]],[],[(1,hs 5 [ec 3 [10]]),(6,[en 0,en 1,en 2,en 4,ec 3 [22],ec 5 [21],en 6])]⟩
def zEr:Hint:=⟨[],[],[(1,hs 8 [ec 1 [5],ec 5 [8]])]⟩
def zB0:Hint:=⟨[],[],[(1,[en 0,en 1,en 2,en 3,en 4,en 5,en 6,ec 7 [11],eh 8])]⟩
def qL:Hint:=⟨[hc 2 [0,1,5]],[],[]⟩
def uV:Hint:=⟨[hc 3 [2,3,10,11,12]],[],[(5,[en 0,en 1,en 2,ec 3 [18],en 4,eh 5,en 6,eh 7])]⟩
def zAa:Hint:=⟨[hc 11 [4,5,6,22,23,24]],[],[(13,hs 4 [ec 2 [28,29]])]⟩
def zJs:Hint:=⟨[],[],[(1,[en 0,en 2,ec 1 [5],ec 3 [7],en 4,en 5,eh 6])]⟩
def zG8:Hint:=⟨[],[],[(1,hs 5 [ec 1 [3]])]⟩
def zH6:Hint:=⟨[],[],[(3,hs 6 [ec 4 [10]])]⟩
def pQ:Hint:=⟨[hc 3 [0,1,5,9,10,11] [(5,77,4)]],[],[(5,hs 17 [ec 2 [17]]),(6,[en 0,en 1,en 2,en 3,en 4,en 6,en 7,ec 5 [37],en 8,en 9,eh 10,eh 11])]⟩
def zC2:Hint:=⟨[],[],[(3,hs 10 [ec 7 [17]]),(5,hs 3 [ec 1 [24]]),(7,hs 10 [ec 7 [32],ec 8 [35]]),(9,[en 0,en 1,en 3,en 4,en 5,en 6,en 7,eh 2,ec 8 [45],ec 9 [47],eh 10]),(11,hs 9 [ec 6 [55]]),(12,hs 2 [ec 1 [58]]),(13,hs 3 [ec 1 [60]])]⟩
def rW:Hint:=⟨[hc 15 [4,6,7,9,57,58] [(9,27,2)]],[],[(5,[en 0,en 1,en 2,en 3,en 4,en 5,en 6,en 7,en 8,en 9,en 10]),(6,hs 7 [ec 5 [43]]),(22,hs 9 [ec 3 [79,80],ec 7 [83,84]]),(27,[en 0,en 1,en 2,en 3,en 4,en 5,en 6,en 7,en 8,ec 9 [102,103],en 10]),(28,hs 6 [ec 4 [109]]),(31,[en 0,en 1,en 2,en 3,en 4,en 5,en 6,en 7,en 9,en 10,en 11,en 12,en 13,en 15,eh 8,ec 14 [126],eh 16]),(34,hs 5 [ec 3 [134,135]]),(39,[en 0,en 1,en 2,en 3,en 4,en 5,en 6,en 8,en 9,en 10,en 11,en 12,eh 7,ec 13 [156],eh 14]),(41,hs 7 [ec 4 [162,164]]),(42,[en 0,en 1,en 2,en 3,en 4,en 5,en 6,en 7,en 8,en 9,en 10,en 11,en 12,en 14,en 15,en 16,en 17,en 18,en 20,eh 13,ec 19 [183],eh 21]),(43,hs 4 [ec 3 [186,188]]),(46,hs 5 [ec 3 [193]])]⟩
def zJq:Hint:=⟨[],[],[(1,hs 6 [ec 3 [9]]),(2,hs 3 [ec 1 [12]])]⟩
def zIW:Hint:=⟨[],[],[(1,hs 9 [ec 6 [13]]),(3,hs 6 [ec 3 [20]]),(4,[en 0,en 1,en 2,en 3,eh 4,en 5])]⟩
def yg (Q:QT [.int .i64]) (N0:Nat) (I:Option Addr) (e0:List D) (J:Nat) (O:ByteArray) (U Y:Int) (N:Nat):Prop:=AT prog 99 [.int .i64] Q N0 .ord (zE prog 99 2) ⟨.sv I 0 e0 J::.str O::an 5 (.int .i64 U::.int .i64 Y::an 10 []),[],N,none⟩
def xB (Q:QT [.bool]) (N0:Nat) (I:ByteArray) (J O:Int) (N:Nat):Prop:=AT prog 56 [.bool] Q N0 .ord (zE prog 56 2) ⟨.str I::an 5 (.int .i64 J::.int .i64 O::an 40 []),[],N,none⟩
def xE (Q:QT [.int .i64]) (N0:Nat) (I:Int) (J:Option Addr) (O:List D) (U:Nat) (Y n9:Int) (N:Nat):Prop:=AT prog 154 [.int .i64] Q N0 .ord (zE prog 154 3) ⟨an 3 (.int .i64 I::an 3 (.sv J 2 O U::.int .i64 Y::.int .i64 n9::an 9 [])),[],N,none⟩
def yr (Q:QT [.int .i64]) (N0:Nat) (I:Int) (J:Option Addr) (O:List D) (U:Nat) (Y n9:Int) (N:Nat):Prop:=AT prog 155 [.int .i64] Q N0 .ord (zE prog 155 3) ⟨an 3 (.int .i64 I::an 3 (.sv J 2 O U::.int .i64 Y::.int .i64 n9::an 10 [])),[],N,none⟩
def xt (Q:QT [.int .i64]) (N0:Nat) (I:Option Addr) (e0:List D) (J:Nat) (O:ByteArray) (U:Int) (N:Nat):Prop:=AT prog 160 [.int .i64] Q N0 .ord (zE prog 160 2) ⟨.sv I 4 e0 J::.str O::an 3 (.int .i64 U::an 15 []),[],N,none⟩
def vQ (Q:QT [.ag 2]) (N0:Nat) (ae:Option Addr) (ah:List D) (ai:Nat) (aj ak I:Int) (J:Option Addr) (O:List D) (U:Nat) (Y:Int) (aa:Option Addr) (ab:List D) (ac:Nat) (N:Nat):Prop:=AT prog 53 [.ag 2] Q N0 .ord (zE prog 53 3) ⟨an 2 (.pb 0 0 0 0::.pb 1 0 0 0::an 6 (.sv ae 2 ah ai::.int .i64 aj::.int .i64 ak::an 12 [])),[.var [.int .i64 I,.sv J 2 O U],.var [.int .i64 Y,.sv aa 2 ab ac]],N,none⟩
def zQ (Q:QT [.ag 2]) (N0:Nat) (Y:Option Addr) (aa:List D) (ab:Nat) (ac ae I:Int) (J:Option Addr) (O:List D) (U:Nat) (y1 y2:D) (N:Nat):Prop:=AT prog 163 [.ag 2] Q N0 .ord (zE prog 163 11) ⟨an 4 (.pb 0 0 0 0::.pb 1 0 0 0::.pb 2 0 0 0::an 15 (.sv Y 2 aa ab::.int .i64 ac::.int .i64 ae::an 10 [])),[.var [.int .i64 I,.sv J 2 O U],.vd y1 2,.vd y2 2],N,none⟩
def yJ (Q:QT [.sl 4]) (N0:Nat) (O:Option Addr) (e0:List D) (U:Nat) (Y:Int) (m5 c5:Nat) (a9:Option Addr) (e9:List D) (c9:Nat) (I J:Int) (r0:List D) (q0:Nat) (N:Nat):Prop:=AT prog 182 [.sl 4] Q N0 .ord (zE prog 182 3) ⟨.sv O 4 e0 U::.int .i64 Y::an 3 (.sb 0 4 0 m5 c5::an 3 (.sv a9 4 e9 c9::.int .i64 I::.int .i64 J::an 34 [])),[.arr 77 4 r0 q0],N,none⟩
def ye (Q:QT [.ag 2]) (N0:Nat) (m9 c9:Nat) (ae ah:Int) (y0:D) (I:Int) (J:Option Addr) (O:List D) (U:Nat) (Y:Option Addr) (aa:List D) (ab:Nat) (ac:Int) (r4:List D) (q4:Nat) (N:Nat):Prop:=AT prog 133 [.ag 2] Q N0 .ord (zE prog 133 15) ⟨an 4 (.pb 0 0 0 0::an 1 (.pb 1 0 0 0::.fn 159 [.pb 2 0 0 0,.pb 0 0 0 0,.pb 3 0 0 0]::an 1 (.sb 4 2 0 m9 c9::an 47 (.int .i64 ae::.int .i64 ah::an 137 [])))),[.vd y0 9,.var [.int .i64 I,.sv J 2 O U],.var [.sv Y 4 aa ab],.var [.int .i64 ac],.arr 27 2 r4 q4],N,none⟩
def zS (Q:QT [.bool]) (N0:Nat) (a1:Option Addr) (e1:List D) (c1:Nat) (I:Option Addr) (J:List D) (O:Nat) (U Y:Int) (N:Nat):Prop:=AT prog 176 [.bool] Q N0 .ord (zE prog 176 4) ⟨an 1 (.sv a1 2 e1 c1::.fn 152 []::an 12 (.sv I 2 J O::.int .i64 U::.int .i64 Y::an 14 [])),[],N,none⟩
def wx (Q:QT [.bool]) (N0:Nat) (n1:Int) (I:Option Addr) (J:List D) (O:Nat) (U Y:Int) (y0:D) (N:Nat):Prop:=AT prog 131 [.bool] Q N0 .ord (zE prog 131 4) ⟨an 1 (.int .i64 n1::.fn 132 []::.pb 0 0 0 0::an 11 (.sv I 9 J O::.int .i64 U::.int .i64 Y::an 11 [])),[.vd y0 9],N,none⟩
def yn (Q:QT [.ag 2]) (N0:Nat) (ac:Option Addr) (ae:List D) (ah:Nat) (ai aj I:Int) (J:Option Addr) (O:List D) (U:Nat) (Y:Int) (aa ab:Nat) (r2:List D) (q2:Nat) (N:Nat):Prop:=AT prog 53 [.ag 2] Q N0 .ord (zE prog 53 3) ⟨an 2 (.pb 0 0 0 0::.pb 1 0 0 0::an 6 (.sv ac 2 ae ah::.int .i64 ai::.int .i64 aj::an 12 [])),[.var [.int .i64 I,.sv J 2 O U],.var [.int .i64 Y,.sb 2 2 0 aa ab],.arr 27 2 r2 q2],N,none⟩
def zY (Q:QT [.int .i64]) (N0:Nat) (I:Option Addr) (e0:List D) (J:Nat) (O U:Int) (N:Nat):Prop:=AT prog 153 [.int .i64] Q N0 .ord (zE prog 153 2) ⟨.sv I 4 e0 J::.fn 129 []::an 5 (.int .i64 O::.int .i64 U::an 10 []),[],N,none⟩
def yB (Q:QT [.int .i64]) (N0:Nat) (J:Option Addr) (e0:List D) (O:Nat) (I:Addr) (U Y:Int) (N:Nat):Prop:=AT prog 186 [.int .i64] Q N0 .ord (zE prog 186 2) ⟨.sv J 2 e0 O::.fn 178 [.pd I 0 (.fn 157 [])]::an 5 (.int .i64 U::.int .i64 Y::an 10 []),[],N,none⟩
def yC (Q:QT [.int .i64]) (N0:Nat) (J:Option Addr) (e0:List D) (O:Nat) (I:Addr) (U Y:Int) (N:Nat):Prop:=AT prog 126 [.int .i64] Q N0 .ord (zE prog 126 2) ⟨.sv J 9 e0 O::.fn 82 [.pd I 0 (.fn 127 [])]::an 5 (.int .i64 U::.int .i64 Y::an 10 []),[],N,none⟩
theorem zIa (N:Nat) (n0 I J:Int) (Q:QT [.bool]) (h :
Br (decide (I<=n0)) (uP N (Q (decide (n0<=J)))) (uP N (Q false))):ACalls prog 38 [.bool] [PV.int .i64 n0,PV.int .i64 I,PV.int .i64 J] N Q:=
 eE H0 h
theorem pi (N:Nat) (I:Option Addr) (e0:List D) (J:Nat) (O:ByteArray) (Q:QT [.int .i64]) (h :
Bel N (D.sl I 0 e0 J)->yg Q N I e0 J O (e0.length:Int) 0 N):ACalls prog 99 [.int .i64] [PV.sv I 0 e0 J,PV.str O] N Q:=
 eE uW h
theorem rM (N:Nat) (I:Option Addr) (e0:List D) (J:Nat) (O:ByteArray) (Q:QT [.bool]) (h :
Bel N (D.sl I 0 e0 J)->kI 99 [.sv I 0 e0 J,.str O] N (λn a=>uP a (Q (decide (n≥0))))):ACalls prog 98 [.bool] [PV.sv I 0 e0 J,PV.str O] N Q:=
 eE H0 h
theorem zH5 (N:Nat) (I:ByteArray) (Q:QT [.bool]) (h :
xB Q N I (I.size:Int) 0 N):ACalls prog 56 [.bool] [PV.str I] N Q:=
 eE zBS h
theorem zCQ (N:Nat) (I:D) (Q:QT [.int .i64]) (h :
Bel N I->∃ a b,∃ c:Nat,(I.cell 1)=D.sl a 2 b c/\xE Q N 1 a b c (b.length:Int) 0 N):ACalls prog 154 [.int .i64] [PV.dg 2 I] N Q:=
 eE tn h
theorem zBP (N:Nat) (I:D) (Q:QT [.int .i64]) (h :
Bel N I->∃ a b,∃ c:Nat,(I.cell 1)=D.sl a 2 b c/\yr Q N 0 a b c (b.length:Int) 0 N):ACalls prog 155 [.int .i64] [PV.dg 2 I] N Q:=
 eE tX h
theorem qq (N:Nat) (I:D) (Q:QT [.bool]) (h :
Bel N I->∃ n:Int,(I.cell 0)=D.j n/\kB 38 [.j n,.j 1,.j 4] N (λb d=>Br b (∃ a b,∃ c:Nat,(I.cell 1)=D.sl a 2 b c/\∃ a:Int,
 (I.cell 0)=D.j a/\(0<=IntKind.i64.wrap (a - 1)/\IntKind.i64.wrap (a - 1)<4/\(0+(IntKind.i64.wrap (a - 1)).toNat:Nat)<4)/\(0 +
 (IntKind.i64.wrap (a - 1)).toNat:Nat)<4/\∃ c:Int,List.getD [D.j 0,D.j 0,D.j 2,D.j 1] (0+(IntKind.i64.wrap (a - 1)).toNat:Nat) default=D.j
 c/\uP d (Q ((b.length:Int)==c))) (uP d (Q false)))):ACalls prog 157 [.bool] [PV.dg 2 I] N Q:=
  eE qv h
theorem zAx (N:Nat) (I:D) (Q:QT [.bool]) (h :
Bel N I->kI 154 [.dg 2 I] N (λn a=>Br (decide (n<=30)) (kI 155 [.dg 2 I] a (λa c=>Br (decide (a<=8)) (kB 156 [.dg 2 I,.fn 157 []]
 c (λb a=>uP a (Q b))) (uP c (Q false)))) (uP a (Q false)))):ACalls prog 130 [.bool] [PV.dg 2 I] N Q:=
  eE zAw h
theorem zFp (N:Nat) (I:D) (Q:QT [.bool]) (h :
Bel N I->∃ s,(I.cell 0)=D.t s/\kB 56 [.str s] N (λb a=>Br (!b) (uP a (Q true)) (kB 130 [.dg 2 (D.sub I 1 2)] a (λa b=>Br (!a) (uP
 b (Q true)) (∃ n:Int,(I.cell 3)=D.j n/\kB 38 [.j n,.j 0,.j 2] b (λa b=>uP b (Q (!a)))))))):ACalls prog 129 [.bool] [PV.dg 4 I] N Q:=
  eE zGB h
theorem zJ8 (N:Nat) (I:Option Addr) (e0:List D) (J:Nat) (Q:QT [.bool]) (h :
Bel N (D.sl I 4 e0 J)->Br (decide ((e0.length:Int)<=12)) (kB 128 [.sv I 4 e0 J,.fn 129 []] N (λb a=>uP a (Q (!b)))) (uP N (Q false))):ACalls prog 86 [.bool] [PV.sv I 4 e0 J] N Q:=
 eE H0 h
theorem zFn (N:Nat) (I:ByteArray) (Q:QT [.int .i64]) (h :
Br (ByteArray.toList I==ByteArray.toList (bytes [43])) (uP N (Q 2)) (Br (ByteArray.toList I==ByteArray.toList (bytes [45])) (uP N (Q 2)) (Br
 (ByteArray.toList I==ByteArray.toList (bytes [42])) (uP N (Q 2)) (Br (ByteArray.toList I==ByteArray.toList (bytes [61])) (uP N (Q 2)) (Br
 (ByteArray.toList I==ByteArray.toList (bytes [60])) (uP N (Q 2)) (Br (ByteArray.toList I==ByteArray.toList (bytes [38])) (uP N (Q 2)) (Br
 (ByteArray.toList I==ByteArray.toList (bytes [124])) (uP N (Q 2)) (Br (ByteArray.toList I==ByteArray.toList (bytes [33])) (uP N (Q 1)) (uP N (Q
 0)))))))))):ACalls prog 175 [.int .i64] [PV.str I] N Q:=
  eE H0 h
theorem zJi (N:Nat) (I:D) (Q:QT [.int .i64]) (h :
Bel N I->∃ n:Int,(I.cell 0)=D.j n/\Br (n==4) (∃ s,(I.cell 1)=D.t s/\kI 175 [.str s] N (λa b=>uP b (Q a))) (Br (n==5) (uP N (Q
 3)) (Br (n==7) (uP N (Q 2)) (Br (n==8) (uP N (Q 2)) (Br (n==6) (uP N (Q 1)) (Br (n==9) (uP N (Q 1)) (Br (n==10) (uP N (Q 1)) (Br (n==11) (uP N (Q
 1)) (Br (n==12) (uP N (Q 1)) (Br (n==13) (uP N (Q 1)) (uP N (Q 0)))))))))))):ACalls prog 150 [.int .i64] [PV.dg 9 I] N Q:=
  eE H0 h
theorem zEB (N:Nat) (n0:Int) (Q:QT [.bool]) (h :
kB 38 [.j n0,.j 0,.j 10006] N (λb a=>uP a (Q b))):ACalls prog 119 [.bool] [PV.int .i64 n0] N Q:=
 eE H0 h
theorem zF0 (N:Nat) (I:D) (Q:QT [.bool]) (h :
Bel N I->∃ n:Int,(I.cell 0)=D.j n/\Br (n==1) (∃ s,(I.cell 1)=D.t s/\kB 56 [.str s] N (λb a=>uP a (Q b))) (Br (n==8) (∃ a,
 (I.cell 1)=D.t a/\kB 56 [.str a] N (λa b=>uP b (Q a))) (Br (n==2) (∃ a:Int,(I.cell 3)=D.j a/\kB 119 [.j a] N (λa b=>uP
 b (Q a))) (Br (n==3) (∃ a:Int,(I.cell 3)=D.j a/\kB 38 [.j a,.j 0,.j 1] N (λa b=>uP b (Q a))) (Br (n==4) (∃ a,(I.cell 1) =
 D.t a/\kI 175 [.str a] N (λa b=>uP b (Q (decide (a>0))))) (Br (n==6) (∃ a,(I.cell 1)=D.t a/\kB 56 [.str a] N (λa b=>Br
 a (kB 130 [.dg 2 (D.sub I 4 2)] b (λa b=>uP b (Q a))) (uP b (Q false)))) (Br (n==9) (∃ a,(I.cell 1)=D.t a/\kB 56 [.str a] N
 (λa b=>Br a (∃ a,(I.cell 2)=D.t a/\kB 56 [.str a] b (λa b=>Br a (∃ a,(I.cell 1)=D.t a/\∃ c,(I.cell 2)=D.t c
 /\ Br (!(ByteArray.toList a==ByteArray.toList c)) (kB 130 [.dg 2 (D.sub I 4 2)] b (λa b=>Br a (kB 130 [.dg 2 (D.sub I 6 2)] b (λa b
 => uP b (Q a))) (uP b (Q false)))) (uP b (Q false))) (uP b (Q false)))) (uP b (Q false)))) (∃ a:Int,(I.cell 0)=D.j a/\kB 38 [.j a,.j
 1,.j 13] N (λa b=>uP b (Q a)))))))))):ACalls prog 151 [.bool] [PV.dg 9 I] N Q:=
  eE zFy h
theorem zC9 (N:Nat) (I J:D) (Q:QT [.bool]) (h :
Bel N I->Bel N J->∃ n:Int,(I.cell 0)=D.j n/\∃ d:Int,(J.cell 0)=D.j d/\Br (n==d) (∃ a d,∃ c:Nat,(I.cell 1)=D.sl a 2 d c /\
 ∃ e f,∃ g:Nat,(J.cell 1)=D.sl e 2 f g/\kB 176 [.sv a 2 d c,.sv e 2 f g,.fn 152 []] N (λb a=>uP a (Q b))) (uP N (Q
 false))):ACalls prog 152 [.bool] [PV.dg 2 I,PV.dg 2 J] N Q:=
  eE H0 h
theorem zH2 (N:Nat) (I:D) (Q:QT [.bool]) (h :
Bel N I->∃ a d,∃ c:Nat,(I.cell 8)=D.sl a 9 d c/\kI 150 [.dg 9 I] N (λn a=>Br (bne (d.length:Int) n) (uP a (Q false)) (∃ c:Int,
 (I.cell 0)=D.j c/\∃ c:Int,(I.cell 0)=D.j c/\Br (c==1) (∃ s,(I.cell 1)=D.t s/\kB 151 [.dg 9 I] a (λb a=>Br b (∃ b,(I.cell
 1)=D.t b/\Br (ByteArray.toList b==ByteArray.toList s) (∃ b,(I.cell 2)=D.t b/\Br (ByteArray.toList b==ByteArray.toList b0) (∃ b:Int,
 (I.cell 3)=D.j b/\Br (b==0) (kB 152 [.dg 2 (D.sub I 4 2),.dg 2 (D.ag [D.j 0,D.sl none 2 [] 0])] a (λa b=>Br a (kB 152 [.dg 2 (D.sub I 6
 2),.dg 2 (D.ag [D.j 0,D.sl none 2 [] 0])] b (λa b=>uP b (Q a))) (uP b (Q false)))) (uP a (Q false))) (uP a (Q false))) (uP a (Q false))) (uP
 a (Q false)))) (Br (c==8) (∃ b,(I.cell 1)=D.t b/\kB 151 [.dg 9 I] a (λa c=>Br a (∃ a,(I.cell 1)=D.t a/\Br (ByteArray.toList
 a==ByteArray.toList b) (∃ a,(I.cell 2)=D.t a/\Br (ByteArray.toList a==ByteArray.toList b0) (∃ a:Int,(I.cell 3)=D.j a/\Br (a ==
 0) (kB 152 [.dg 2 (D.sub I 4 2),.dg 2 (D.ag [D.j 0,D.sl none 2 [] 0])] c (λa b=>Br a (kB 152 [.dg 2 (D.sub I 6 2),.dg 2 (D.ag [D.j 0,D.sl
 none 2 [] 0])] b (λa b=>uP b (Q a))) (uP b (Q false)))) (uP c (Q false))) (uP c (Q false))) (uP c (Q false))) (uP c (Q false)))) (Br
 (c==2) (∃ b:Int,(I.cell 3)=D.j b/\kB 151 [.dg 9 I] a (λa c=>Br a (∃ a,(I.cell 1)=D.t a/\Br (ByteArray.toList a ==
 ByteArray.toList b0) (∃ a,(I.cell 2)=D.t a/\Br (ByteArray.toList a==ByteArray.toList b0) (∃ a:Int,(I.cell 3)=D.j a/\Br (a==b) (kB
 152 [.dg 2 (D.sub I 4 2),.dg 2 (D.ag [D.j 0,D.sl none 2 [] 0])] c (λa b=>Br a (kB 152 [.dg 2 (D.sub I 6 2),.dg 2 (D.ag [D.j 0,D.sl none 2 []
 0])] b (λa b=>uP b (Q a))) (uP b (Q false)))) (uP c (Q false))) (uP c (Q false))) (uP c (Q false))) (uP c (Q false)))) (Br (c==3)
 (∃ b:Int,(I.cell 3)=D.j b/\kB 151 [.dg 9 I] a (λa c=>Br a (∃ a,(I.cell 1)=D.t a/\Br (ByteArray.toList a==ByteArray.toList
 b0) (∃ a,(I.cell 2)=D.t a/\Br (ByteArray.toList a==ByteArray.toList b0) (∃ a:Int,(I.cell 3)=D.j a/\Br (a==b) (kB 152 [.dg 2 (D.sub
 I 4 2),.dg 2 (D.ag [D.j 0,D.sl none 2 [] 0])] c (λa b=>Br a (kB 152 [.dg 2 (D.sub I 6 2),.dg 2 (D.ag [D.j 0,D.sl none 2 [] 0])] b (fun
 a b=>uP b (Q a))) (uP b (Q false)))) (uP c (Q false))) (uP c (Q false))) (uP c (Q false))) (uP c (Q false)))) (Br (c==4) (∃ b,
 (I.cell 1)=D.t b/\kB 151 [.dg 9 I] a (λa c=>Br a (∃ a,(I.cell 1)=D.t a/\Br (ByteArray.toList a==ByteArray.toList b) (∃
 a,(I.cell 2)=D.t a/\Br (ByteArray.toList a==ByteArray.toList b0) (∃ a:Int,(I.cell 3)=D.j a/\Br (a==0) (kB 152 [.dg 2 (D.sub I 4
 2),.dg 2 (D.ag [D.j 0,D.sl none 2 [] 0])] c (λa b=>Br a (kB 152 [.dg 2 (D.sub I 6 2),.dg 2 (D.ag [D.j 0,D.sl none 2 [] 0])] b (λa
 b=>uP b (Q a))) (uP b (Q false)))) (uP c (Q false))) (uP c (Q false))) (uP c (Q false))) (uP c (Q false)))) (Br (c==6) (∃ b,(I.cell
 1)=D.t b/\kB 151 [.dg 9 I] a (λa c=>Br a (∃ a,(I.cell 1)=D.t a/\Br (ByteArray.toList a==ByteArray.toList b) (∃ a,
 (I.cell 2)=D.t a/\Br (ByteArray.toList a==ByteArray.toList b0) (∃ a:Int,(I.cell 3)=D.j a/\Br (a==0) (kB 152 [.dg 2 (D.sub I 4 2),
 .dg 2 (D.ag [D.cell (D.sub I 4 2) 0,D.cell (D.sub I 4 2) 1])] c (λa b=>Br a (kB 152 [.dg 2 (D.sub I 6 2),.dg 2 (D.ag [D.j 0,D.sl none 2 []
 0])] b (λa b=>uP b (Q a))) (uP b (Q false)))) (uP c (Q false))) (uP c (Q false))) (uP c (Q false))) (uP c (Q false)))) (Br (c==9)
 (∃ b,(I.cell 1)=D.t b/\∃ c,(I.cell 2)=D.t c/\kB 151 [.dg 9 I] a (λa d=>Br a (∃ a,(I.cell 1)=D.t a/\Br
 (ByteArray.toList a==ByteArray.toList b) (∃ a,(I.cell 2)=D.t a/\Br (ByteArray.toList a==ByteArray.toList c) (∃ a:Int,(I.cell
 3)=D.j a/\Br (a==0) (kB 152 [.dg 2 (D.sub I 4 2),.dg 2 (D.ag [D.cell (D.sub I 4 2) 0,D.cell (D.sub I 4 2) 1])] d (λa b=>Br a (kB
 152 [.dg 2 (D.sub I 6 2),.dg 2 (D.ag [D.cell (D.sub I 6 2) 0,D.cell (D.sub I 6 2) 1])] b (λa b=>uP b (Q a))) (uP b (Q false)))) (uP d
 (Q false))) (uP d (Q false))) (uP d (Q false))) (uP d (Q false)))) (kB 151 [.dg 9 I] a (λa b=>Br a (∃ a,(I.cell 1)=D.t a/\Br
 (ByteArray.toList a==ByteArray.toList b0) (∃ a,(I.cell 2)=D.t a/\Br (ByteArray.toList a==ByteArray.toList b0) (∃ a:Int,(I.cell 3) =
 D.j a/\Br (a==0) (kB 152 [.dg 2 (D.sub I 4 2),.dg 2 (D.ag [D.j 0,D.sl none 2 [] 0])] b (λa b=>Br a (kB 152 [.dg 2 (D.sub I 6 2),.dg
 2 (D.ag [D.j 0,D.sl none 2 [] 0])] b (λa b=>uP b (Q a))) (uP b (Q false)))) (uP b (Q false))) (uP b (Q false))) (uP b (Q false))) (uP
 b (Q false))))))))))))):ACalls prog 127 [.bool] [PV.dg 9 I] N Q:=
  eE zIg h
theorem zIQ (N:Nat) (I:D) (Q:QT [.bool]) (h :
Bel N I->kB 36 [.dg 9 I,.fn 127 []] N (λb a=>uP a (Q b))):ACalls prog 83 [.bool] [PV.dg 9 I] N Q:=
 eE zHP h
theorem zB9 (N:Nat) (I:D) (J:Int) (Q:QT [.bool]) (h :
Bel N I->kB 38 [.j J,.j 0,.j 2] N (λb a=>uP a (Q b))):ACalls prog 132 [.bool] [PV.dg 9 I,PV.int .i64 J] N Q:=
 eE H0 h
theorem zDF (N:Nat) (x0:D) (n1:Int) (Q:QT [.int .i64]) (h :
Bel N x0->∃ n:Int,(x0.cell 0)=D.j n/\Br (n==10) (uP N (Q (IntKind.i64.wrap (n1+1)))) (Br (n==11) (uP N (Q (IntKind.i64.wrap (n1 - 1)))) (uP N
 (Q n1)))):ACalls prog 158 [.int .i64] [PV.dg 9 x0,PV.int .i64 n1] N Q:=
  eE H0 h
theorem zE8 (N:Nat) (I:D) (J:Int) (Q:QT [.bool]) (h :
Bel N I->kB 83 [.dg 9 I] N (λb a=>Br b (kB 131 [.dg 9 I,.j J,.fn 132 []] a (λa b=>uP b (Q a))) (uP a (Q false)))):ACalls prog 87 [.bool] [PV.dg 9 I,PV.int .i64 J] N Q:=
 eE zEr h
theorem zDv (N:Nat) (I:Option Addr) (e0:List D) (J:Nat) (O:ByteArray) (Q:QT [.int .i64]) (h :
Bel N (D.sl I 4 e0 J)->xt Q N I e0 J O (IntKind.i64.wrap ((e0.length:Int) - 1)) N):ACalls prog 160 [.int .i64] [PV.sv I 4 e0 J,PV.str O] N Q:=
 eE qL h
theorem zEn (N:Nat) (I:D) (Q:QT [.ag 2]) (h :
Bel N I->∃ n:Int,(I.cell 0)=D.j n/\∃ a b,∃ c:Nat,(I.cell 1)=D.sl a 2 b c/\vQ Q N a b c (b.length:Int) 0 0 none [] 0 n
 none [] 0 N):ACalls prog 53 [.ag 2] [PV.dg 2 I] N Q:=
  eE uV h
theorem zI2 (N:Nat)  (Q:QT [.ag 2]) (h :
uP N (Q (D.ag [D.j 1,D.sl none 2 [] 0]))):ACalls prog 161 [.ag 2] [] N Q:=
 eE H0 h
theorem zHF (N:Nat)  (Q:QT [.ag 2]) (h :
uP N (Q (D.ag [D.j 2,D.sl none 2 [] 0]))):ACalls prog 162 [.ag 2] [] N Q:=
 eE H0 h
theorem zHL (N:Nat) (I:ByteArray) (a1:Option Addr) (e1:List D) (c1:Nat) (Q:QT [.ag 2]) (h :
Bel N (D.sl a1 2 e1 c1)->kA 2 161 [] N (λx a=>kA 2 161 [] a (λa b=>Br (ByteArray.toList I==ByteArray.toList (bytes [61])) (kA 2 162 []
 b (λa b=>zQ Q N a1 e1 c1 (e1.length:Int) 0 0 none [] 0 x a b)) (Br (ByteArray.toList I==ByteArray.toList (bytes [60])) (kA 2 162
 [] b (λa b=>zQ Q N a1 e1 c1 (e1.length:Int) 0 0 none [] 0 x a b)) (Br (ByteArray.toList I==ByteArray.toList (bytes [38])) (kA 2
 162 [] b (λa b=>kA 2 162 [] b (λb c=>zQ Q N a1 e1 c1 (e1.length:Int) 0 0 none [] 0 a b c))) (Br (ByteArray.toList I
 == ByteArray.toList (bytes [124])) (kA 2 162 [] b (λa b=>kA 2 162 [] b (λb c=>zQ Q N a1 e1 c1 (e1.length:Int) 0 0 none [] 0
 a b c))) (Br (ByteArray.toList I==ByteArray.toList (bytes [33])) (kA 2 162 [] b (λa b=>kA 2 162 [] b (λb c=>zQ Q N
 a1 e1 c1 (e1.length:Int) 0 0 none [] 0 a b c))) (zQ Q N a1 e1 c1 (e1.length:Int) 0 0 none [] 0 x a b)))))))):ACalls prog 163 [.ag 2] [PV.str I,PV.sv a1 2 e1 c1] N Q:=
  eE zAa h
theorem rx (N:Nat) (I:Option Addr) (e0:List D) (J:Nat) (Q:QT [.row 77 4]) (h :
Bel N (D.sl I 4 e0 J)->Br (Option.isNone I) (uP N (Q [] 0)) ((0=0/\0=0)/\zA [] e0 56/\∀ (c:Nat),(([]++e0).length=([]++e0).length /\
 c=c)/\uP N (Q ([]++e0) c))):ACalls prog 179 [.row 77 4] [PV.sv I 4 e0 J] N Q:=
  eE H0 h
theorem zKh (N:Nat) (I:Option Addr) (e0:List D) (J:Nat) (a1:Option Addr) (e1:List D) (c1:Nat) (Q:QT [.sl 4]) (h :
Bel N (D.sl I 4 e0 J)->Bel N (D.sl a1 4 e1 c1)->∀ b,N<=b->ACalls prog 179 [.row 77 4] [.sv I 4 e0 J] b (λc d e=>b<=e->Bel e (D.ag
 c)->(c.length=c.length/\d=d)/\zA c e1 56/\∀ (b:Nat),w2 ((c++e1).length=(c++e1).length/\b=b) (∀ a d,e<=d->Fresh N d a
 [D.ag (c++e1)]->uP d (Q a (c++e1) b)))):ACalls prog 164 [.sl 4] [PV.sv I 4 e0 J,PV.sv a1 4 e1 c1] N Q:=
  eE H0 h
theorem zIv (N:Nat) (I J:D) (Q:QT [.ag 2]) (h :
Bel N I->Bel N J->kA 2 53 [.dg 2 I] N (λx b=>kA 2 53 [.dg 2 J] b (λb c=>w3 (2=([x,b]).length/\2=2) (∀ a d,c<=d->Fresh N
 d a [D.ag [x,b]]->uP d (Q (D.ag [D.j 3,D.sl a 2 [x,b] 2])))))):ACalls prog 165 [.ag 2] [PV.dg 2 I,PV.dg 2 J] N Q:=
  eE zJs h
theorem zIA (N:Nat) (I:D) (Q:QT [.ag 2]) (h :
Bel N I->kA 2 53 [.dg 2 I] N (λx b=>w3 (1=([x]).length/\1=1) (∀ a c,b<=c->Fresh N c a [D.ag [x]]->uP c (Q (D.ag [D.j 4,D.sl a 2 [x]
 1]))))):ACalls prog 180 [.ag 2] [PV.dg 2 I] N Q:=
  eE zG8 h
theorem zHx (N:Nat) (I:D) (Q:QT [.ag 2]) (h :
Bel N I->∃ n:Int,(I.cell 0)=D.j n/\Br (bne n 4) (uP N (Q (D.ag [D.j 0,D.sl none 2 [] 0]))) (∃ a b,∃ c:Nat,(I.cell 1)=D.sl a 2 b c/\((0
 : Int)<=(0:Int)/\0<(b.length:Int))/\kA 2 53 [.dg 2 (List.getD b 0 default)] N (λx a=>uP a (Q x)))):ACalls prog 181 [.ag 2] [PV.dg 2 I] N Q:=
  eE zH6 h
theorem zIJ (N:Nat) (x0:D) (Q:QT [.bool]) (h :
Bel N x0->∃ n:Int,(x0.cell 0)=D.j n/\kB 38 [.j n,.j 1,.j 2] N (fun b d=>Br b (∃ a b,∃ c:Nat,(x0.cell 1)=D.sl a 2 b c/\uP d (Q
 ((b.length:Int)==0))) (uP d (Q false)))):ACalls prog 57 [.bool] [PV.dg 2 x0] N Q:=
  eE H0 h
theorem zGC (N:Nat) (I:Option Addr) (e0:List D) (J:Nat) (O:Int) (Q:QT [.sl 4]) (h :
Bel N (D.sl I 4 e0 J)->yJ Q N I e0 J O 0 0 I e0 J (e0.length:Int) 0 [] 0 N):ACalls prog 182 [.sl 4] [PV.sv I 4 e0 J,PV.int .i64 O] N Q:=
 eE pQ h
theorem zDI (N:Nat) (J:Option Addr) (e0:List D) (O:Nat) (I:D) (U:Int) (Q:QT [.ag 2]) (h :
Bel N (D.sl J 4 e0 O)->Bel N I->∃ n:Int,(I.cell 0)=D.j n/\Br (n==10) (∃ a b,∃ c:Nat,(I.cell 8)=D.sl a 9 b c/\((0:Int)<=(0:Int)
 /\ 0<(b.length:Int))/\kA 2 88 [.sv J 4 e0 O,.dg 9 (List.getD b 0 default),.j (IntKind.i64.wrap (U+1))] N (λx a=>∃ b:Int,(x.cell 0)=D.j
 b/\Br (bne b 0) (kA 2 180 [.dg 2 x] a (λa b=>uP b (Q a))) (uP a (Q (D.ag [D.j 0,D.sl none 2 [] 0]))))) (Br (n==11) (∃ a b,∃ c :
 Nat,(I.cell 8)=D.sl a 9 b c/\((0:Int)<=(0:Int)/\0<(b.length:Int))/\kA 2 88 [.sv J 4 e0 O,.dg 9 (List.getD b 0 default),.j
 (IntKind.i64.wrap (U - 1))] N (λa b=>kA 2 181 [.dg 2 a] b (λa b=>uP b (Q a)))) (Br (n==12) (∃ a b,∃ c:Nat,(I.cell 8) =
 D.sl a 9 b c/\((0:Int)<=(0:Int)/\0<(b.length:Int))/\kL 4 182 [.sv J 4 e0 O,.j U] N (λa c d e=>kA 2 88 [.sv a 4 c
 d,.dg 9 (List.getD b 0 default),.j U] e (λa b=>kA 2 181 [.dg 2 a] b (λa b=>uP b (Q a))))) (Br (n==13) (∃ a c,∃ d :
 Nat,(I.cell 8)=D.sl a 9 c d/\((0:Int)<=(0:Int)/\0<(c.length:Int))/\kA 2 88 [.sv J 4 e0 O,.dg 9 (List.getD c 0 default),.j U] N
 (λa c=>kB 57 [.dg 2 a] c (λb c=>Br b (kA 2 180 [.dg 2 a] c (λa b=>uP b (Q a))) (uP c (Q (D.ag [D.j 0,D.sl none 2 []
 0])))))) (uP N (Q (D.ag [D.j 0,D.sl none 2 [] 0]))))))):ACalls prog 166 [.ag 2] [PV.sv J 4 e0 O,PV.dg 9 I,PV.int .i64 U] N Q:=
  eE zC2 h
theorem zT (N:Nat) (a0:Option Addr) (e0:List D) (c0:Nat) (x1:D) (n2:Int) (Q:QT [.ag 2]) (h :
Bel N (D.sl a0 4 e0 c0)->Bel N x1->∃ n:Int,(x1.cell 0)=D.j n/\Br (n==1) (∃ s,(x1.cell 1)=D.t s/\kI 160 [.sv a0 4 e0 c0,.str s] N (fun a b
 => Br (decide (a≥0)) ((0<=a/\a<(e0.length:Int))/\∃ c:Int,(if 0=0 then D.cell (List.getD e0 a.toNat default) 3 else D.sub (List.getD e0
 a.toNat default) 3 0)=D.j c/\Br (c==n2) ((0<=a/\a<(e0.length:Int))/\kA 2 53 [.dg 2 (if 2=0 then D.cell (List.getD e0 a.toNat default)
 1 else D.sub (List.getD e0 a.toNat default) 1 2)] b (fun x a=>uP a (Q x))) (uP b (Q (D.ag [D.j 0,D.sl none 2 [] 0])))) (uP b (Q (D.ag [D.j 0,D.sl
 none 2 [] 0]))))) (Br (n==2) (kA 2 161 [] N (fun a b=>uP b (Q a))) (Br (n==3) (kA 2 162 [] N (fun a b=>uP b (Q a))) (Br (n==4) (∃ a b,
 ∃ c:Nat,(x1.cell 8)=D.sl a 9 b c/\ye Q N 0 0 (b.length:Int) 0 x1 0 none [] 0 a0 e0 c0 n2 [] 0 N) (Br (n==5) (∀ a,ApA (Option.some
 a) [D.sl a0 4 e0 c0]->∀ c,ApA (Option.some c) [x1]->∀ d,ApA (Option.some d) [D.j n2]->∀ e,N<=e->vI e [Option.some a,Option.some
 c,Option.some d]->ACalls prog 159 [.ag 2] [.j 1,.pd a 0 (D.sl a0 4 e0 c0),.pd c 9 x1,.pd d 0 (D.j n2)] e (fun f g=>e<=g->Off
 [Option.some a,Option.some c,Option.some d] f/\(Bel g f->∀ a,ApA (Option.some a) [D.sl a0 4 e0 c0]->∀ c,ApA (Option.some c) [x1]
 -> ∀ d,ApA (Option.some d) [D.j n2]->∀ e,g<=e->vI e [Option.some a,Option.some c,Option.some d]->ACalls prog 159 [.ag 2] [.j 2,
 .pd a 0 (D.sl a0 4 e0 c0),.pd c 9 x1,.pd d 0 (D.j n2)] e (fun g h=>e<=h->Off [Option.some a,Option.some c,Option.some d] g
 /\ (Bel h g->∀ a,ApA (Option.some a) [D.sl a0 4 e0 c0]->∀ c,ApA (Option.some c) [x1]->∀ d,ApA (Option.some d) [D.j n2]->∀ e,h <=
 e->vI e [Option.some a,Option.some c,Option.some d]->ACalls prog 159 [.ag 2] [.j 0,.pd a 0 (D.sl a0 4 e0 c0),.pd c 9 x1,.pd d 0
 (D.j n2)] e (fun h i=>e<=i->Off [Option.some a,Option.some c,Option.some d] h/\(Bel i h->kA 2 162 [] i (fun a c=>kB 152
 [.dg 2 h,.dg 2 a] c (fun b a=>Br b (kB 152 [.dg 2 f,.dg 2 g] a (fun a b=>Br a (uP b (Q f)) (uP b (Q (D.ag [D.j 0,D.sl none 2 []
 0]))))) (uP a (Q (D.ag [D.j 0,D.sl none 2 [] 0])))))))))))) (Br (n==7) (∀ a,ApA (Option.some a) [D.sl a0 4 e0 c0]->∀ b,ApA (Option.some b)
 [x1]->∀ c,ApA (Option.some c) [D.j n2]->∀ d,N<=d->vI d [Option.some a,Option.some b,Option.some c]->ACalls prog 159 [.ag 2]
 [.j 0,.pd a 0 (D.sl a0 4 e0 c0),.pd b 9 x1,.pd c 0 (D.j n2)] d (fun e f=>d<=f->Off [Option.some a,Option.some b,Option.some
 c] e/\(Bel f e->∀ a,ApA (Option.some a) [D.sl a0 4 e0 c0]->∀ b,ApA (Option.some b) [x1]->∀ c,ApA (Option.some c) [D.j
 n2]->∀ d,f<=d->vI d [Option.some a,Option.some b,Option.some c]->ACalls prog 159 [.ag 2] [.j 1,.pd a 0 (D.sl a0 4 e0 c0),.pd
 b 9 x1,.pd c 0 (D.j n2)] d (fun f g=>d<=g->Off [Option.some a,Option.some b,Option.some c] f/\(Bel g f->∃ a :
 Int,(e.cell 0)=D.j a/\Br (a==3) (∃ a b,∃ c:Nat,(e.cell 1)=D.sl a 2 b c/\((0:Int)<=(0:Int)/\0<(b.length:Int)) /\
 kB 152 [.dg 2 (List.getD b 0 default),.dg 2 f] g (fun a b=>Br a (∃ a c,∃ d:Nat,(e.cell 1)=D.sl a 2 c d/\((0:Int)<=(1 :
 Int)/\1<(c.length:Int))/\kA 2 53 [.dg 2 (List.getD c 1 default)] b (fun a b=>uP b (Q a))) (uP b (Q (D.ag [D.j 0,D.sl none 2 []
 0]))))) (uP g (Q (D.ag [D.j 0,D.sl none 2 [] 0])))))))) (Br (n==6) (∃ a,(x1.cell 1)=D.t a/\∃ b c,∃ d:Nat,(x1.cell 8)=D.sl b 9 c
 d/\((0:Int)<=(0:Int)/\0<(c.length:Int))/\(1=([D.ag [D.t a,D.cell (D.sub x1 4 2) 0,D.cell (D.sub x1 4 2) 1,D.j n2]]).length/\1=1)/\∀
 b,ApA b [D.ag [D.t a,D.cell (D.sub x1 4 2) 0,D.cell (D.sub x1 4 2) 1,D.j n2]]->Off [b] (D.sl a0 4 e0 c0)->∀ d,N<=d->vI d [b]->ACalls
 prog 164 [.sl 4] [.sv a0 4 e0 c0,.sv b 4 [D.ag [D.t a,D.cell (D.sub x1 4 2) 0,D.cell (D.sub x1 4 2) 1,D.j n2]] 1] d (fun a e f g=>d<=g
 -> Off [b] (D.sl a 4 e f)/\(Bel g (D.sl a 4 e f)->kA 2 88 [.sv a 4 e f,.dg 9 (List.getD c 0 default),.j n2] g (fun a b=>
 ∃ c:Int,(a.cell 0)=D.j c/\Br (c==0) (uP b (Q (D.ag [D.j 0,D.sl none 2 [] 0]))) (kA 2 165 [.dg 2 (D.sub x1 4 2),.dg 2 a] b (fun a
 b=>uP b (Q a))))))) (Br (n==8) (∀ a,ApA (Option.some a) [D.sl a0 4 e0 c0]->∀ b,ApA (Option.some b) [x1]->∀ c,ApA
 (Option.some c) [D.j n2]->∀ d,N<=d->vI d [Option.some a,Option.some b,Option.some c]->ACalls prog 159 [.ag 2] [.j 0,.pd a 0
 (D.sl a0 4 e0 c0),.pd b 9 x1,.pd c 0 (D.j n2)] d (fun e f=>d<=f->Off [Option.some a,Option.some b,Option.some c] e /\
 (Bel f e->∃ a:Int,(e.cell 0)=D.j a/\Br (a==0) (uP f (Q (D.ag [D.j 0,D.sl none 2 [] 0]))) (∃ a,(x1.cell 1)=D.t a/\∃ b c,∃
 d:Nat,(x1.cell 8)=D.sl b 9 c d/\((0:Int)<=(1:Int)/\1<(c.length:Int))/\(1=([D.ag [D.t a,(e.cell 0),(e.cell 1),D.j
 n2]]).length/\1=1)/\∀ b,ApA b [D.ag [D.t a,(e.cell 0),(e.cell 1),D.j n2]]->Off [b] (D.sl a0 4 e0 c0)->∀ d,f<=d->vI d [b]
 -> ACalls prog 164 [.sl 4] [.sv a0 4 e0 c0,.sv b 4 [D.ag [D.t a,(e.cell 0),(e.cell 1),D.j n2]] 1] d (fun a e f g=>d<=g->Off
 [b] (D.sl a 4 e f)/\(Bel g (D.sl a 4 e f)->kA 2 88 [.sv a 4 e f,.dg 9 (List.getD c 1 default),.j n2] g (fun a b=>uP b
 (Q a)))))))) (Br (n==9) (kA 2 165 [.dg 2 (D.sub x1 4 2),.dg 2 (D.sub x1 6 2)] N (fun a b=>∃ c,(x1.cell 1)=D.t c/\∃ d,(x1.cell 2)=D.t
 d/\∃ e f,∃ g:Nat,(x1.cell 8)=D.sl e 9 f g/\((0:Int)<=(0:Int)/\0<(f.length:Int))/\(2=([D.ag [D.t c,(a.cell 0),
 (a.cell 1),D.j n2],D.ag [D.t d,D.cell (D.sub x1 4 2) 0,D.cell (D.sub x1 4 2) 1,D.j n2]]).length/\2=2)/\∀ e,ApA e [D.ag [D.t c,(a.cell
 0),(a.cell 1),D.j n2],D.ag [D.t d,D.cell (D.sub x1 4 2) 0,D.cell (D.sub x1 4 2) 1,D.j n2]]->Off [e] (D.sl a0 4 e0 c0)->∀ g,b<=g->vI
 g [e]->ACalls prog 164 [.sl 4] [.sv a0 4 e0 c0,.sv e 4 [D.ag [D.t c,(a.cell 0),(a.cell 1),D.j n2],D.ag [D.t d,D.cell (D.sub x1 4 2) 0,
 D.cell (D.sub x1 4 2) 1,D.j n2]] 2] g (fun b c d h=>g<=h->Off [e] (D.sl b 4 c d)/\(Bel h (D.sl b 4 c d)->kA 2 88
 [.sv b 4 c d,.dg 9 (List.getD f 0 default),.j n2] h (fun b c=>kB 152 [.dg 2 b,.dg 2 (D.sub x1 6 2)] c (fun b c=>Br b (uP c
 (Q a)) (uP c (Q (D.ag [D.j 0,D.sl none 2 [] 0]))))))))) (kA 2 166 [.sv a0 4 e0 c0,.dg 9 x1,.j n2] N (fun a b=>uP b (Q a)))))))))))):ACalls prog 133 [.ag 2] [PV.sv a0 4 e0 c0,PV.dg 9 x1,PV.int .i64 n2] N Q:=
  eE rW h
theorem zI7 (N:Nat) (I:Option Addr) (e0:List D) (J:Nat) (O:D) (U:Int) (Q:QT [.ag 2]) (h :
Bel N (D.sl I 4 e0 J)->Bel N O->kA 2 133 [.sv I 4 e0 J,.dg 9 O,.j U] N (λx a=>kB 130 [.dg 2 x] a (λb a=>Br (!b) (uP a (Q (D.ag
 [D.j 0,D.sl none 2 [] 0]))) (uP a (Q x))))):ACalls prog 88 [.ag 2] [PV.sv I 4 e0 J,PV.dg 9 O,PV.int .i64 U] N Q:=
  eE zJq h
theorem zHN (N:Nat) (I:Option Addr) (e0:List D) (J:Nat) (O:D) (U:Int) (Q:QT [.ag 2,.bool]) (h :
Bel N (D.sl I 4 e0 J)->Bel N O->kB 86 [.sv I 4 e0 J] N (λb a=>Br (!b) (uP a (Q (D.ag [D.j 0,D.sl none 2 [] 0]) false)) (kB 87 [.dg 9 O,.j
 U] a (λa b=>Br (!a) (uP b (Q (D.ag [D.j 0,D.sl none 2 [] 0]) false)) (kA 2 88 [.sv I 4 e0 J,.dg 9 O,.j U] b (λx a=>∃ n:Int,(x.cell
 0)=D.j n/\uP a (Q x (bne n 0)))))))):ACalls prog 40 [.ag 2,.bool] [PV.sv I 4 e0 J,PV.dg 9 O,PV.int .i64 U] N Q:=
  eE zIW h
theorem ve (Q:QT [.int .i64]) (N0:Nat) (U:Option Addr) (e0:List D) (Y:Nat) (J:ByteArray) (O I:Int) (N:Nat) (h :
Br (decide (I<O)) ((0<=I/\I<(e0.length:Int))/\∃ s,List.getD e0 I.toNat default=D.t s/\Br (ByteArray.toList J==ByteArray.toList s) (uP
 N (Q I)) (yg Q N0 U e0 Y J O (IntKind.i64.wrap (I+1)) N)) (uP N (Q (-1)))):yg Q N0 U e0 Y J O I N:=
  hE uW h
theorem r5 (Q:QT [.bool]) (N0:Nat) (J:ByteArray) (O I:Int) (N:Nat) (h :
Br (decide (I<O)) ((0<=I/\I<(J.size:Int))/\Br (decide ((UInt8.toNat (Array.getD (ByteArray.data J) I.toNat (OfNat.ofNat 0)):Int)≥97))
 ((0<=I/\I<(J.size:Int))/\Br (!(decide ((UInt8.toNat (Array.getD (ByteArray.data J) I.toNat (OfNat.ofNat 0)):Int)<=122))) (Br (I==0) (uP N (Q
 false)) ((0<=I/\I<(J.size:Int))/\Br (decide ((UInt8.toNat (Array.getD (ByteArray.data J) I.toNat (OfNat.ofNat 0)):Int)<48)) (uP N (Q false)) ((0
 <= I/\I<(J.size:Int))/\Br (decide ((UInt8.toNat (Array.getD (ByteArray.data J) I.toNat (OfNat.ofNat 0)):Int)>57)) (uP N (Q false))
 (xB Q N0 J O (IntKind.i64.wrap (I+1)) N)))) (xB Q N0 J O (IntKind.i64.wrap (I+1)) N)) (Br (I==0) (uP N (Q false)) ((0 <=
 I/\I<(J.size:Int))/\Br (decide ((UInt8.toNat (Array.getD (ByteArray.data J) I.toNat (OfNat.ofNat 0)):Int)<48)) (uP N (Q false)) ((0<=I/\I <
 (J.size:Int))/\Br (decide ((UInt8.toNat (Array.getD (ByteArray.data J) I.toNat (OfNat.ofNat 0)):Int)>57)) (uP N (Q false)) (xB Q N0 J O
 (IntKind.i64.wrap (I+1)) N))))) (kB 38 [.j (J.size:Int),.j 1,.j 4] N (λb c=>Br b ((5=5/\5=5)/\∀ a,ApA a [D.t (bytes [105,102]),D.t (bytes
 [108,101,116]),D.t (bytes [108,105,102,116]),D.t (bytes [114,101,99]),D.t (bytes [114,117,110])]->∀ b,c<=b->vI b [a]->ACalls prog 98
 [.bool] [.sv a 0 [D.t (bytes [105,102]),D.t (bytes [108,101,116]),D.t (bytes [108,105,102,116]),D.t (bytes [114,101,99]),D.t (bytes [114,117,
 110])] 5,.str J] b (λa c=>b<=c->uP c (Q (!a)))) (uP c (Q false))))):xB Q N0 J O I N:=
  hE zBS h
theorem ud (Q:QT [.int .i64]) (N0:Nat) (n3:Int) (a7:Option Addr) (e7:List D) (c7:Nat) (n8 n9:Int) (N:Nat) (h :
Br (decide (n9<n8)) ((0<=n9/\n9<(e7.length:Int))/\kI 154 [.dg 2 (List.getD e7 n9.toNat default)] N (fun n a=>xE Q N0
 (IntKind.i64.wrap (n3+n)) a7 e7 c7 n8 (IntKind.i64.wrap (n9+1)) a)) (uP N (Q n3))):xE Q N0 n3 a7 e7 c7 n8 n9 N:=
  hE tn h
theorem uC (Q:QT [.int .i64]) (N0:Nat) (J:Int) (Y:Option Addr) (O:List D) (c7:Nat) (U I:Int) (N:Nat) (h :
Br (decide (I<U)) ((0<=I/\I<(O.length:Int))/\kI 155 [.dg 2 (List.getD O I.toNat default)] N (λn a=>yr Q N0 (if n >
 J then n else J) Y O c7 U (IntKind.i64.wrap (I+1)) a)) (uP N (Q (IntKind.i64.wrap (J+1)))) ):yr Q N0 J Y O c7 U I N:=
  hE tX h
theorem zAq (N:Nat) (x0:D) (Q:QT [.bool]) (h :
Bel N x0->kB 157 [.dg 2 x0] N (fun b d=>Br b (∃ a b,∃ c:Nat,(x0.cell 1)=D.sl a 2 b c/\∀ e,ApA (Option.some e) [D.fn (OfNat.ofNat 157) []] ->
 Off [Option.some e] (D.sl a 2 b c)->∀ f,d<=f->vI f [Option.some e]->ACalls prog 177 [.bool] [.sv a 2 b c,.fn 178 [.pd e 0 (.fn 157 [])]] f
 (fun a b=>f<=b->uP b (Q (!a)))) (uP d (Q false)))):ACalls prog 156 [.bool] [.dg 2 x0,.fn 157 []] N Q:=
  eE zDj h
theorem vT (N:Nat) (I:Option Addr) (e0:List D) (J:Nat) (Q:QT [.bool]) (h :
Bel N (D.sl I 4 e0 J)->kI 153 [.sv I 4 e0 J,.fn 129 []] N (λn a=>uP a (Q (decide (n≥0))))):ACalls prog 128 [.bool] [.sv I 4 e0 J,.fn 129 []] N Q:=
 eE H0 h
theorem u5 (N:Nat) (I:Option Addr) (e0:List D) (J:Nat) (a1:Option Addr) (e1:List D) (c1:Nat) (Q:QT [.bool]) (h :
Bel N (D.sl I 2 e0 J)->Bel N (D.sl a1 2 e1 c1)->Br (bne (e0.length:Int) (e1.length:Int)) (uP N (Q false)) (zS Q N a1 e1 c1
 I e0 J (e0.length:Int) 0 N)):ACalls prog 176 [.bool] [.sv I 2 e0 J,.sv a1 2 e1 c1,.fn 152 []] N Q:=
  eE w9 h
theorem zAk (N:Nat) (I:D) (Q:QT [.bool]) (h :
Bel N I->kB 127 [.dg 9 I] N (λb d=>Br b (∃ a b,∃ c:Nat,(I.cell 8)=D.sl a 9 b c/\∀ e,ApA (Option.some e) [D.fn (OfNat.ofNat 127) []] ->
 Off [Option.some e] (D.sl a 9 b c)->∀ f,d<=f->vI f [Option.some e]->ACalls prog 81 [.bool] [.sv a 9 b c,.fn 82 [.pd e 0 (.fn 127 [])]] f (fun
 a b=>f<=b->uP b (Q (!a)))) (uP d (Q false)))):ACalls prog 36 [.bool] [.dg 9 I,.fn 127 []] N Q:=
  eE zDw h
theorem zDG (N:Nat) (I:D) (J:Int) (Q:QT [.bool]) (h :
Bel N I->kB 132 [.dg 9 I,.j J] N (λb d=>Br (!b) (uP d (Q false)) (∃ a b,∃ c:Nat,(I.cell 8)=D.sl a 9 b c/\wx Q N J a b
 c (b.length:Int) 0 I d))):ACalls prog 131 [.bool] [.dg 9 I,.int .i64 J,.fn 132 []] N Q:=
  eE zBf h
theorem t3 (Q:QT [.int .i64]) (N0:Nat) (a0:Option Addr) (e0:List D) (c0:Nat) (s1:ByteArray) (n5:Int) (N:Nat) (h :
Br (decide (n5≥0)) ((0<=n5/\n5<(e0.length:Int))/\∃ s,(if 0=0 then D.cell (List.getD e0 n5.toNat default) 0 else D.sub (List.getD e0 n5.toNat
 default) 0 0)=D.t s/\Br (ByteArray.toList s==ByteArray.toList s1) (uP N (Q n5)) (xt Q N0 a0 e0 c0 s1 (IntKind.i64.wrap (n5 - 1)) N)) (uP N
 (Q (-1)))):xt Q N0 a0 e0 c0 s1 n5 N:=
  hE qL h
theorem sA (Q:QT [.ag 2]) (N0:Nat) (aj:Option Addr) (aa:List D) (ak:Nat) (ai J ab:Int) (ac:Option Addr) (ae:List D) (ah:Nat) (O:Int) (U:Option Addr) (I:List D) (Y:Nat) (N:Nat) (h :
Br (decide (J<ai)) ((0<=J/\J<(aa.length:Int))/\kA 2 53 [.dg 2 (List.getD aa J.toNat default)] N (λx a=>zTL U I Y [x] /\
 zA I [x] 32/\∀ (c:Nat),yn Q N0 aj aa ak ai (IntKind.i64.wrap (J+1)) ab ac ae ah O (I++[x]).length c (I
 ++ [x]) c a)) (uP N (Q (D.ag [D.j O,D.sl U 2 I Y])))):vQ Q N0 aj aa ak ai J ab ac ae ah O U I Y N:=
  hE uV h
theorem rI (Q:QT [.ag 2]) (N0:Nat) (a22:Option Addr) (e22:List D) (c22:Nat) (n23 n24 n0_0:Int) (a0_1:Option Addr) (e0_1:List D) (c0_1:Nat) (y1 y2:D) (N:Nat) (h :
Br (decide (n24<n23)) ((0<=n24/\n24<(e22.length:Int))/\kB 152 [.dg 2 (List.getD e22 n24.toNat default),.dg 2 y1] N (fun b a=>Br (!b) (uP a (Q
 (D.ag [D.j 0,D.sl none 2 [] 0]))) (zQ Q N0 a22 e22 c22 n23 (IntKind.i64.wrap (n24+1)) n0_0 a0_1 e0_1 c0_1 y1 y2 a))) (uP N (Q y2))):zQ Q N0 a22 e22 c22 n23 n24 n0_0 a0_1 e0_1 c0_1 y1 y2 N:=
  hE zAa h
theorem rH (Q:QT [.sl 4]) (N0:Nat) (Y:Option Addr) (e0:List D) (c0:Nat) (n1:Int) (m5 c5:Nat) (a9:Option Addr) (O:List D) (c9:Nat) (J I:Int) (r0:List D) (U:Nat) (N:Nat) (h :
Br (decide (I<J)) ((0<=I/\I<(O.length:Int))/\kB 57 [.dg 2 (D.sub (List.getD O I.toNat default) 1 2)] N (λb a=>Br b (∃ n:Int,
 D.cell (List.getD O I.toNat default) 3=D.j n/\Br (decide (n<=n1)) (∃ s,D.cell (List.getD O I.toNat default) 0=D.t s/\kI 160 [.sv Y 4 e0 c0,.str
 s] a (λa b=>Br (a==I) (∃ a,D.cell (List.getD O I.toNat default) 0=D.t a/\∃ d:Int,D.cell (List.getD O I.toNat default) 3=D.j
 d/\kA 2 53 [.dg 2 (D.sub (List.getD O I.toNat default) 1 2)] b (λx b=>(m5=r0.length/\c5=U)/\zA r0 [D.ag [D.t a,(x.cell 0),(x.cell
 1),D.j d]] 56/\∀ (c:Nat),yJ Q N0 Y e0 c0 n1 (r0++[D.ag [D.t a,(x.cell 0),(x.cell 1),D.j d]]).length c a9 O c9 J
 (IntKind.i64.wrap (I+1)) (r0++[D.ag [D.t a,(x.cell 0),(x.cell 1),D.j d]]) c b)) (yJ Q N0 Y e0 c0 n1 m5 c5 a9 O c9 J
 (IntKind.i64.wrap (I+1)) r0 U b))) (yJ Q N0 Y e0 c0 n1 m5 c5 a9 O c9 J (IntKind.i64.wrap (I+1)) r0 U a)) (yJ Q N0 Y
 e0 c0 n1 m5 c5 a9 O c9 J (IntKind.i64.wrap (I+1)) r0 U a))) (w3 (m5=r0.length/\c5=U) (∀ a b,N<=b->Fresh N0 b a [D.ag r0]->uP b (Q a r0
 U)))):yJ Q N0 Y e0 c0 n1 m5 c5 a9 O c9 J I r0 U N:=
  hE pQ h
theorem tN (Q:QT [.ag 2]) (N0:Nat) (m9 c9:Nat) (ah Y:Int) (y0:D) (aa:Int) (ab:Option Addr) (ac:List D) (ae:Nat) (I:Option Addr) (J:List D) (O:Nat) (U:Int) (r4:List D) (q4:Nat) (N:Nat) (h :
Br (decide (Y<ah)) (∀ a,ApA (Option.some a) [D.sl I 4 J O]->∀ b,ApA (Option.some b) [y0]->∀ d,ApA (Option.some d) [D.j
 U]->∀ e,N<=e->vI e [Option.some a,Option.some b,Option.some d]->ACalls prog 159 [.ag 2] [.j Y,.pd a 0 (D.sl I 4 J O),.pd
 b 9 y0,.pd d 0 (D.j U)] e (λx f=>e<=f->Off [Option.some a,Option.some b,Option.some d] x/\(Bel f x->(m9=r4.length/\c9=q4)
 /\ zA r4 [x] 32/\∀ (c:Nat),ye Q N0 (r4++[x]).length c ah (IntKind.i64.wrap (Y+1)) y0 aa ab ac ae I J O U (r4
 ++ [x]) c f))) (∃ s,(y0.cell 1)=D.t s/\(m9=r4.length/\c9=q4)/\∀ a,ApA a r4->∀ b,N<=b->vI b [a]->ACalls prog 163 [.ag 2] [.str s,.sv a 2
 r4 c9] b (λc d=>b<=d->Off [a] c/\(Bel d c->uP d (Q c))))):ye Q N0 m9 c9 ah Y y0 aa ab ac ae I J O U r4 q4 N:=
  hE rW h
theorem qu (N:Nat) (n0:Int) (a1:Addr) (x1_:D) (a2:Addr) (x2_:D) (a3:Addr) (x3_:D) (Q:QT [.ag 2]) (h :
∃ a b,∃ c:Nat,x1_=D.sl a 4 b c/\∃ d e,∃ f:Nat,(if 0=0 then (x2_.cell 8) else D.sub x2_ 8 0)=D.sl d 9 e f/\(0<=n0/\n0 <
 (e.length:Int))/\∃ n:Int,x3_=D.j n/\kA 2 88 [.sv a 4 b c,.dg 9 (List.getD e n0.toNat default),.j n] N (fun x a=>uP a (Q x))):ACalls prog 159 [.ag 2] [.int .i64 n0,.pd a1 0 x1_,.pd a2 9 x2_,.pd a3 0 x3_] N Q:=
  eE zB0 h
theorem vp (N:Nat) (J:Option Addr) (e0:List D) (O:Nat) (I:Addr) (Q:QT [.bool]) (h :
Bel N (D.sl J 2 e0 O)->kI 186 [.sv J 2 e0 O,.fn 178 [.pd I 0 (.fn 157 [])]] N (λn a=>uP a (Q (decide (n≥0))))):ACalls prog 177 [.bool] [.sv J 2 e0 O,.fn 178 [.pd I 0 (.fn 157 [])]] N Q:=
 eE H0 h
theorem uM (N:Nat) (I:Option Addr) (e0:List D) (J:Nat) (Q:QT [.int .i64]) (h :
Bel N (D.sl I 4 e0 J)->zY Q N I e0 J (e0.length:Int) 0 N):ACalls prog 153 [.int .i64] [.sv I 4 e0 J,.fn 129 []] N Q:=
 eE wG h
theorem wB (Q:QT [.bool]) (N0:Nat) (a1:Option Addr) (e1:List D) (c1:Nat) (U:Option Addr) (J:List D) (Y:Nat) (O I:Int) (N:Nat) (h :
Br (decide (I<O)) ((0<=I/\I<(J.length:Int))/\(0<=I/\I<(e1.length:Int))/\kB 152 [.dg 2 (List.getD J I.toNat default),.dg
 2 (List.getD e1 I.toNat default)] N (λb a=>Br (!b) (uP a (Q false)) (zS Q N0 a1 e1 c1 U J Y O (IntKind.i64.wrap (I +
 1)) a))) (uP N (Q true))):zS Q N0 a1 e1 c1 U J Y O I N:=
  hE w9 h
theorem vm (N:Nat) (J:Option Addr) (e0:List D) (O:Nat) (I:Addr) (Q:QT [.bool]) (h :
Bel N (D.sl J 9 e0 O)->kI 126 [.sv J 9 e0 O,.fn 82 [.pd I 0 (.fn 127 [])]] N (λn a=>uP a (Q (decide (n≥0))))):ACalls prog 81 [.bool] [.sv J 9 e0 O,.fn 82 [.pd I 0 (.fn 127 [])]] N Q:=
 eE H0 h
theorem rk (Q:QT [.bool]) (N0:Nat) (n1:Int) (U:Option Addr) (J:List D) (Y:Nat) (O I:Int) (y0:D) (N:Nat) (h :
Br (decide (I<O)) ((0<=I/\I<(J.length:Int))/\kI 158 [.dg 9 y0,.j n1] N (λn a=>kB 131 [.dg 9 (List.getD J I.toNat default),.j
 n,.fn 132 []] a (λb a=>Br (!b) (uP a (Q false)) (wx Q N0 n1 U J Y O (IntKind.i64.wrap (I+1)) y0 a)))) (uP N (Q true))):wx Q N0 n1 U J Y O I y0 N:=
  hE zBf h
theorem uE (Q:QT [.ag 2]) (N0:Nat) (ai:Option Addr) (Y:List D) (aj:Nat) (ah I aa:Int) (ab:Option Addr) (ac:List D) (ae:Nat) (J:Int) (O U:Nat) (r2:List D) (q2:Nat) (N:Nat) (h :
Br (decide (I<ah)) ((0<=I/\I<(Y.length:Int))/\kA 2 53 [.dg 2 (List.getD Y I.toNat default)] N (λx a=>(O=r2.length/\U =
 q2)/\zA r2 [x] 32/\∀ (c:Nat),yn Q N0 ai Y aj ah (IntKind.i64.wrap (I+1)) aa ab ac ae J (r2++[x]).length c (r2
 ++ [x]) c a)) (w3 (O=r2.length/\U=q2) (∀ a b,N<=b->Fresh N0 b a [D.ag r2]->uP b (Q (D.ag [D.j J,D.sl a 2 r2 q2]))))):yn Q N0 ai Y aj ah I aa ab ac ae J O U r2 q2 N:=
  hE uV h
theorem u6 (N:Nat) (J:Option Addr) (e0:List D) (O:Nat) (I:Addr) (Q:QT [.int .i64]) (h :
Bel N (D.sl J 2 e0 O)->yB Q N J e0 O I (e0.length:Int) 0 N):ACalls prog 186 [.int .i64] [.sv J 2 e0 O,.fn 178 [.pd I 0 (.fn 157 [])]] N Q:=
 eE wz h
theorem xl (Q:QT [.int .i64]) (N0:Nat) (a0:Option Addr) (e0:List D) (c0:Nat) (n7 n8:Int) (N:Nat) (h :
Br (decide (n8<n7)) ((0<=n8/\n8<(e0.length:Int))/\kB 129 [.dg 4 (List.getD e0 n8.toNat default)] N (fun b a=>Br b (uP a (Q n8))
 (zY Q N0 a0 e0 c0 n7 (IntKind.i64.wrap (n8+1)) a))) (uP N (Q (-1)))):zY Q N0 a0 e0 c0 n7 n8 N:=
  hE wG h
theorem u7 (N:Nat) (J:Option Addr) (e0:List D) (O:Nat) (I:Addr) (Q:QT [.int .i64]) (h :
Bel N (D.sl J 9 e0 O)->yC Q N J e0 O I (e0.length:Int) 0 N):ACalls prog 126 [.int .i64] [.sv J 9 e0 O,.fn 82 [.pd I 0 (.fn 127 [])]] N Q:=
 eE wc h
theorem wE (Q:QT [.int .i64]) (N0:Nat) (U:Option Addr) (e0:List D) (Y:Nat) (I:Addr) (O J:Int) (N:Nat) (h :
Br (decide (J<O)) ((0<=J/\J<(e0.length:Int))/\kB 178 [.dg 2 (List.getD e0 J.toNat default),.pd I 0 (.fn 157 [])] N (λb a=>Br b (uP
 a (Q J)) (yB Q N0 U e0 Y I O (IntKind.i64.wrap (J+1)) a))) (uP N (Q (-1)))):yB Q N0 U e0 Y I O J N:=
  hE wz h
theorem wC (Q:QT [.int .i64]) (N0:Nat) (U:Option Addr) (e0:List D) (Y:Nat) (I:Addr) (O J:Int) (N:Nat) (h :
Br (decide (J<O)) ((0<=J/\J<(e0.length:Int))/\kB 82 [.dg 9 (List.getD e0 J.toNat default),.pd I 0 (.fn 127 [])] N (λb a=>Br b (uP
 a (Q J)) (yC Q N0 U e0 Y I O (IntKind.i64.wrap (J+1)) a))) (uP N (Q (-1)))):yC Q N0 U e0 Y I O J N:=
  hE wc h
theorem qn (N:Nat) (I:D) (a1:Addr) (Q:QT [.bool]) (h :
Bel N I->kB 156 [.dg 2 I,.fn 157 []] N (λb a=>uP a (Q (!b)))):ACalls prog 178 [.bool] [.dg 2 I,.pd a1 0 (.fn 157 [])] N Q:=
 eE zB5 h
theorem qp (N:Nat) (I:D) (a1:Addr) (Q:QT [.bool]) (h :
Bel N I->kB 36 [.dg 9 I,.fn 127 []] N (λb a=>uP a (Q (!b)))):ACalls prog 82 [.bool] [.dg 9 I,.pd a1 0 (.fn 127 [])] N Q:=
 eE zCG h
end Go.Proofs.YtlahkdflngobiaaGreat
set_option maxRecDepth 100000
namespace Go.Proofs.YtlahkdflngobiaaGreat
open Go Go.Proofs Go.Proofs.Tryz
def sq:Hint:=⟨[hc 5 [3,11,12,13]],[],[(7,hs 18 [ec 7 [24]])]⟩
def qQ:Hint:=⟨[hc 6 [3,4,7,26,27,28] [(7,77,4)]],[],[(1,hs 3 [ec 1 [10]]),(2,hs 12 [ec 5 [16]]),(10,hs 7 [ec 2 [42]])]⟩
def q9:Hint:=⟨[hc 3 [3,7,8,9]],[],[(5,hs 5 [ec 2 [14]])]⟩
def zAU:Hint:=⟨[],[],[(1,hs 13 [ec 1 [3],ec 4 [6],ec 9 [11]])]⟩
def zAe:Hint:=⟨[hc 3 [3,7,8,9]],[],[(5,hs 5 [ec 2 [14]])]⟩
def tv:Hint:=⟨[hc 3 [3,7,8,9] [(3,9,0)]],[],[]⟩
def sf:Hint:=⟨[hc 3 [0,3,4] [(3,9,0)]],[],[(5,hs 26 [ec 13 [24]])]⟩
def zEO:Hint:=⟨[],[],[(1,hs 13 [ec 5 [12],ec 10 [17]]),(3,[en 0,en 2,en 7,eh 1,ec 3 [25],en 4,en 5,en 6,eh 8,en 9])]⟩
def pM:Hint:=⟨[hc 3 [1,3,4]],[],[(5,hs 9 [ec 6 [17]])]⟩
def pA:Hint:=⟨[hc 2 [0,1,5]],[],[]⟩
def zBE:Hint:=⟨[],[],[(1,hs 13 [ec 1 [3],ec 5 [7],ec 10 [12]])]⟩
def zBQ:Hint:=⟨[hc 3 [0,3,4] [(3,77,4)]],[],[(5,[en 0,en 1,en 2,en 3,en 4,en 5,en 6,en 7,en 8,en 9,en 10,en 11,en 12,eh 13,eh 14])]⟩
def zCn:Hint:=⟨[hc 2 [1,3]],[],[(4,hs 7 [ec 5 [15]])]⟩
def zBh:Hint:=⟨[hc 3 [1,2,5]],[],[(5,hs 8 [ec 6 [23]])]⟩
def zC0:Hint:=⟨[],[],[(1,hs 11 [ec 2 [6]])]⟩
def wZ:Hint:=⟨[hc 2 [0,1,7,8]],[],[(4,hs 6 [ec 5 [15]])]⟩
def zBG:Hint:=⟨[],[],[(1,hs 5 [ec 2 [4]])]⟩
def xY (Q:QT [.bool]) (N0:Nat) (a3:Option Addr) (e3:List D) (c3:Nat) (I:Option Addr) (J:List D) (O:Nat) (U Y:Int) (N:Nat):Prop:=AT prog 20 [.bool] Q N0 .ord (zE prog 20 5) ⟨an 3 (.sv a3 0 e3 c3::an 7 (.sv I 4 J O::.int .i64 U::.int .i64 Y::an 23 [])),[],N,none⟩
def xr (Q:QT [.ag 2,.bool]) (N0:Nat) (m7 c7:Nat) (Y:Option Addr) (aa:List D) (ab:Nat) (ac ae:Int) (y0:D) (I:Int) (J:Option Addr) (O:List D) (U:Nat) (r2:List D) (q2:Nat) (N:Nat):Prop:=AT prog 9 [.ag 2,.bool] Q N0 .ord (zE prog 9 6) ⟨an 3 (.pb 0 0 0 0::.pb 1 0 0 0::an 2 (.sb 2 4 0 m7 c7::an 18 (.sv Y 4 aa ab::.int .i64 ac::.int .i64 ae::an 17 []))),[.vd y0 9,.var [.int .i64 I,.sv J 2 O U],.arr 77 4 r2 q2],N,none⟩
def wM (Q:QT [.int .i64]) (N0:Nat) (I:Int) (J:Option Addr) (O:List D) (U:Nat) (Y n9:Int) (N:Nat):Prop:=AT prog 85 [.int .i64] Q N0 .ord (zE prog 85 3) ⟨an 3 (.int .i64 I::an 3 (.sv J 9 O U::.int .i64 Y::.int .i64 n9::an 10 [])),[],N,none⟩
def w8 (Q:QT [.int .i64]) (N0:Nat) (I:Int) (J:Option Addr) (O:List D) (U:Nat) (Y n9:Int) (N:Nat):Prop:=AT prog 84 [.int .i64] Q N0 .ord (zE prog 84 3) ⟨an 3 (.int .i64 I::an 3 (.sv J 9 O U::.int .i64 Y::.int .i64 n9::an 9 [])),[],N,none⟩
def xM (Q:QT [.sl 0]) (N0:Nat) (I J:Nat) (O:Option Addr) (U:List D) (Y:Nat) (n8 n9:Int) (r0:List D) (q0:Nat) (N:Nat):Prop:=AT prog 55 [.sl 0] Q N0 .ord (zE prog 55 3) ⟨an 3 (.sb 0 0 0 I J::an 3 (.sv O 4 U Y::.int .i64 n8::.int .i64 n9::an 10 [])),[.arr 9 0 r0 q0],N,none⟩
def xd (Q:QT [.bool]) (N0:Nat) (I:Option Addr) (e0:List D) (J O U:Nat) (Y:Int) (r0:List D) (q0:Nat) (N:Nat):Prop:=AT prog 21 [.bool] Q N0 .ord (zE prog 21 3) ⟨.sv I 4 e0 J::an 2 (.sb 0 0 0 O U::.int .i64 Y::an 44 []),[.arr 9 0 r0 q0],N,none⟩
def wO (Q:QT [.int .i64]) (N0:Nat) (I J:Int) (O:D) (N:Nat):Prop:=AT prog 90 [.int .i64] Q N0 .ord (zE prog 90 3) ⟨an 1 (.pb 0 0 0 0::an 1 (.int .i64 I::.int .i64 J::an 17 [])),[.vd O 9],N,none⟩
def wI (Q:QT [.int .i64]) (N0:Nat) (I:Option Addr) (e0:List D) (J:Nat) (O:ByteArray) (U:Int) (N:Nat):Prop:=AT prog 61 [.int .i64] Q N0 .ord (zE prog 61 2) ⟨.sv I 0 e0 J::.str O::an 3 (.int .i64 U::an 13 []),[],N,none⟩
def xq (Q:QT [.sl 4]) (N0:Nat) (I:Option Addr) (e0:List D) (J O U:Nat) (Y:Int) (r0:List D) (q0:Nat) (N:Nat):Prop:=AT prog 44 [.sl 4] Q N0 .ord (zE prog 44 3) ⟨.sv I 4 e0 J::an 2 (.sb 0 4 0 O U::.int .i64 Y::an 22 []),[.arr 77 4 r0 q0],N,none⟩
def vX (Q:QT [.bool]) (N0:Nat) (I:Int) (J:D) (N:Nat):Prop:=AT prog 42 [.bool] Q N0 .ord (zE prog 42 2) ⟨an 1 (.pb 0 0 0 0::an 1 (.int .i64 I::an 22 [])),[.vd J 9],N,none⟩
def vE (Q:QT [.int .i64]) (N0:Nat) (I J:Int) (O:D) (N:Nat):Prop:=AT prog 89 [.int .i64] Q N0 .ord (zE prog 89 3) ⟨an 1 (.int .i64 I::.pb 0 0 0 0::an 2 (.int .i64 J::an 21 [])),[.vd O 9],N,none⟩
def zn (Q:QT [.int .i64]) (N0:Nat) (J:Option Addr) (e0:List D) (O:Nat) (I:Addr) (U Y:Int) (N:Nat):Prop:=AT prog 126 [.int .i64] Q N0 .ord (zE prog 126 2) ⟨.sv J 9 e0 O::.fn 82 [.pd I 0 (.fn 37 [])]::an 5 (.int .i64 U::.int .i64 Y::an 10 []),[],N,none⟩
theorem zDN (N:Nat) (I:Option Addr) (e0:List D) (J:Nat) (Q:QT [.bool]) (h :
Bel N (D.sl I 4 e0 J)->Br (decide ((e0.length:Int)>5)) (uP N (Q false)) (kL 0 55 [.sv I 4 e0 J] N (λa b c d=>xY Q N a b c
 I e0 J (e0.length:Int) 0 d))):ACalls prog 20 [.bool] [PV.sv I 4 e0 J] N Q:=
  eE sq h
theorem zEP (N:Nat) (J:Option Addr) (e0:List D) (O:Nat) (I:D) (Q:QT [.ag 2,.bool]) (h :
Bel N (D.sl J 4 e0 O)->Bel N I->kB 36 [.dg 9 I,.fn 37 []] N (λb a=>kB 20 [.sv J 4 e0 O] a (λa c=>Br (!a) (uP c (Q (D.ag [D.j 0,
 D.sl none 2 [] 0]) false)) (kB 39 [.dg 9 I] c (λa c=>Br (!a) (uP c (Q (D.ag [D.j 0,D.sl none 2 [] 0]) false)) (Br (!b) (uP c (Q (D.ag [D.j 0,
 D.sl none 2 [] 0]) false)) (xr Q N 0 0 J e0 O (e0.length:Int) 0 I 0 none [] 0 [] 0 c))))))):ACalls prog 9 [.ag 2,.bool] [PV.sv J 4 e0 O,PV.dg 9 I] N Q:=
  eE qQ h
theorem zF8 (N:Nat) (I:D) (Q:QT [.int .i64]) (h :
Bel N I->∃ a b,∃ c:Nat,(I.cell 8)=D.sl a 9 b c/\wM Q N 0 a b c (b.length:Int) 0 N):ACalls prog 85 [.int .i64] [PV.dg 9 I] N Q:=
 eE q9 h
theorem zFw (N:Nat) (I:Option Addr) (e0:List D) (J:Nat) (O:ByteArray) (Q:QT [.int .i64]) (h :
Bel N (D.sl I 0 e0 J)->kI 99 [.sv I 0 e0 J,.str O] N (λn a=>uP a (Q n))):ACalls prog 58 [.int .i64] [PV.sv I 0 e0 J,PV.str O] N Q:=
 eE H0 h
theorem zAN (N:Nat) (I:D) (Q:QT [.bool]) (h :
Bel N I->kB 83 [.dg 9 I] N (λb a=>Br b (∀ b,a<=b->ACalls prog 84 [.i] [.dg 9 I] b (λn a=>b<=a->Br (decide (n<=80)) (kI 85 [.dg
 9 I] a (λa b=>uP b (Q (decide (a<=20))))) (uP a (Q false)))) (uP a (Q false)))):ACalls prog 39 [.bool] [PV.dg 9 I] N Q:=
  eE zAU h
theorem zHM (N:Nat) (I:D) (Q:QT [.int .i64]) (h :
Bel N I->∃ a b,∃ c:Nat,(I.cell 8)=D.sl a 9 b c/\w8 Q N 1 a b c (b.length:Int) 0 N):ACalls prog 84 [.int .i64] [PV.dg 9 I] N Q:=
 eE zAe h
theorem zCH (N:Nat) (I:Option Addr) (e0:List D) (J:Nat) (Q:QT [.sl 0]) (h :
Bel N (D.sl I 4 e0 J)->xM Q N 0 0 I e0 J (e0.length:Int) 0 [] 0 N):ACalls prog 55 [.sl 0] [PV.sv I 4 e0 J] N Q:=
 eE tv h
theorem zCv (N:Nat) (I:Option Addr) (e0:List D) (J:Nat) (Q:QT [.bool]) (h :
Bel N (D.sl I 4 e0 J)->xd Q N I e0 J 0 0 0 [] 0 N):ACalls prog 21 [.bool] [PV.sv I 4 e0 J] N Q:=
 eE sf h
theorem zEs (N:Nat) (J:Option Addr) (e0:List D) (O:Nat) (I:D) (Q:QT [.ag 2,.bool]) (h :
Bel N (D.sl J 4 e0 O)->Bel N I->kB 21 [.sv J 4 e0 O] N (λb d=>Br (!b) (uP d (Q (D.ag [D.j 0,D.sl none 2 [] 0]) false)) (kB 41 [.dg 9 I] d
 (λb d=>Br (!b) (uP d (Q (D.ag [D.j 0,D.sl none 2 [] 0]) false)) (kB 42 [.dg 9 I] d (λb d=>Br (!b) (uP d (Q (D.ag [D.j 0,D.sl none 2 []
 0]) false)) (kL 4 44 [.sv J 4 e0 O] d (λa b c d=>kAB 2 43 [.sv a 4 b c,.dg 9 I,.j 0] d (λx a b=>uP b (Q x a)))))))))):ACalls prog 10 [.ag 2,.bool] [PV.sv J 4 e0 O,PV.dg 9 I] N Q:=
  eE zEO h
theorem zFz (N:Nat) (I:D) (Q:QT [.int .i64]) (h :
Bel N I->wO Q N 0 0 I N):ACalls prog 90 [.int .i64] [PV.dg 9 I] N Q:=
 eE pM h
theorem zF5 (N:Nat) (I:Option Addr) (e0:List D) (J:Nat) (O:ByteArray) (Q:QT [.int .i64]) (h :
Bel N (D.sl I 0 e0 J)->wI Q N I e0 J O 0 N):ACalls prog 61 [.int .i64] [PV.sv I 0 e0 J,PV.str O] N Q:=
 eE pA h
theorem zAQ (N:Nat) (I:D) (Q:QT [.bool]) (h :
Bel N I->kI 89 [.dg 9 I,.j 80] N (λn a=>Br (decide (n≥0)) (kI 90 [.dg 9 I] a (λa c=>Br (decide (a<=20)) (kB 91 [.dg 9 I] c (fun
 b a=>uP a (Q b))) (uP c (Q false)))) (uP a (Q false)))):ACalls prog 41 [.bool] [PV.dg 9 I] N Q:=
  eE zBE h
theorem zAR (N:Nat) (I:Option Addr) (e0:List D) (J:Nat) (Q:QT [.sl 4]) (h :
Bel N (D.sl I 4 e0 J)->xq Q N I e0 J 0 0 0 [] 0 N):ACalls prog 44 [.sl 4] [PV.sv I 4 e0 J] N Q:=
 eE zBQ h
theorem zJw (N:Nat) (I:D) (Q:QT [.bool]) (h :
Bel N I->vX Q N 0 I N):ACalls prog 42 [.bool] [PV.dg 9 I] N Q:=
 eE zCn h
theorem zG6 (N:Nat) (I:D) (J:Int) (Q:QT [.int .i64]) (h :
Bel N I->vE Q N (IntKind.i64.wrap (J - 1)) 0 I N):ACalls prog 89 [.int .i64] [PV.dg 9 I,PV.int .i64 J] N Q:=
 eE zBh h
theorem tR (Q:QT [.bool]) (N0:Nat) (a3:Option Addr) (e3:List D) (c3:Nat) (a11:Option Addr) (e11:List D) (c11:Nat) (n12 n13:Int) (N:Nat) (h :
Br (decide (n13<n12)) ((0<=n13/\n13<(e11.length:Int))/\∃ s,D.cell (List.getD e11 n13.toNat default) 0=D.t s/\kB 56 [.str s] N (fun b a=>Br
 (!b) (uP a (Q false)) (kB 57 [.dg 2 (D.sub (List.getD e11 n13.toNat default) 1 2)] a (fun a b=>Br (!a) (uP b (Q false)) (∃ a,D.cell (List.getD e11
 n13.toNat default) 0=D.t a/\∀ c,b<=c->ACalls prog 58 [.i] [.sv a3 0 e3 c3,.str a] c (fun n a=>c<=a->Br (bne n n13) (uP a (Q false))
 (xY Q N0 a3 e3 c3 a11 e11 c11 n12 (IntKind.i64.wrap (n13+1)) a))))))) (uP N (Q true))):xY Q N0 a3 e3 c3 a11 e11 c11 n12 n13 N:=
  hE sq h
theorem pa (N:Nat) (I:D) (Q:QT [.bool]) (h :
Bel N I->kB 37 [.dg 9 I] N (λb d=>Br b (∃ a b,∃ c:Nat,(I.cell 8)=D.sl a 9 b c/\∀ e,ApA (Option.some e) [D.fn (OfNat.ofNat 37) []] ->
 Off [Option.some e] (D.sl a 9 b c)->∀ f,d<=f->vI f [Option.some e]->ACalls prog 81 [.bool] [.sv a 9 b c,.fn 82 [.pd e 0 (.fn 37 [])]] f (fun
 a b=>f<=b->uP b (Q (!a)))) (uP d (Q false)))):ACalls prog 36 [.bool] [.dg 9 I,.fn 37 []] N Q:=
  eE zC0 h
theorem sE (Q:QT [.ag 2,.bool]) (N0:Nat) (m7 c7:Nat) (ac:Option Addr) (J:List D) (ae:Nat) (ab I:Int) (y0:D) (O:Int) (U:Option Addr) (Y:List D) (aa:Nat) (r2:List D) (q2:Nat) (N:Nat) (h :
Br (decide (I<ab)) ((0<=I/\I<(J.length:Int))/\∃ s,D.cell (List.getD J I.toNat default) 0=D.t s/\(m7=r2.length/\c7=q2) /\
 zA r2 [D.ag [D.t s,D.cell (D.sub (List.getD J I.toNat default) 1 2) 0,D.cell (D.sub (List.getD J I.toNat default) 1 2) 1,D.j 0]] 56/\∀ (c :
 Nat),xr Q N0 (r2++[D.ag [D.t s,D.cell (D.sub (List.getD J I.toNat default) 1 2) 0,D.cell (D.sub (List.getD J I.toNat default) 1 2)
 1,D.j 0]]).length c ac J ae ab (IntKind.i64.wrap (I+1)) y0 O U Y aa (r2++[D.ag [D.t s,D.cell (D.sub (List.getD J I.toNat default) 1
 2) 0,D.cell (D.sub (List.getD J I.toNat default) 1 2) 1,D.j 0]]) c N) ((m7=r2.length/\c7=q2)/\∀ a,ApA a r2->Off [a] y0->∀ c,N<=c->vI c
 [a]->ACalls prog 40 [.ag 2,.bool] [.sv a 4 r2 c7,.dg 9 y0,.j 0] c (λx b d=>c<=d->Off [a] x/\(Bel d x->uP d (Q x b))))):xr Q N0 m7 c7 ac J ae ab I y0 O U Y aa r2 q2 N:=
  hE qQ h
theorem rB (Q:QT [.int .i64]) (N0:Nat) (J:Int) (Y:Option Addr) (O:List D) (c7:Nat) (U I:Int) (N:Nat) (h :
Br (decide (I<U)) ((0<=I/\I<(O.length:Int))/\kI 85 [.dg 9 (List.getD O I.toNat default)] N (λn a=>wM Q N0 (if n>J
 then n else J) Y O c7 U (IntKind.i64.wrap (I+1)) a)) (uP N (Q (IntKind.i64.wrap (J+1))))):wM Q N0 J Y O c7 U I N:=
  hE q9 h
theorem qG (Q:QT [.int .i64]) (N0:Nat) (O:Int) (Y:Option Addr) (J:List D) (c7:Nat) (U I:Int) (N:Nat) (h :
Br (decide (I<U)) ((0<=I/\I<(J.length:Int))/\∀ a,N<=a->ACalls prog 84 [.i] [.dg 9 (List.getD J I.toNat default)] a (λn b=>a <=
 b->w8 Q N0 (IntKind.i64.wrap (O+n)) Y J c7 U (IntKind.i64.wrap (I+1)) b)) (uP N (Q O))):w8 Q N0 O Y J c7 U I N:=
  hE zAe h
theorem ur (Q:QT [.sl 0]) (N0:Nat) (U Y:Nat) (a7:Option Addr) (J:List D) (c7:Nat) (n8 I:Int) (r0:List D) (O:Nat) (N:Nat) (h :
Br (decide (I<n8)) ((0<=I/\I<(J.length:Int))/\∃ s,D.cell (List.getD J I.toNat default) 0=D.t s/\(U=r0.length/\Y=O)/\zA r0
 [D.t s] 16/\∀ (c:Nat),xM Q N0 (r0++[D.t s]).length c a7 J c7 n8 (IntKind.i64.wrap (I+1)) (r0++[D.t s]) c N) (w3 (U=r0.length /\
 Y=O) (∀ a b,N<=b->Fresh N0 b a [D.ag r0]->uP b (Q a r0 O)))):xM Q N0 U Y a7 J c7 n8 I r0 O N:=
  hE tv h
theorem tL (Q:QT [.bool]) (N0:Nat) (Y:Option Addr) (e0:List D) (c0 J O:Nat) (I:Int) (r0:List D) (U:Nat) (N:Nat) (h :
Br (decide (I<(e0.length:Int))) ((0<=I/\I<(e0.length:Int))/\∃ s,(if 0=0 then D.cell (List.getD e0 I.toNat default) 0 else D.sub
 (List.getD e0 I.toNat default) 0 0)=D.t s/\kB 59 [.str s] N (λb d=>Br (!b) (uP d (Q false)) ((0<=I/\I<(e0.length:Int))/\kB 60 [.dg 2 (if 2 =
 0 then D.cell (List.getD e0 I.toNat default) 1 else D.sub (List.getD e0 I.toNat default) 1 2)] d (λb d=>Br (!b) (uP d (Q false)) ((0<=I/\I <
 (e0.length:Int))/\∃ b,(if 0=0 then D.cell (List.getD e0 I.toNat default) 0 else D.sub (List.getD e0 I.toNat default) 0 0)=D.t b/\(J=r0.length
 /\ O=U)/\∀ a,ApA a r0->∀ e,d<=e->vI e [a]->ACalls prog 61 [.i] [.sv a 0 r0 O,.str b] e (λn a=>e<=a->Br (decide (n≥0)) (uP a (Q
 false)) ((0<=I/\I<(e0.length:Int))/\∃ b,(if 0=0 then D.cell (List.getD e0 I.toNat default) 0 else D.sub (List.getD e0 I.toNat default) 0 0) =
 D.t b/\(J=r0.length/\O=U)/\zA r0 [D.t b] 16/\∀ (c:Nat),xd Q N0 Y e0 c0 (r0++[D.t b]).length c (IntKind.i64.wrap (I
 + 1)) (r0++[D.t b]) c a))))))) (∀ a,N<=a->Q (decide ((J:Int)<=5)) a)):xd Q N0 Y e0 c0 J O I r0 U N:=
  hE sf h
theorem sn (Q:QT [.int .i64]) (N0:Nat) (n3 n4:Int) (y0:D) (N:Nat) (h :
∃ a b,∃ c:Nat,(y0.cell 8)=D.sl a 9 b c/\Br (decide (n4<(b.length:Int))) (∃ a b,∃ c:Nat,(y0.cell 8)=D.sl a 9 b c/\(0<=n4
 /\ n4<(b.length:Int))/\kI 90 [.dg 9 (List.getD b n4.toNat default)] N (fun n a=>kI 134 [.j n3,.j n] a (fun a b=>wO Q N0 a
 (IntKind.i64.wrap (n4+1)) y0 b))) (uP N (Q (IntKind.i64.wrap (n3+1))))):wO Q N0 n3 n4 y0 N:=
  hE pM h
theorem s3 (Q:QT [.int .i64]) (N0:Nat) (O:Option Addr) (e0:List D) (U:Nat) (J:ByteArray) (I:Int) (N:Nat) (h :
Br (decide (I<(e0.length:Int))) ((0<=I/\I<(e0.length:Int))/\∃ s,List.getD e0 I.toNat default=D.t s/\Br (ByteArray.toList s ==
 ByteArray.toList J) (uP N (Q I)) (wI Q N0 O e0 U J (IntKind.i64.wrap (I+1)) N)) (uP N (Q (-1)))):wI Q N0 O e0 U J I N:=
  hE pA h
theorem wy (Q:QT [.sl 4]) (N0:Nat) (Y:Option Addr) (e0:List D) (c0 O U:Nat) (I:Int) (r0:List D) (J:Nat) (N:Nat) (h :
Br (decide (I<(e0.length:Int))) ((0<=I/\I<(e0.length:Int))/\∃ s,(if 0=0 then D.cell (List.getD e0 I.toNat default) 0 else D.sub
 (List.getD e0 I.toNat default) 0 0)=D.t s/\(0<=I/\I<(e0.length:Int))/\(O=r0.length/\U=J)/\zA r0 [D.ag [D.t s,D.cell (if 2=0 then
 D.cell (List.getD e0 I.toNat default) 1 else D.sub (List.getD e0 I.toNat default) 1 2) 0,D.cell (if 2=0 then D.cell (List.getD e0 I.toNat default) 1 else
 D.sub (List.getD e0 I.toNat default) 1 2) 1,D.j 0]] 56/\∀ (c:Nat),xq Q N0 Y e0 c0 (r0++[D.ag [D.t s,D.cell (if 2=0 then D.cell
 (List.getD e0 I.toNat default) 1 else D.sub (List.getD e0 I.toNat default) 1 2) 0,D.cell (if 2=0 then D.cell (List.getD e0 I.toNat default) 1 else D.sub
 (List.getD e0 I.toNat default) 1 2) 1,D.j 0]]).length c (IntKind.i64.wrap (I+1)) (r0++[D.ag [D.t s,D.cell (if 2=0 then D.cell (List.getD e0 I.toNat
 default) 1 else D.sub (List.getD e0 I.toNat default) 1 2) 0,D.cell (if 2=0 then D.cell (List.getD e0 I.toNat default) 1 else D.sub (List.getD e0 I.toNat
 default) 1 2) 1,D.j 0]]) c N) (w3 (O=r0.length/\U=J) (∀ a b,N<=b->Fresh N0 b a [D.ag r0]->uP b (Q a r0 J)))):xq Q N0 Y e0 c0 O U I r0 J N:=
  hE zBQ h
theorem pF (Q:QT [.bool]) (N0:Nat) (I:Int) (J:D) (N:Nat) (h :
∃ a d,∃ c:Nat,(J.cell 8)=D.sl a 9 d c/\Br (decide (I<(d.length:Int))) (∃ a c,∃ d:Nat,(J.cell 8)=D.sl a 9 c d/\(0<=I
 /\ I<(c.length:Int))/\kB 42 [.dg 9 (List.getD c I.toNat default)] N (λb a=>Br (!b) (uP a (Q false)) (vX Q N0 (IntKind.i64.wrap
 (I+1)) J a))) (∃ n:Int,(J.cell 0)=D.j n/\kB 63 [.j n,.j 1,.j 5] N (λa b=>Br a (uP b (Q true)) (∃ a:Int,(J.cell 0)=D.j a/\uP
 b (Q (a==8)))))):vX Q N0 I J N:=
  hE zCn h
theorem ro (Q:QT [.int .i64]) (N0:Nat) (n1 n5:Int) (y0:D) (N:Nat) (h :
∃ a b,∃ c:Nat,(y0.cell 8)=D.sl a 9 b c/\Br (decide (n5<(b.length:Int))) (Br (decide (n1≥0)) (∃ a b,∃ c:Nat,(y0.cell 8)=D.sl
 a 9 b c/\(0<=n5/\n5<(b.length:Int))/\kI 89 [.dg 9 (List.getD b n5.toNat default),.j n1] N (fun n a=>vE Q N0 n
 (IntKind.i64.wrap (n5+1)) y0 a)) (uP N (Q n1))) (uP N (Q n1))):vE Q N0 n1 n5 y0 N:=
  hE zBh h
theorem vi (N:Nat) (J:Option Addr) (e0:List D) (O:Nat) (I:Addr) (Q:QT [.bool]) (h :
Bel N (D.sl J 9 e0 O)->kI 126 [.sv J 9 e0 O,.fn 82 [.pd I 0 (.fn 37 [])]] N (λn a=>uP a (Q (decide (n≥0))))):ACalls prog 81 [.bool] [.sv J 9 e0 O,.fn 82 [.pd I 0 (.fn 37 [])]] N Q:=
 eE H0 h
theorem uv (N:Nat) (J:Option Addr) (e0:List D) (O:Nat) (I:Addr) (Q:QT [.int .i64]) (h :
Bel N (D.sl J 9 e0 O)->zn Q N J e0 O I (e0.length:Int) 0 N):ACalls prog 126 [.int .i64] [.sv J 9 e0 O,.fn 82 [.pd I 0 (.fn 37 [])]] N Q:=
 eE wZ h
theorem x8 (Q:QT [.int .i64]) (N0:Nat) (a0:Option Addr) (e0:List D) (c0:Nat) (a1_0:Addr) (n7 n8:Int) (N:Nat) (h :
Br (decide (n8<n7)) ((0<=n8/\n8<(e0.length:Int))/\kB 82 [.dg 9 (List.getD e0 n8.toNat default),.pd a1_0 0 (.fn 37 [])] N (fun b a=>Br b (uP a
 (Q n8)) (zn Q N0 a0 e0 c0 a1_0 n7 (IntKind.i64.wrap (n8+1)) a))) (uP N (Q (-1)))):zn Q N0 a0 e0 c0 a1_0 n7 n8 N:=
  hE wZ h
theorem r7 (N:Nat) (I:D) (a1:Addr) (Q:QT [.bool]) (h :
Bel N I->kB 36 [.dg 9 I,.fn 37 []] N (λb a=>uP a (Q (!b)))):ACalls prog 82 [.bool] [.dg 9 I,.pd a1 0 (.fn 37 [])] N Q:=
 eE zBG h
end Go.Proofs.YtlahkdflngobiaaGreat
