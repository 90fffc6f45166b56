/- Printed by gen.py: what the functions come to. -/
import Derived.Test.YtlahkdflngobiaaGreatDoorJh
set_option linter.unusedVariables false
set_option maxRecDepth 100000
namespace Go.Proofs.YtlahkdflngobiaaGreatDoor
open Go Go.Proofs Go.Proofs.Tryz
def tV:Hint:=⟨[hc 2 [0,1,7,8]],[],[]⟩
def zCc:Hint:=⟨[hc 2 [0,6,7]],[],[]⟩
def sy:Hint:=⟨[hc 3 [3,7,8,9]],[],[(5,hs 5 [ec 2 [14]])]⟩
def sa:Hint:=⟨[hc 3 [3,7,8,9]],[],[(5,hs 5 [ec 2 [14]])]⟩
def zAi:Hint:=⟨[],[],[(1,[en 0,en 1,eh 2,en 3,en 4,en 5,en 6,en 7,en 8,en 9,en 10,en 11,en 12,en 13,en 14,en 15])]⟩
def zC7:Hint:=⟨[],[],[(1,hs 5 [ec 2 [4]])]⟩
def uA:Hint:=⟨[hc 2 [0,1,7,8]],[],[(4,hs 6 [ec 5 [15]])]⟩
def zE7:Hint:=⟨[],[],[(1,hs 11 [ec 2 [6]])]⟩
def zB7:Hint:=⟨[],[],[(1,hs 13 [ec 1 [3],ec 5 [7],ec 10 [12]])]⟩
def zHN:Hint:=⟨[],[],[(1,hs 17 [ec 7 [9]])]⟩
def wy:Hint:=⟨[hc 2 [0,1,7,8]],[],[(4,hs 6 [ec 5 [15]])]⟩
def zHB:Hint:=⟨[],[],[(12,hs 9 [ec 6 [34]]),(14,hs 26 [ec 18 [56],ec 23 [61]])]⟩
def uE:Hint:=⟨[hc 4 [1,2,15,16,17]],[],[(7,hs 5 [ec 3 [27,28]])]⟩
def zJn:Hint:=⟨[],[],[(1,[en 0,en 1,en 2,en 3,ec 4 [7],en 5]),(14,[en 0,en 1,en 2,en 3,en 4,eh 5,en 6,eh 7]),(16,[en 0,en 1,en 2,en 3,en 4,en 5,en 6,en 7,en 8,eh 9,en 10,eh 11,en 12,eh 13,en 14,eh 15]),(17,hs 38 [ec 1 [54],ec 28 [79,81],ec 35 [86,88]])]⟩
def zDO:Hint:=⟨[],[],[(1,hs 5 [ec 2 [4]])]⟩
def va:Hint:=⟨[hc 2 [0,1,7,8]],[],[(4,hs 6 [ec 5 [15]])]⟩
def zFM:Hint:=⟨[],[],[(1,hs 11 [ec 2 [6]])]⟩
def zIe:Hint:=⟨[],[],[(1,hs 3 [ec 1 [3]])]⟩
def zCn:Hint:=⟨[hc 4 [1,2,3,15,16,17]],[],[(1,hs 5 [ec 3 [10]]),(6,[en 0,en 1,en 2,en 4,ec 3 [22],ec 5 [21],en 6])]⟩
def zGD:Hint:=⟨[],[],[(1,hs 8 [ec 1 [5],ec 5 [8]])]⟩
def zC4:Hint:=⟨[],[],[(1,[en 0,en 1,en 2,en 3,en 4,en 5,en 6,ec 7 [11],eh 8])]⟩
def p4:Hint:=⟨[hc 2 [0,1,5]],[],[]⟩
def tU:Hint:=⟨[hc 3 [2,3,10,11,12]],[],[(5,[en 0,en 1,en 2,ec 3 [18],en 4,eh 5,en 6,eh 7])]⟩
def zBt:Hint:=⟨[hc 11 [4,5,6,22,23,24]],[],[(13,hs 4 [ec 2 [28,29]])]⟩
def zLE:Hint:=⟨[],[],[(1,[en 0,en 2,ec 1 [5],ec 3 [7],en 4,en 5,eh 6])]⟩
def zIN:Hint:=⟨[],[],[(1,hs 5 [ec 1 [3]])]⟩
def zJE:Hint:=⟨[],[],[(3,hs 6 [ec 4 [10]])]⟩
def zAy:Hint:=⟨[hc 3 [0,1,5,9,10,11] [(5,127,4)]],[],[(5,hs 17 [ec 2 [17]]),(6,[en 0,en 1,en 2,en 3,en 4,en 6,en 7,ec 5 [37],en 8,en 9,eh 10,eh 11])]⟩
def zEC:Hint:=⟨[],[],[(3,hs 10 [ec 7 [17]]),(5,hs 3 [ec 1 [24]]),(7,hs 10 [ec 7 [32],ec 8 [35]]),(9,[en 0,en 1,en 3,en 4,en 5,en 6,en 7,eh 2,ec 8 [45],ec 9 [47],eh 10]),(11,hs 9 [ec 6 [55]]),(12,hs 2 [ec 1 [58]]),(13,hs 3 [ec 1 [60]])]⟩
def qt:Hint:=⟨[hc 15 [4,6,7,9,57,58] [(9,33,2)]],[],[(5,[en 0,en 1,en 2,en 3,en 4,en 5,en 6,en 7,en 8,en 9,en 10]),(6,hs 7 [ec 5 [43]]),(22,hs 9 [ec 3 [79,80],ec 7 [83,84]]),(27,[en 0,en 1,en 2,en 3,en 4,en 5,en 6,en 7,en 8,ec 9 [102,103],en 10]),(28,hs 6 [ec 4 [109]]),(31,[en 0,en 1,en 2,en 3,en 4,en 5,en 6,en 7,en 9,en 10,en 11,en 12,en 13,en 15,eh 8,ec 14 [126],eh 16]),(34,hs 5 [ec 3 [134,135]]),(39,[en 0,en 1,en 2,en 3,en 4,en 5,en 6,en 8,en 9,en 10,en 11,en 12,eh 7,ec 13 [156],eh 14]),(41,hs 7 [ec 4 [162,164]]),(42,[en 0,en 1,en 2,en 3,en 4,en 5,en 6,en 7,en 8,en 9,en 10,en 11,en 12,en 14,en 15,en 16,en 17,en 18,en 20,eh 13,ec 19 [183],eh 21]),(43,hs 4 [ec 3 [186,188]]),(46,hs 5 [ec 3 [193]])]⟩
def zK9:Hint:=⟨[],[],[(1,hs 6 [ec 3 [9]]),(2,hs 3 [ec 1 [12]])]⟩
def zJg:Hint:=⟨[],[],[(1,hs 9 [ec 6 [13]]),(3,hs 6 [ec 3 [20]]),(4,[en 0,en 1,en 2,en 3,eh 4,en 5])]⟩
def y4 (Q:QT [.int .i64]) (N0:Nat) (a0:Option Addr) (e0:List D) (I:Nat) (J:ByteArray) (O n8:Int) (N:Nat):Prop:=AT prog 158 [.int .i64] Q N0 .ord (zD prog 158 2) ⟨.sv a0 0 e0 I::.str J::an 5 (.int .i64 O::.int .i64 n8::an 10 []),[],N,none⟩
def xV (Q:QT [.bool]) (N0:Nat) (s0:ByteArray) (I J:Int) (N:Nat):Prop:=AT prog 135 [.bool] Q N0 .ord (zD prog 135 2) ⟨.str s0::an 5 (.int .i64 I::.int .i64 J::an 40 []),[],N,none⟩
def xb (Q:QT [.int .i64]) (N0:Nat) (n3:Int) (I:Option Addr) (J:List D) (O:Nat) (n8 n9:Int) (N:Nat):Prop:=AT prog 195 [.int .i64] Q N0 .ord (zD prog 195 3) ⟨an 3 (.int .i64 n3::an 3 (.sv I 2 J O::.int .i64 n8::.int .i64 n9::an 9 [])),[],N,none⟩
def xI (Q:QT [.int .i64]) (N0:Nat) (n3:Int) (I:Option Addr) (J:List D) (O:Nat) (n8 n9:Int) (N:Nat):Prop:=AT prog 196 [.int .i64] Q N0 .ord (zD prog 196 3) ⟨an 3 (.int .i64 n3::an 3 (.sv I 2 J O::.int .i64 n8::.int .i64 n9::an 10 [])),[],N,none⟩
def wZ (Q:QT [.int .i64]) (N0:Nat) (a0:Option Addr) (e0:List D) (I:Nat) (J:ByteArray) (O:Int) (N:Nat):Prop:=AT prog 201 [.int .i64] Q N0 .ord (zD prog 201 2) ⟨.sv a0 4 e0 I::.str J::an 3 (.int .i64 O::an 15 []),[],N,none⟩
def uT (Q:QT [.ag 2]) (N0:Nat) (ai:Option Addr) (aj:List D) (ak:Nat) (al am I:Int) (J:Option Addr) (O:List D) (aa:Nat) (ab:Int) (ac:Option Addr) (ae:List D) (ah:Nat) (N:Nat):Prop:=AT prog 127 [.ag 2] Q N0 .ord (zD prog 127 3) ⟨an 2 (.pb 0 0 0 0::.pb 1 0 0 0::an 6 (.sv ai 2 aj ak::.int .i64 al::.int .i64 am::an 12 [])),[.var [.int .i64 I,.sv J 2 O aa],.var [.int .i64 ab,.sv ac 2 ae ah]],N,none⟩
def zj (Q:QT [.ag 2]) (N0:Nat) (ab:Option Addr) (ac:List D) (ae:Nat) (ah ai I:Int) (J:Option Addr) (O:List D) (aa:Nat) (y1 y2:D) (N:Nat):Prop:=AT prog 204 [.ag 2] Q N0 .ord (zD prog 204 11) ⟨an 4 (.pb 0 0 0 0::.pb 1 0 0 0::.pb 2 0 0 0::an 15 (.sv ab 2 ac ae::.int .i64 ah::.int .i64 ai::an 10 [])),[.var [.int .i64 I,.sv J 2 O aa],.vd y1 2,.vd y2 2],N,none⟩
def yX (Q:QT [.sl 4]) (N0:Nat) (a0:Option Addr) (e0:List D) (J:Nat) (n1:Int) (O c5:Nat) (a9:Option Addr) (e9:List D) (c9:Nat) (n10 I:Int) (r0:List D) (q0:Nat) (N:Nat):Prop:=AT prog 222 [.sl 4] Q N0 .ord (zD prog 222 3) ⟨.sv a0 4 e0 J::.int .i64 n1::an 3 (.sb 0 4 0 O c5::an 3 (.sv a9 4 e9 c9::.int .i64 n10::.int .i64 I::an 34 [])),[.arr 127 4 r0 q0],N,none⟩
def yz (Q:QT [.ag 2]) (N0:Nat) (m9 c9:Nat) (ai aj:Int) (y0:D) (I:Int) (J:Option Addr) (O:List D) (aa:Nat) (ab:Option Addr) (ac:List D) (ae:Nat) (ah:Int) (r4:List D) (q4:Nat) (N:Nat):Prop:=AT prog 176 [.ag 2] Q N0 .ord (zD prog 176 15) ⟨an 4 (.pb 0 0 0 0::an 1 (.pb 1 0 0 0::.fn 200 [.pb 2 0 0 0,.pb 0 0 0 0,.pb 3 0 0 0]::an 1 (.sb 4 2 0 m9 c9::an 47 (.int .i64 ai::.int .i64 aj::an 137 [])))),[.vd y0 9,.var [.int .i64 I,.sv J 2 O aa],.var [.sv ab 4 ac ae],.var [.int .i64 ah],.arr 33 2 r4 q4],N,none⟩
def zo (Q:QT [.bool]) (N0:Nat) (a1:Option Addr) (e1:List D) (c1:Nat) (I:Option Addr) (J:List D) (O:Nat) (aa ab:Int) (N:Nat):Prop:=AT prog 143 [.bool] Q N0 .ord (zD prog 143 4) ⟨an 1 (.sv a1 2 e1 c1::.fn 103 []::an 12 (.sv I 2 J O::.int .i64 aa::.int .i64 ab::an 14 [])),[],N,none⟩
def v7 (Q:QT [.bool]) (N0:Nat) (n1:Int) (I:Option Addr) (J:List D) (O:Nat) (aa ab:Int) (y0:D) (N:Nat):Prop:=AT prog 174 [.bool] Q N0 .ord (zD prog 174 4) ⟨an 1 (.int .i64 n1::.fn 175 []::.pb 0 0 0 0::an 11 (.sv I 9 J O::.int .i64 aa::.int .i64 ab::an 11 [])),[.vd y0 9],N,none⟩
def xF (Q:QT [.ag 2]) (N0:Nat) (ah:Option Addr) (ai:List D) (aj:Nat) (ak al I:Int) (J:Option Addr) (O:List D) (aa:Nat) (ab:Int) (ac ae:Nat) (r2:List D) (q2:Nat) (N:Nat):Prop:=AT prog 127 [.ag 2] Q N0 .ord (zD prog 127 3) ⟨an 2 (.pb 0 0 0 0::.pb 1 0 0 0::an 6 (.sv ah 2 ai aj::.int .i64 ak::.int .i64 al::an 12 [])),[.var [.int .i64 I,.sv J 2 O aa],.var [.int .i64 ab,.sb 2 2 0 ac ae],.arr 33 2 r2 q2],N,none⟩
def zx (Q:QT [.int .i64]) (N0:Nat) (a0:Option Addr) (e0:List D) (I:Nat) (J O:Int) (N:Nat):Prop:=AT prog 194 [.int .i64] Q N0 .ord (zD prog 194 2) ⟨.sv a0 4 e0 I::.fn 172 []::an 5 (.int .i64 J::.int .i64 O::an 10 []),[],N,none⟩
def yQ (Q:QT [.int .i64]) (N0:Nat) (a0:Option Addr) (e0:List D) (J:Nat) (I:Addr) (O n8:Int) (N:Nat):Prop:=AT prog 227 [.int .i64] Q N0 .ord (zD prog 227 2) ⟨.sv a0 2 e0 J::.fn 218 [.pd I 0 (.fn 198 [])]::an 5 (.int .i64 O::.int .i64 n8::an 10 []),[],N,none⟩
def yR (Q:QT [.int .i64]) (N0:Nat) (a0:Option Addr) (e0:List D) (J:Nat) (I:Addr) (O n8:Int) (N:Nat):Prop:=AT prog 105 [.int .i64] Q N0 .ord (zD prog 105 2) ⟨.sv a0 9 e0 J::.fn 134 [.pd I 0 (.fn 170 [])]::an 5 (.int .i64 O::.int .i64 n8::an 10 []),[],N,none⟩
theorem zJj (N:Nat) (n0 n1 n2:Int) (Q:QT [.bool]) (h :
Br (decide (n1<=n0)) (uP N (Q (decide (n0<=n2)))) (uP N (Q false))):ACalls prog 99 [.bool] [PV.int .i64 n0,PV.int .i64 n1,PV.int .i64 n2] N Q:=
 eE H0 h
theorem zBI (N:Nat) (a0:Option Addr) (e0:List D) (I:Nat) (J:ByteArray) (Q:QT [.int .i64]) (h :
Bel N (D.sl a0 0 e0 I)->y4 Q N a0 e0 I J (e0.length:Int) 0 N):ACalls prog 158 [.int .i64] [PV.sv a0 0 e0 I,PV.str J] N Q:=
 eE tV h
theorem qi (N:Nat) (a0:Option Addr) (e0:List D) (I:Nat) (J:ByteArray) (Q:QT [.bool]) (h :
Bel N (D.sl a0 0 e0 I)->kI 158 [.sv a0 0 e0 I,.str J] N (λn a=>uP a (Q (decide (n≥0))))):ACalls prog 117 [.bool] [PV.sv a0 0 e0 I,PV.str J] N Q:=
 eE H0 h
theorem zJD (N:Nat) (s0:ByteArray) (Q:QT [.bool]) (h :
xV Q N s0 (s0.size:Int) 0 N):ACalls prog 135 [.bool] [PV.str s0] N Q:=
 eE zCc h
theorem zDX (N:Nat) (I:D) (Q:QT [.int .i64]) (h :
Bel N I->∃ a b,∃ c:Nat,(I.cell 1)=D.sl a 2 b c/\xb Q N 1 a b c (b.length:Int) 0 N):ACalls prog 195 [.int .i64] [PV.dg 2 I] N Q:=
 eE sy h
theorem zCZ (N:Nat) (I:D) (Q:QT [.int .i64]) (h :
Bel N I->∃ a b,∃ c:Nat,(I.cell 1)=D.sl a 2 b c/\xI Q N 0 a b c (b.length:Int) 0 N):ACalls prog 196 [.int .i64] [PV.dg 2 I] N Q:=
 eE sa h
theorem zAe (N:Nat) (I:D) (Q:QT [.bool]) (h :
Bel N I->∃ n:Int,(I.cell 0)=D.j n/\kB 99 [.j n,.j 1,.j 4] N (λb d=>Br b (∃ a b,∃ c:Nat,(I.cell 1)=D.sl a 2 b c/\∃ a:Int,
 (I.cell 0)=D.j a/\(0<=IntKind.i64.wrap (a - 1)/\IntKind.i64.wrap (a - 1)<4/\(0+(IntKind.i64.wrap (a - 1)).toNat:Nat)<4)/\(0 +
 (IntKind.i64.wrap (a - 1)).toNat:Nat)<4/\∃ c:Int,List.getD [D.j 0,D.j 0,D.j 2,D.j 1] (0+(IntKind.i64.wrap (a - 1)).toNat:Nat) default=D.j
 c/\uP d (Q ((b.length:Int)==c))) (uP d (Q false)))):ACalls prog 198 [.bool] [PV.dg 2 I] N Q:=
  eE zAi h
theorem zB8 (N:Nat) (I:D) (Q:QT [.bool]) (h :
Bel N I->kI 195 [.dg 2 I] N (λn a=>Br (decide (n<=30)) (kI 196 [.dg 2 I] a (λa c=>Br (decide (a<=8)) (kB 197 [.dg 2 I,.fn 198 []]
 c (λb a=>uP a (Q b))) (uP c (Q false)))) (uP a (Q false)))):ACalls prog 173 [.bool] [PV.dg 2 I] N Q:=
  eE zB7 h
theorem zG5 (N:Nat) (x0:D) (Q:QT [.bool]) (h :
Bel N x0->∃ s,(x0.cell 0)=D.t s/\kB 135 [.str s] N (fun b a=>Br (!b) (uP a (Q true)) (kB 173 [.dg 2 (D.sub x0 1 2)] a (fun a b=>Br (!a)
 (uP b (Q true)) (∃ n:Int,(x0.cell 3)=D.j n/\kB 99 [.j n,.j 0,.j 2] b (fun a b=>uP b (Q (!a)))))))):ACalls prog 172 [.bool] [PV.dg 4 x0] N Q:=
  eE zHN h
theorem zLa (N:Nat) (a0:Option Addr) (e0:List D) (I:Nat) (Q:QT [.bool]) (h :
Bel N (D.sl a0 4 e0 I)->Br (decide ((e0.length:Int)<=12)) (kB 171 [.sv a0 4 e0 I,.fn 172 []] N (λb a=>uP a (Q (!b)))) (uP N (Q false))):ACalls prog 140 [.bool] [PV.sv a0 4 e0 I] N Q:=
 eE H0 h
theorem zG4 (N:Nat) (s0:ByteArray) (Q:QT [.int .i64]) (h :
Br (ByteArray.toList s0==ByteArray.toList (bytes [43])) (uP N (Q 2)) (Br (ByteArray.toList s0==ByteArray.toList (bytes [45])) (uP N (Q 2)) (Br
 (ByteArray.toList s0==ByteArray.toList (bytes [42])) (uP N (Q 2)) (Br (ByteArray.toList s0==ByteArray.toList (bytes [61])) (uP N (Q 2)) (Br
 (ByteArray.toList s0==ByteArray.toList (bytes [60])) (uP N (Q 2)) (Br (ByteArray.toList s0==ByteArray.toList (bytes [38])) (uP N (Q 2)) (Br
 (ByteArray.toList s0==ByteArray.toList (bytes [124])) (uP N (Q 2)) (Br (ByteArray.toList s0==ByteArray.toList (bytes [33])) (uP N (Q 1)) (uP N (Q
 0)))))))))):ACalls prog 215 [.int .i64] [PV.str s0] N Q:=
  eE H0 h
theorem zK0 (N:Nat) (I:D) (Q:QT [.int .i64]) (h :
Bel N I->∃ n:Int,(I.cell 0)=D.j n/\Br (n==4) (∃ s,(I.cell 1)=D.t s/\kI 215 [.str s] N (λa b=>uP b (Q a))) (Br (n==5) (uP N (Q
 3)) (Br (n==7) (uP N (Q 2)) (Br (n==8) (uP N (Q 2)) (Br (n==6) (uP N (Q 1)) (Br (n==9) (uP N (Q 1)) (Br (n==10) (uP N (Q 1)) (Br (n==11) (uP N (Q
 1)) (Br (n==12) (uP N (Q 1)) (Br (n==13) (uP N (Q 1)) (uP N (Q 0)))))))))))):ACalls prog 192 [.int .i64] [PV.dg 9 I] N Q:=
  eE H0 h
theorem zFZ (N:Nat) (n0:Int) (Q:QT [.bool]) (h :
kB 99 [.j n0,.j 0,.j 10006] N (λb a=>uP a (Q b))):ACalls prog 216 [.bool] [PV.int .i64 n0] N Q:=
 eE H0 h
theorem zHD (N:Nat) (I:D) (Q:QT [.bool]) (h :
Bel N I->∃ n:Int,(I.cell 0)=D.j n/\Br (n==1) (∃ s,(I.cell 1)=D.t s/\kB 135 [.str s] N (λb a=>uP a (Q b))) (Br (n==8) (∃ a,
 (I.cell 1)=D.t a/\kB 135 [.str a] N (λa b=>uP b (Q a))) (Br (n==2) (∃ a:Int,(I.cell 3)=D.j a/\kB 216 [.j a] N (λa b=>
 uP b (Q a))) (Br (n==3) (∃ a:Int,(I.cell 3)=D.j a/\kB 99 [.j a,.j 0,.j 1] N (λa b=>uP b (Q a))) (Br (n==4) (∃ a,(I.cell
 1)=D.t a/\kI 215 [.str a] N (λa b=>uP b (Q (decide (a>0))))) (Br (n==6) (∃ a,(I.cell 1)=D.t a/\kB 135 [.str a] N (λa b
 => Br a (kB 173 [.dg 2 (D.sub I 4 2)] b (λa b=>uP b (Q a))) (uP b (Q false)))) (Br (n==9) (∃ a,(I.cell 1)=D.t a/\kB 135 [.str
 a] N (λa b=>Br a (∃ a,(I.cell 2)=D.t a/\kB 135 [.str a] b (λa b=>Br a (∃ a,(I.cell 1)=D.t a/\∃ c,(I.cell 2) =
 D.t c/\Br (!(ByteArray.toList a==ByteArray.toList c)) (kB 173 [.dg 2 (D.sub I 4 2)] b (λa b=>Br a (kB 173 [.dg 2 (D.sub I 6 2)] b (fun
 a b=>uP b (Q a))) (uP b (Q false)))) (uP b (Q false))) (uP b (Q false)))) (uP b (Q false)))) (∃ a:Int,(I.cell 0)=D.j a/\kB 99 [.j
 a,.j 1,.j 13] N (λa b=>uP b (Q a)))))))))):ACalls prog 193 [.bool] [PV.dg 9 I] N Q:=
  eE zHB h
theorem zEO (N:Nat) (I J:D) (Q:QT [.bool]) (h :
Bel N I->Bel N J->∃ n:Int,(I.cell 0)=D.j n/\∃ d:Int,(J.cell 0)=D.j d/\Br (n==d) (∃ a d,∃ c:Nat,(I.cell 1)=D.sl a 2 d c /\
 ∃ e f,∃ g:Nat,(J.cell 1)=D.sl e 2 f g/\kB 143 [.sv a 2 d c,.sv e 2 f g,.fn 103 []] N (λb a=>uP a (Q b))) (uP N (Q
 false))):ACalls prog 103 [.bool] [PV.dg 2 I,PV.dg 2 J] N Q:=
  eE H0 h
theorem zJA (N:Nat) (I:D) (Q:QT [.bool]) (h :
Bel N I->∃ a d,∃ c:Nat,(I.cell 8)=D.sl a 9 d c/\kI 192 [.dg 9 I] N (λn a=>Br (bne (d.length:Int) n) (uP a (Q false)) (∃ c:Int,
 (I.cell 0)=D.j c/\∃ c:Int,(I.cell 0)=D.j c/\Br (c==1) (∃ s,(I.cell 1)=D.t s/\kB 193 [.dg 9 I] a (λb a=>Br b (∃ b,(I.cell
 1)=D.t b/\Br (ByteArray.toList b==ByteArray.toList s) (∃ b,(I.cell 2)=D.t b/\Br (ByteArray.toList b==ByteArray.toList b0) (∃ b:Int,
 (I.cell 3)=D.j b/\Br (b==0) (kB 103 [.dg 2 (D.sub I 4 2),.dg 2 (D.ag [D.j 0,D.sl none 2 [] 0])] a (λa b=>Br a (kB 103 [.dg 2 (D.sub I 6
 2),.dg 2 (D.ag [D.j 0,D.sl none 2 [] 0])] b (λa b=>uP b (Q a))) (uP b (Q false)))) (uP a (Q false))) (uP a (Q false))) (uP a (Q false))) (uP
 a (Q false)))) (Br (c==8) (∃ b,(I.cell 1)=D.t b/\kB 193 [.dg 9 I] a (λa c=>Br a (∃ a,(I.cell 1)=D.t a/\Br (ByteArray.toList
 a==ByteArray.toList b) (∃ a,(I.cell 2)=D.t a/\Br (ByteArray.toList a==ByteArray.toList b0) (∃ a:Int,(I.cell 3)=D.j a/\Br (a ==
 0) (kB 103 [.dg 2 (D.sub I 4 2),.dg 2 (D.ag [D.j 0,D.sl none 2 [] 0])] c (λa b=>Br a (kB 103 [.dg 2 (D.sub I 6 2),.dg 2 (D.ag [D.j 0,D.sl
 none 2 [] 0])] b (λa b=>uP b (Q a))) (uP b (Q false)))) (uP c (Q false))) (uP c (Q false))) (uP c (Q false))) (uP c (Q false)))) (Br
 (c==2) (∃ b:Int,(I.cell 3)=D.j b/\kB 193 [.dg 9 I] a (λa c=>Br a (∃ a,(I.cell 1)=D.t a/\Br (ByteArray.toList a ==
 ByteArray.toList b0) (∃ a,(I.cell 2)=D.t a/\Br (ByteArray.toList a==ByteArray.toList b0) (∃ a:Int,(I.cell 3)=D.j a/\Br (a==b) (kB
 103 [.dg 2 (D.sub I 4 2),.dg 2 (D.ag [D.j 0,D.sl none 2 [] 0])] c (λa b=>Br a (kB 103 [.dg 2 (D.sub I 6 2),.dg 2 (D.ag [D.j 0,D.sl none 2 []
 0])] b (λa b=>uP b (Q a))) (uP b (Q false)))) (uP c (Q false))) (uP c (Q false))) (uP c (Q false))) (uP c (Q false)))) (Br (c==3)
 (∃ b:Int,(I.cell 3)=D.j b/\kB 193 [.dg 9 I] a (λa c=>Br a (∃ a,(I.cell 1)=D.t a/\Br (ByteArray.toList a==ByteArray.toList
 b0) (∃ a,(I.cell 2)=D.t a/\Br (ByteArray.toList a==ByteArray.toList b0) (∃ a:Int,(I.cell 3)=D.j a/\Br (a==b) (kB 103 [.dg 2 (D.sub
 I 4 2),.dg 2 (D.ag [D.j 0,D.sl none 2 [] 0])] c (λa b=>Br a (kB 103 [.dg 2 (D.sub I 6 2),.dg 2 (D.ag [D.j 0,D.sl none 2 [] 0])] b (fun
 a b=>uP b (Q a))) (uP b (Q false)))) (uP c (Q false))) (uP c (Q false))) (uP c (Q false))) (uP c (Q false)))) (Br (c==4) (∃ b,
 (I.cell 1)=D.t b/\kB 193 [.dg 9 I] a (λa c=>Br a (∃ a,(I.cell 1)=D.t a/\Br (ByteArray.toList a==ByteArray.toList b) (∃
 a,(I.cell 2)=D.t a/\Br (ByteArray.toList a==ByteArray.toList b0) (∃ a:Int,(I.cell 3)=D.j a/\Br (a==0) (kB 103 [.dg 2 (D.sub I 4
 2),.dg 2 (D.ag [D.j 0,D.sl none 2 [] 0])] c (λa b=>Br a (kB 103 [.dg 2 (D.sub I 6 2),.dg 2 (D.ag [D.j 0,D.sl none 2 [] 0])] b (λa
 b=>uP b (Q a))) (uP b (Q false)))) (uP c (Q false))) (uP c (Q false))) (uP c (Q false))) (uP c (Q false)))) (Br (c==6) (∃ b,(I.cell
 1)=D.t b/\kB 193 [.dg 9 I] a (λa c=>Br a (∃ a,(I.cell 1)=D.t a/\Br (ByteArray.toList a==ByteArray.toList b) (∃ a,
 (I.cell 2)=D.t a/\Br (ByteArray.toList a==ByteArray.toList b0) (∃ a:Int,(I.cell 3)=D.j a/\Br (a==0) (kB 103 [.dg 2 (D.sub I 4 2),
 .dg 2 (D.ag [D.cell (D.sub I 4 2) 0,D.cell (D.sub I 4 2) 1])] c (λa b=>Br a (kB 103 [.dg 2 (D.sub I 6 2),.dg 2 (D.ag [D.j 0,D.sl none 2 []
 0])] b (λa b=>uP b (Q a))) (uP b (Q false)))) (uP c (Q false))) (uP c (Q false))) (uP c (Q false))) (uP c (Q false)))) (Br (c==9)
 (∃ b,(I.cell 1)=D.t b/\∃ c,(I.cell 2)=D.t c/\kB 193 [.dg 9 I] a (λa d=>Br a (∃ a,(I.cell 1)=D.t a/\Br
 (ByteArray.toList a==ByteArray.toList b) (∃ a,(I.cell 2)=D.t a/\Br (ByteArray.toList a==ByteArray.toList c) (∃ a:Int,(I.cell
 3)=D.j a/\Br (a==0) (kB 103 [.dg 2 (D.sub I 4 2),.dg 2 (D.ag [D.cell (D.sub I 4 2) 0,D.cell (D.sub I 4 2) 1])] d (λa b=>Br a (kB
 103 [.dg 2 (D.sub I 6 2),.dg 2 (D.ag [D.cell (D.sub I 6 2) 0,D.cell (D.sub I 6 2) 1])] b (λa b=>uP b (Q a))) (uP b (Q false)))) (uP d
 (Q false))) (uP d (Q false))) (uP d (Q false))) (uP d (Q false)))) (kB 193 [.dg 9 I] a (λa b=>Br a (∃ a,(I.cell 1)=D.t a/\Br
 (ByteArray.toList a==ByteArray.toList b0) (∃ a,(I.cell 2)=D.t a/\Br (ByteArray.toList a==ByteArray.toList b0) (∃ a:Int,(I.cell 3) =
 D.j a/\Br (a==0) (kB 103 [.dg 2 (D.sub I 4 2),.dg 2 (D.ag [D.j 0,D.sl none 2 [] 0])] b (λa b=>Br a (kB 103 [.dg 2 (D.sub I 6 2),.dg
 2 (D.ag [D.j 0,D.sl none 2 [] 0])] b (λa b=>uP b (Q a))) (uP b (Q false)))) (uP b (Q false))) (uP b (Q false))) (uP b (Q false))) (uP
 b (Q false))))))))))))):ACalls prog 170 [.bool] [PV.dg 9 I] N Q:=
  eE zJn h
theorem zJa (N:Nat) (I:D) (Q:QT [.bool]) (h :
Bel N I->kB 97 [.dg 9 I,.fn 170 []] N (λb a=>uP a (Q b))):ACalls prog 138 [.bool] [PV.dg 9 I] N Q:=
 eE zIe h
theorem zDE (N:Nat) (I:D) (n1:Int) (Q:QT [.bool]) (h :
Bel N I->kB 99 [.j n1,.j 0,.j 2] N (λb a=>uP a (Q b))):ACalls prog 175 [.bool] [PV.dg 9 I,PV.int .i64 n1] N Q:=
 eE H0 h
theorem zEU (N:Nat) (x0:D) (n1:Int) (Q:QT [.int .i64]) (h :
Bel N x0->∃ n:Int,(x0.cell 0)=D.j n/\Br (n==10) (uP N (Q (IntKind.i64.wrap (n1+1)))) (Br (n==11) (uP N (Q (IntKind.i64.wrap (n1 - 1)))) (uP N
 (Q n1)))):ACalls prog 199 [.int .i64] [PV.dg 9 x0,PV.int .i64 n1] N Q:=
  eE H0 h
theorem zGT (N:Nat) (I:D) (n1:Int) (Q:QT [.bool]) (h :
Bel N I->kB 138 [.dg 9 I] N (λb a=>Br b (kB 174 [.dg 9 I,.j n1,.fn 175 []] a (λa b=>uP b (Q a))) (uP a (Q false)))):ACalls prog 141 [.bool] [PV.dg 9 I,PV.int .i64 n1] N Q:=
 eE zGD h
theorem zFL (N:Nat) (a0:Option Addr) (e0:List D) (I:Nat) (J:ByteArray) (Q:QT [.int .i64]) (h :
Bel N (D.sl a0 4 e0 I)->wZ Q N a0 e0 I J (IntKind.i64.wrap ((e0.length:Int) - 1)) N):ACalls prog 201 [.int .i64] [PV.sv a0 4 e0 I,PV.str J] N Q:=
 eE p4 h
theorem zF9 (N:Nat) (I:D) (Q:QT [.ag 2]) (h :
Bel N I->∃ n:Int,(I.cell 0)=D.j n/\∃ a b,∃ c:Nat,(I.cell 1)=D.sl a 2 b c/\uT Q N a b c (b.length:Int) 0 0 none [] 0 n
 none [] 0 N):ACalls prog 127 [.ag 2] [PV.dg 2 I] N Q:=
  eE tU h
theorem zKD (N:Nat)  (Q:QT [.ag 2]) (h :
uP N (Q (D.ag [D.j 1,D.sl none 2 [] 0]))):ACalls prog 202 [.ag 2] [] N Q:=
 eE H0 h
theorem zIT (N:Nat)  (Q:QT [.ag 2]) (h :
uP N (Q (D.ag [D.j 2,D.sl none 2 [] 0]))):ACalls prog 203 [.ag 2] [] N Q:=
 eE H0 h
theorem zIa (N:Nat) (s0:ByteArray) (a1:Option Addr) (e1:List D) (c1:Nat) (Q:QT [.ag 2]) (h :
Bel N (D.sl a1 2 e1 c1)->kA 2 202 [] N (λx a=>kA 2 202 [] a (λa b=>Br (ByteArray.toList s0==ByteArray.toList (bytes [61])) (kA 2 203 []
 b (λa b=>zj Q N a1 e1 c1 (e1.length:Int) 0 0 none [] 0 x a b)) (Br (ByteArray.toList s0==ByteArray.toList (bytes [60])) (kA 2 203
 [] b (λa b=>zj Q N a1 e1 c1 (e1.length:Int) 0 0 none [] 0 x a b)) (Br (ByteArray.toList s0==ByteArray.toList (bytes [38])) (kA 2
 203 [] b (λa b=>kA 2 203 [] b (λb c=>zj Q N a1 e1 c1 (e1.length:Int) 0 0 none [] 0 a b c))) (Br (ByteArray.toList s0
 == ByteArray.toList (bytes [124])) (kA 2 203 [] b (λa b=>kA 2 203 [] b (λb c=>zj Q N a1 e1 c1 (e1.length:Int) 0 0 none [] 0
 a b c))) (Br (ByteArray.toList s0==ByteArray.toList (bytes [33])) (kA 2 203 [] b (λa b=>kA 2 203 [] b (λb c=>zj Q N
 a1 e1 c1 (e1.length:Int) 0 0 none [] 0 a b c))) (zj Q N a1 e1 c1 (e1.length:Int) 0 0 none [] 0 x a b)))))))):ACalls prog 204 [.ag 2] [PV.str s0,PV.sv a1 2 e1 c1] N Q:=
  eE zBt h
theorem pR (N:Nat) (a0:Option Addr) (e0:List D) (I:Nat) (Q:QT [.row 127 4]) (h :
Bel N (D.sl a0 4 e0 I)->Br (Option.isNone a0) (uP N (Q [] 0)) ((0=0/\0=0)/\zB [] e0 56/\∀ (c:Nat),(([]++e0).length=([]++e0).length /\
 c=c)/\uP N (Q ([]++e0) c))):ACalls prog 219 [.row 127 4] [PV.sv a0 4 e0 I] N Q:=
  eE H0 h
theorem zMG (N:Nat) (a0:Option Addr) (e0:List D) (I:Nat) (a1:Option Addr) (e1:List D) (c1:Nat) (Q:QT [.sl 4]) (h :
Bel N (D.sl a0 4 e0 I)->Bel N (D.sl a1 4 e1 c1)->∀ b,N<=b->ACalls prog 219 [.row 127 4] [.sv a0 4 e0 I] b (λc d e=>b<=e->Bel e (D.ag
 c)->(c.length=c.length/\d=d)/\zB c e1 56/\∀ (b:Nat),w2 ((c++e1).length=(c++e1).length/\b=b) (∀ a d,e<=d->Fresh N d a
 [D.ag (c++e1)]->uP d (Q a (c++e1) b)))):ACalls prog 205 [.sl 4] [PV.sv a0 4 e0 I,PV.sv a1 4 e1 c1] N Q:=
  eE H0 h
theorem zJ7 (N:Nat) (I J:D) (Q:QT [.ag 2]) (h :
Bel N I->Bel N J->kA 2 127 [.dg 2 I] N (λx b=>kA 2 127 [.dg 2 J] b (λb c=>w3 (2=([x,b]).length/\2=2) (∀ a d,c<=d->Fresh
 N d a [D.ag [x,b]]->uP d (Q (D.ag [D.j 3,D.sl a 2 [x,b] 2])))))):ACalls prog 206 [.ag 2] [PV.dg 2 I,PV.dg 2 J] N Q:=
  eE zLE h
theorem zJK (N:Nat) (I:D) (Q:QT [.ag 2]) (h :
Bel N I->kA 2 127 [.dg 2 I] N (λx b=>w3 (1=([x]).length/\1=1) (∀ a c,b<=c->Fresh N c a [D.ag [x]]->uP c (Q (D.ag [D.j 4,D.sl a 2
 [x] 1]))))):ACalls prog 220 [.ag 2] [PV.dg 2 I] N Q:=
  eE zIN h
theorem zI7 (N:Nat) (I:D) (Q:QT [.ag 2]) (h :
Bel N I->∃ n:Int,(I.cell 0)=D.j n/\Br (bne n 4) (uP N (Q (D.ag [D.j 0,D.sl none 2 [] 0]))) (∃ a b,∃ c:Nat,(I.cell 1)=D.sl a 2 b c/\((0
 : Int)<=(0:Int)/\0<(b.length:Int))/\kA 2 127 [.dg 2 (List.getD b 0 default)] N (λx a=>uP a (Q x)))):ACalls prog 221 [.ag 2] [PV.dg 2 I] N Q:=
  eE zJE h
theorem zJU (N:Nat) (x0:D) (Q:QT [.bool]) (h :
Bel N x0->∃ n:Int,(x0.cell 0)=D.j n/\kB 99 [.j n,.j 1,.j 2] N (fun b d=>Br b (∃ a b,∃ c:Nat,(x0.cell 1)=D.sl a 2 b c/\uP d (Q
 ((b.length:Int)==0))) (uP d (Q false)))):ACalls prog 136 [.bool] [PV.dg 2 x0] N Q:=
  eE H0 h
theorem zHO (N:Nat) (a0:Option Addr) (e0:List D) (I:Nat) (n1:Int) (Q:QT [.sl 4]) (h :
Bel N (D.sl a0 4 e0 I)->yX Q N a0 e0 I n1 0 0 a0 e0 I (e0.length:Int) 0 [] 0 N):ACalls prog 222 [.sl 4] [PV.sv a0 4 e0 I,PV.int .i64 n1] N Q:=
 eE zAy h
theorem zEa (N:Nat) (a0:Option Addr) (e0:List D) (J:Nat) (I:D) (n2:Int) (Q:QT [.ag 2]) (h :
Bel N (D.sl a0 4 e0 J)->Bel N I->∃ n:Int,(I.cell 0)=D.j n/\Br (n==10) (∃ a b,∃ c:Nat,(I.cell 8)=D.sl a 9 b c/\((0:Int)<=(0:Int)
 /\ 0<(b.length:Int))/\kA 2 142 [.sv a0 4 e0 J,.dg 9 (List.getD b 0 default),.j (IntKind.i64.wrap (n2+1))] N (λx a=>∃ b:Int,(x.cell 0) =
 D.j b/\Br (bne b 0) (kA 2 220 [.dg 2 x] a (λa b=>uP b (Q a))) (uP a (Q (D.ag [D.j 0,D.sl none 2 [] 0]))))) (Br (n==11) (∃ a b,∃ c :
 Nat,(I.cell 8)=D.sl a 9 b c/\((0:Int)<=(0:Int)/\0<(b.length:Int))/\kA 2 142 [.sv a0 4 e0 J,.dg 9 (List.getD b 0 default),.j
 (IntKind.i64.wrap (n2 - 1))] N (λa b=>kA 2 221 [.dg 2 a] b (λa b=>uP b (Q a)))) (Br (n==12) (∃ a b,∃ c:Nat,(I.cell 8) =
 D.sl a 9 b c/\((0:Int)<=(0:Int)/\0<(b.length:Int))/\kL 4 222 [.sv a0 4 e0 J,.j n2] N (λa c d e=>kA 2 142 [.sv a 4 c
 d,.dg 9 (List.getD b 0 default),.j n2] e (λa b=>kA 2 221 [.dg 2 a] b (λa b=>uP b (Q a))))) (Br (n==13) (∃ a c,∃ d :
 Nat,(I.cell 8)=D.sl a 9 c d/\((0:Int)<=(0:Int)/\0<(c.length:Int))/\kA 2 142 [.sv a0 4 e0 J,.dg 9 (List.getD c 0 default),.j n2]
 N (λa c=>kB 136 [.dg 2 a] c (λb c=>Br b (kA 2 220 [.dg 2 a] c (λa b=>uP b (Q a))) (uP c (Q (D.ag [D.j 0,D.sl none 2 []
 0])))))) (uP N (Q (D.ag [D.j 0,D.sl none 2 [] 0]))))))):ACalls prog 207 [.ag 2] [PV.sv a0 4 e0 J,PV.dg 9 I,PV.int .i64 n2] N Q:=
  eE zEC h
theorem zq (N:Nat) (a0:Option Addr) (e0:List D) (c0:Nat) (x1:D) (n2:Int) (Q:QT [.ag 2]) (h :
Bel N (D.sl a0 4 e0 c0)->Bel N x1->∃ n:Int,(x1.cell 0)=D.j n/\Br (n==1) (∃ s,(x1.cell 1)=D.t s/\kI 201 [.sv a0 4 e0 c0,.str s] N (fun a b
 => Br (decide (a≥0)) ((0<=a/\a<(e0.length:Int))/\∃ c:Int,(if 0=0 then D.cell (List.getD e0 a.toNat default) 3 else D.sub (List.getD e0
 a.toNat default) 3 0)=D.j c/\Br (c==n2) ((0<=a/\a<(e0.length:Int))/\kA 2 127 [.dg 2 (if 2=0 then D.cell (List.getD e0 a.toNat default)
 1 else D.sub (List.getD e0 a.toNat default) 1 2)] b (fun x a=>uP a (Q x))) (uP b (Q (D.ag [D.j 0,D.sl none 2 [] 0])))) (uP b (Q (D.ag [D.j 0,D.sl
 none 2 [] 0]))))) (Br (n==2) (kA 2 202 [] N (fun a b=>uP b (Q a))) (Br (n==3) (kA 2 203 [] N (fun a b=>uP b (Q a))) (Br (n==4) (∃ a b,
 ∃ c:Nat,(x1.cell 8)=D.sl a 9 b c/\yz Q N 0 0 (b.length:Int) 0 x1 0 none [] 0 a0 e0 c0 n2 [] 0 N) (Br (n==5) (∀ a,ApA (Option.some
 a) [D.sl a0 4 e0 c0]->∀ c,ApA (Option.some c) [x1]->∀ d,ApA (Option.some d) [D.j n2]->∀ e,N<=e->wa e [Option.some a,Option.some
 c,Option.some d]->ACalls prog 200 [.ag 2] [.j 1,.pd a 0 (D.sl a0 4 e0 c0),.pd c 9 x1,.pd d 0 (D.j n2)] e (fun f g=>e<=g->Off
 [Option.some a,Option.some c,Option.some d] f/\(Bel g f->∀ a,ApA (Option.some a) [D.sl a0 4 e0 c0]->∀ c,ApA (Option.some c) [x1]
 -> ∀ d,ApA (Option.some d) [D.j n2]->∀ e,g<=e->wa e [Option.some a,Option.some c,Option.some d]->ACalls prog 200 [.ag 2] [.j 2,
 .pd a 0 (D.sl a0 4 e0 c0),.pd c 9 x1,.pd d 0 (D.j n2)] e (fun g h=>e<=h->Off [Option.some a,Option.some c,Option.some d] g
 /\ (Bel h g->∀ a,ApA (Option.some a) [D.sl a0 4 e0 c0]->∀ c,ApA (Option.some c) [x1]->∀ d,ApA (Option.some d) [D.j n2]->∀ e,h <=
 e->wa e [Option.some a,Option.some c,Option.some d]->ACalls prog 200 [.ag 2] [.j 0,.pd a 0 (D.sl a0 4 e0 c0),.pd c 9 x1,.pd d 0
 (D.j n2)] e (fun h i=>e<=i->Off [Option.some a,Option.some c,Option.some d] h/\(Bel i h->kA 2 203 [] i (fun a c=>kB 103
 [.dg 2 h,.dg 2 a] c (fun b a=>Br b (kB 103 [.dg 2 f,.dg 2 g] a (fun a b=>Br a (uP b (Q f)) (uP b (Q (D.ag [D.j 0,D.sl none 2 []
 0]))))) (uP a (Q (D.ag [D.j 0,D.sl none 2 [] 0])))))))))))) (Br (n==7) (∀ a,ApA (Option.some a) [D.sl a0 4 e0 c0]->∀ b,ApA (Option.some b)
 [x1]->∀ c,ApA (Option.some c) [D.j n2]->∀ d,N<=d->wa d [Option.some a,Option.some b,Option.some c]->ACalls prog 200 [.ag 2]
 [.j 0,.pd a 0 (D.sl a0 4 e0 c0),.pd b 9 x1,.pd c 0 (D.j n2)] d (fun e f=>d<=f->Off [Option.some a,Option.some b,Option.some
 c] e/\(Bel f e->∀ a,ApA (Option.some a) [D.sl a0 4 e0 c0]->∀ b,ApA (Option.some b) [x1]->∀ c,ApA (Option.some c) [D.j
 n2]->∀ d,f<=d->wa d [Option.some a,Option.some b,Option.some c]->ACalls prog 200 [.ag 2] [.j 1,.pd a 0 (D.sl a0 4 e0 c0),.pd
 b 9 x1,.pd c 0 (D.j n2)] d (fun f g=>d<=g->Off [Option.some a,Option.some b,Option.some c] f/\(Bel g f->∃ a :
 Int,(e.cell 0)=D.j a/\Br (a==3) (∃ a b,∃ c:Nat,(e.cell 1)=D.sl a 2 b c/\((0:Int)<=(0:Int)/\0<(b.length:Int)) /\
 kB 103 [.dg 2 (List.getD b 0 default),.dg 2 f] g (fun a b=>Br a (∃ a c,∃ d:Nat,(e.cell 1)=D.sl a 2 c d/\((0:Int)<=(1 :
 Int)/\1<(c.length:Int))/\kA 2 127 [.dg 2 (List.getD c 1 default)] b (fun a b=>uP b (Q a))) (uP b (Q (D.ag [D.j 0,D.sl none 2 []
 0]))))) (uP g (Q (D.ag [D.j 0,D.sl none 2 [] 0])))))))) (Br (n==6) (∃ a,(x1.cell 1)=D.t a/\∃ b c,∃ d:Nat,(x1.cell 8)=D.sl b 9 c
 d/\((0:Int)<=(0:Int)/\0<(c.length:Int))/\(1=([D.ag [D.t a,D.cell (D.sub x1 4 2) 0,D.cell (D.sub x1 4 2) 1,D.j n2]]).length/\1=1)/\∀
 b,ApA b [D.ag [D.t a,D.cell (D.sub x1 4 2) 0,D.cell (D.sub x1 4 2) 1,D.j n2]]->Off [b] (D.sl a0 4 e0 c0)->∀ d,N<=d->wa d [b]->ACalls
 prog 205 [.sl 4] [.sv a0 4 e0 c0,.sv b 4 [D.ag [D.t a,D.cell (D.sub x1 4 2) 0,D.cell (D.sub x1 4 2) 1,D.j n2]] 1] d (fun a e f g=>d<=g
 -> Off [b] (D.sl a 4 e f)/\(Bel g (D.sl a 4 e f)->kA 2 142 [.sv a 4 e f,.dg 9 (List.getD c 0 default),.j n2] g (fun a b=>
 ∃ c:Int,(a.cell 0)=D.j c/\Br (c==0) (uP b (Q (D.ag [D.j 0,D.sl none 2 [] 0]))) (kA 2 206 [.dg 2 (D.sub x1 4 2),.dg 2 a] b (fun a
 b=>uP b (Q a))))))) (Br (n==8) (∀ a,ApA (Option.some a) [D.sl a0 4 e0 c0]->∀ b,ApA (Option.some b) [x1]->∀ c,ApA
 (Option.some c) [D.j n2]->∀ d,N<=d->wa d [Option.some a,Option.some b,Option.some c]->ACalls prog 200 [.ag 2] [.j 0,.pd a 0
 (D.sl a0 4 e0 c0),.pd b 9 x1,.pd c 0 (D.j n2)] d (fun e f=>d<=f->Off [Option.some a,Option.some b,Option.some c] e /\
 (Bel f e->∃ a:Int,(e.cell 0)=D.j a/\Br (a==0) (uP f (Q (D.ag [D.j 0,D.sl none 2 [] 0]))) (∃ a,(x1.cell 1)=D.t a/\∃ b c,∃
 d:Nat,(x1.cell 8)=D.sl b 9 c d/\((0:Int)<=(1:Int)/\1<(c.length:Int))/\(1=([D.ag [D.t a,(e.cell 0),(e.cell 1),D.j
 n2]]).length/\1=1)/\∀ b,ApA b [D.ag [D.t a,(e.cell 0),(e.cell 1),D.j n2]]->Off [b] (D.sl a0 4 e0 c0)->∀ d,f<=d->wa d [b]
 -> ACalls prog 205 [.sl 4] [.sv a0 4 e0 c0,.sv b 4 [D.ag [D.t a,(e.cell 0),(e.cell 1),D.j n2]] 1] d (fun a e f g=>d<=g->Off
 [b] (D.sl a 4 e f)/\(Bel g (D.sl a 4 e f)->kA 2 142 [.sv a 4 e f,.dg 9 (List.getD c 1 default),.j n2] g (fun a b=>uP
 b (Q a)))))))) (Br (n==9) (kA 2 206 [.dg 2 (D.sub x1 4 2),.dg 2 (D.sub x1 6 2)] N (fun a b=>∃ c,(x1.cell 1)=D.t c/\∃ d,(x1.cell 2) =
 D.t d/\∃ e f,∃ g:Nat,(x1.cell 8)=D.sl e 9 f g/\((0:Int)<=(0:Int)/\0<(f.length:Int))/\(2=([D.ag [D.t c,(a.cell 0),
 (a.cell 1),D.j n2],D.ag [D.t d,D.cell (D.sub x1 4 2) 0,D.cell (D.sub x1 4 2) 1,D.j n2]]).length/\2=2)/\∀ e,ApA e [D.ag [D.t c,(a.cell
 0),(a.cell 1),D.j n2],D.ag [D.t d,D.cell (D.sub x1 4 2) 0,D.cell (D.sub x1 4 2) 1,D.j n2]]->Off [e] (D.sl a0 4 e0 c0)->∀ g,b<=g->wa
 g [e]->ACalls prog 205 [.sl 4] [.sv a0 4 e0 c0,.sv e 4 [D.ag [D.t c,(a.cell 0),(a.cell 1),D.j n2],D.ag [D.t d,D.cell (D.sub x1 4 2) 0,
 D.cell (D.sub x1 4 2) 1,D.j n2]] 2] g (fun b c d h=>g<=h->Off [e] (D.sl b 4 c d)/\(Bel h (D.sl b 4 c d)->kA 2 142
 [.sv b 4 c d,.dg 9 (List.getD f 0 default),.j n2] h (fun b c=>kB 103 [.dg 2 b,.dg 2 (D.sub x1 6 2)] c (fun b c=>Br b (uP c
 (Q a)) (uP c (Q (D.ag [D.j 0,D.sl none 2 [] 0]))))))))) (kA 2 207 [.sv a0 4 e0 c0,.dg 9 x1,.j n2] N (fun a b=>uP b (Q a)))))))))))):ACalls prog 176 [.ag 2] [PV.sv a0 4 e0 c0,PV.dg 9 x1,PV.int .i64 n2] N Q:=
  eE qt h
theorem zKK (N:Nat) (a0:Option Addr) (e0:List D) (I:Nat) (J:D) (n2:Int) (Q:QT [.ag 2]) (h :
Bel N (D.sl a0 4 e0 I)->Bel N J->kA 2 176 [.sv a0 4 e0 I,.dg 9 J,.j n2] N (λx a=>kB 173 [.dg 2 x] a (λb a=>Br (!b) (uP a (Q (D.ag
 [D.j 0,D.sl none 2 [] 0]))) (uP a (Q x))))):ACalls prog 142 [.ag 2] [PV.sv a0 4 e0 I,PV.dg 9 J,PV.int .i64 n2] N Q:=
  eE zK9 h
theorem zId (N:Nat) (a0:Option Addr) (e0:List D) (c0:Nat) (x1:D) (n2:Int) (Q:QT [.ag 2,.bool]) (h :
Bel N (D.sl a0 4 e0 c0)->Bel N x1->kB 140 [.sv a0 4 e0 c0] N (fun b a=>Br (!b) (uP a (Q (D.ag [D.j 0,D.sl none 2 [] 0]) false)) (kB 141 [.dg 9 x1,
 .j n2] a (fun a b=>Br (!a) (uP b (Q (D.ag [D.j 0,D.sl none 2 [] 0]) false)) (kA 2 142 [.sv a0 4 e0 c0,.dg 9 x1,.j n2] b (fun x a=>∃ n:Int,
 (x.cell 0)=D.j n/\uP a (Q x (bne n 0)))))))):ACalls prog 102 [.ag 2,.bool] [PV.sv a0 4 e0 c0,PV.dg 9 x1,PV.int .i64 n2] N Q:=
  eE zJg h
theorem uf (Q:QT [.int .i64]) (N0:Nat) (a0:Option Addr) (e0:List D) (c0:Nat) (J:ByteArray) (O I:Int) (N:Nat) (h :
Br (decide (I<O)) ((0<=I/\I<(e0.length:Int))/\∃ s,List.getD e0 I.toNat default=D.t s/\Br (ByteArray.toList J==ByteArray.toList s) (uP
 N (Q I)) (y4 Q N0 a0 e0 c0 J O (IntKind.i64.wrap (I+1)) N)) (uP N (Q (-1)))):y4 Q N0 a0 e0 c0 J O I N:=
  hE tV h
theorem pX (Q:QT [.bool]) (N0:Nat) (s0:ByteArray) (J I:Int) (N:Nat) (h :
Br (decide (I<J)) ((0<=I/\I<(s0.size:Int))/\Br (decide ((UInt8.toNat (Array.getD (ByteArray.data s0) I.toNat (OfNat.ofNat 0)):Int)≥97))
 ((0<=I/\I<(s0.size:Int))/\Br (!(decide ((UInt8.toNat (Array.getD (ByteArray.data s0) I.toNat (OfNat.ofNat 0)):Int)<=122))) (Br (I==0) (uP N (Q
 false)) ((0<=I/\I<(s0.size:Int))/\Br (decide ((UInt8.toNat (Array.getD (ByteArray.data s0) I.toNat (OfNat.ofNat 0)):Int)<48)) (uP N (Q false)) ((0
 <= I/\I<(s0.size:Int))/\Br (decide ((UInt8.toNat (Array.getD (ByteArray.data s0) I.toNat (OfNat.ofNat 0)):Int)>57)) (uP N (Q false))
 (xV Q N0 s0 J (IntKind.i64.wrap (I+1)) N)))) (xV Q N0 s0 J (IntKind.i64.wrap (I+1)) N)) (Br (I==0) (uP N (Q false)) ((0 <=
 I/\I<(s0.size:Int))/\Br (decide ((UInt8.toNat (Array.getD (ByteArray.data s0) I.toNat (OfNat.ofNat 0)):Int)<48)) (uP N (Q false)) ((0<=I/\I <
 (s0.size:Int))/\Br (decide ((UInt8.toNat (Array.getD (ByteArray.data s0) I.toNat (OfNat.ofNat 0)):Int)>57)) (uP N (Q false)) (xV Q N0 s0 J
 (IntKind.i64.wrap (I+1)) N))))) (kB 99 [.j (s0.size:Int),.j 1,.j 4] N (λb c=>Br b ((5=5/\5=5)/\∀ a,ApA a [D.t (bytes [105,102]),D.t (bytes
 [108,101,116]),D.t (bytes [108,105,102,116]),D.t (bytes [114,101,99]),D.t (bytes [114,117,110])]->∀ b,c<=b->wa b [a]->ACalls prog 117
 [.bool] [.sv a 0 [D.t (bytes [105,102]),D.t (bytes [108,101,116]),D.t (bytes [108,105,102,116]),D.t (bytes [114,101,99]),D.t (bytes [114,117,
 110])] 5,.str s0] b (λa c=>b<=c->uP c (Q (!a)))) (uP c (Q false))))):xV Q N0 s0 J I N:=
  hE zCc h
theorem tc (Q:QT [.int .i64]) (N0:Nat) (n3:Int) (a7:Option Addr) (e7:List D) (c7:Nat) (n8 n9:Int) (N:Nat) (h :
Br (decide (n9<n8)) ((0<=n9/\n9<(e7.length:Int))/\kI 195 [.dg 2 (List.getD e7 n9.toNat default)] N (fun n a=>xb Q N0
 (IntKind.i64.wrap (n3+n)) a7 e7 c7 n8 (IntKind.i64.wrap (n9+1)) a)) (uP N (Q n3))):xb Q N0 n3 a7 e7 c7 n8 n9 N:=
  hE sy h
theorem tC (Q:QT [.int .i64]) (N0:Nat) (n3:Int) (a7:Option Addr) (J:List D) (c7:Nat) (O I:Int) (N:Nat) (h :
Br (decide (I<O)) ((0<=I/\I<(J.length:Int))/\kI 196 [.dg 2 (List.getD J I.toNat default)] N (λn a=>xI Q N0 (if n >
 n3 then n else n3) a7 J c7 O (IntKind.i64.wrap (I+1)) a)) (uP N (Q (IntKind.i64.wrap (n3+1)))) ):xI Q N0 n3 a7 J c7 O I N:=
  hE sa h
theorem zB3 (N:Nat) (x0:D) (Q:QT [.bool]) (h :
Bel N x0->kB 198 [.dg 2 x0] N (fun b d=>Br b (∃ a b,∃ c:Nat,(x0.cell 1)=D.sl a 2 b c/\∀ e,ApA (Option.some e) [D.fn (OfNat.ofNat 198) []] ->
 Off [Option.some e] (D.sl a 2 b c)->∀ f,d<=f->wa f [Option.some e]->ACalls prog 217 [.bool] [.sv a 2 b c,.fn 218 [.pd e 0 (.fn 198 [])]] f
 (fun a b=>f<=b->uP b (Q (!a)))) (uP d (Q false)))):ACalls prog 197 [.bool] [.dg 2 x0,.fn 198 []] N Q:=
  eE zE7 h
theorem uV (N:Nat) (a0:Option Addr) (e0:List D) (I:Nat) (Q:QT [.bool]) (h :
Bel N (D.sl a0 4 e0 I)->kI 194 [.sv a0 4 e0 I,.fn 172 []] N (λn a=>uP a (Q (decide (n≥0))))):ACalls prog 171 [.bool] [.sv a0 4 e0 I,.fn 172 []] N Q:=
 eE H0 h
theorem t6 (N:Nat) (a0:Option Addr) (e0:List D) (I:Nat) (a1:Option Addr) (e1:List D) (c1:Nat) (Q:QT [.bool]) (h :
Bel N (D.sl a0 2 e0 I)->Bel N (D.sl a1 2 e1 c1)->Br (bne (e0.length:Int) (e1.length:Int)) (uP N (Q false)) (zo Q N a1 e1 c1
 a0 e0 I (e0.length:Int) 0 N)):ACalls prog 143 [.bool] [.sv a0 2 e0 I,.sv a1 2 e1 c1,.fn 103 []] N Q:=
  eE uE h
theorem zBy (N:Nat) (I:D) (Q:QT [.bool]) (h :
Bel N I->kB 170 [.dg 9 I] N (λb d=>Br b (∃ a b,∃ c:Nat,(I.cell 8)=D.sl a 9 b c/\∀ e,ApA (Option.some e) [D.fn (OfNat.ofNat 170) []] ->
 Off [Option.some e] (D.sl a 9 b c)->∀ f,d<=f->wa f [Option.some e]->ACalls prog 62 [.bool] [.sv a 9 b c,.fn 134 [.pd e 0 (.fn 170 [])]] f (fun
 a b=>f<=b->uP b (Q (!a)))) (uP d (Q false)))):ACalls prog 97 [.bool] [.dg 9 I,.fn 170 []] N Q:=
  eE zFM h
theorem zEV (N:Nat) (I:D) (n1:Int) (Q:QT [.bool]) (h :
Bel N I->kB 175 [.dg 9 I,.j n1] N (λb d=>Br (!b) (uP d (Q false)) (∃ a b,∃ c:Nat,(I.cell 8)=D.sl a 9 b c/\v7 Q N n1 a b
 c (b.length:Int) 0 I d))):ACalls prog 174 [.bool] [.dg 9 I,.int .i64 n1,.fn 175 []] N Q:=
  eE zCn h
theorem rH (Q:QT [.int .i64]) (N0:Nat) (a0:Option Addr) (e0:List D) (c0:Nat) (s1:ByteArray) (n5:Int) (N:Nat) (h :
Br (decide (n5≥0)) ((0<=n5/\n5<(e0.length:Int))/\∃ s,(if 0=0 then D.cell (List.getD e0 n5.toNat default) 0 else D.sub (List.getD e0 n5.toNat
 default) 0 0)=D.t s/\Br (ByteArray.toList s==ByteArray.toList s1) (uP N (Q n5)) (wZ Q N0 a0 e0 c0 s1 (IntKind.i64.wrap (n5 - 1)) N)) (uP N
 (Q (-1)))):wZ Q N0 a0 e0 c0 s1 n5 N:=
  hE p4 h
theorem rN (Q:QT [.ag 2]) (N0:Nat) (al:Option Addr) (ac:List D) (am:Nat) (ak J ae:Int) (ah:Option Addr) (ai:List D) (aj:Nat) (O:Int) (aa:Option Addr) (I:List D) (ab:Nat) (N:Nat) (h :
Br (decide (J<ak)) ((0<=J/\J<(ac.length:Int))/\kA 2 127 [.dg 2 (List.getD ac J.toNat default)] N (λx a=>zUN aa I ab [x] /\
 zB I [x] 32/\∀ (c:Nat),xF Q N0 al ac am ak (IntKind.i64.wrap (J+1)) ae ah ai aj O (I++[x]).length c (I
 ++ [x]) c a)) (uP N (Q (D.ag [D.j O,D.sl aa 2 I ab])))):uT Q N0 al ac am ak J ae ah ai aj O aa I ab N:=
  hE tU h
theorem qa (Q:QT [.ag 2]) (N0:Nat) (a22:Option Addr) (e22:List D) (c22:Nat) (n23 n24 n0_0:Int) (a0_1:Option Addr) (e0_1:List D) (c0_1:Nat) (y1 y2:D) (N:Nat) (h :
Br (decide (n24<n23)) ((0<=n24/\n24<(e22.length:Int))/\kB 103 [.dg 2 (List.getD e22 n24.toNat default),.dg 2 y1] N (fun b a=>Br (!b) (uP a (Q
 (D.ag [D.j 0,D.sl none 2 [] 0]))) (zj Q N0 a22 e22 c22 n23 (IntKind.i64.wrap (n24+1)) n0_0 a0_1 e0_1 c0_1 y1 y2 a))) (uP N (Q y2))):zj Q N0 a22 e22 c22 n23 n24 n0_0 a0_1 e0_1 c0_1 y1 y2 N:=
  hE zBt h
theorem qZ (Q:QT [.sl 4]) (N0:Nat) (a0:Option Addr) (e0:List D) (c0:Nat) (n1:Int) (m5 c5:Nat) (a9:Option Addr) (J:List D) (c9:Nat) (n10 I:Int) (r0:List D) (O:Nat) (N:Nat) (h :
Br (decide (I<n10)) ((0<=I/\I<(J.length:Int))/\kB 136 [.dg 2 (D.sub (List.getD J I.toNat default) 1 2)] N (λb a=>Br b (∃ n:Int,
 D.cell (List.getD J I.toNat default) 3=D.j n/\Br (decide (n<=n1)) (∃ s,D.cell (List.getD J I.toNat default) 0=D.t s/\kI 201 [.sv a0 4 e0 c0,.str
 s] a (λa b=>Br (a==I) (∃ a,D.cell (List.getD J I.toNat default) 0=D.t a/\∃ d:Int,D.cell (List.getD J I.toNat default) 3=D.j
 d/\kA 2 127 [.dg 2 (D.sub (List.getD J I.toNat default) 1 2)] b (λx b=>(m5=r0.length/\c5=O)/\zB r0 [D.ag [D.t a,(x.cell 0),(x.cell
 1),D.j d]] 56/\∀ (c:Nat),yX Q N0 a0 e0 c0 n1 (r0++[D.ag [D.t a,(x.cell 0),(x.cell 1),D.j d]]).length c a9 J c9 n10
 (IntKind.i64.wrap (I+1)) (r0++[D.ag [D.t a,(x.cell 0),(x.cell 1),D.j d]]) c b)) (yX Q N0 a0 e0 c0 n1 m5 c5 a9 J c9 n10
 (IntKind.i64.wrap (I+1)) r0 O b))) (yX Q N0 a0 e0 c0 n1 m5 c5 a9 J c9 n10 (IntKind.i64.wrap (I+1)) r0 O a)) (yX Q N0 a0
 e0 c0 n1 m5 c5 a9 J c9 n10 (IntKind.i64.wrap (I+1)) r0 O a))) (w3 (m5=r0.length/\c5=O) (∀ a b,N<=b->Fresh N0 b a [D.ag r0]->uP b (Q a r0
 O)))):yX Q N0 a0 e0 c0 n1 m5 c5 a9 J c9 n10 I r0 O N:=
  hE zAy h
theorem sS (Q:QT [.ag 2]) (N0:Nat) (m9 c9:Nat) (aj ab:Int) (y0:D) (ac:Int) (ae:Option Addr) (ah:List D) (ai:Nat) (I:Option Addr) (J:List D) (O:Nat) (aa:Int) (r4:List D) (q4:Nat) (N:Nat) (h :
Br (decide (ab<aj)) (∀ a,ApA (Option.some a) [D.sl I 4 J O]->∀ b,ApA (Option.some b) [y0]->∀ d,ApA (Option.some d) [D.j
 aa]->∀ e,N<=e->wa e [Option.some a,Option.some b,Option.some d]->ACalls prog 200 [.ag 2] [.j ab,.pd a 0 (D.sl I 4 J O),.pd
 b 9 y0,.pd d 0 (D.j aa)] e (λx f=>e<=f->Off [Option.some a,Option.some b,Option.some d] x/\(Bel f x->(m9=r4.length/\c9=q4)
 /\ zB r4 [x] 32/\∀ (c:Nat),yz Q N0 (r4++[x]).length c aj (IntKind.i64.wrap (ab+1)) y0 ac ae ah ai I J O aa (r4
 ++ [x]) c f))) (∃ s,(y0.cell 1)=D.t s/\(m9=r4.length/\c9=q4)/\∀ a,ApA a r4->∀ b,N<=b->wa b [a]->ACalls prog 204 [.ag 2] [.str s,.sv a 2
 r4 c9] b (λc d=>b<=d->Off [a] c/\(Bel d c->uP d (Q c))))):yz Q N0 m9 c9 aj ab y0 ac ae ah ai I J O aa r4 q4 N:=
  hE qt h
theorem zAg (N:Nat) (n0:Int) (a1:Addr) (x1_:D) (a2:Addr) (x2_:D) (a3:Addr) (x3_:D) (Q:QT [.ag 2]) (h :
∃ a b,∃ c:Nat,x1_=D.sl a 4 b c/\∃ d e,∃ f:Nat,(if 0=0 then (x2_.cell 8) else D.sub x2_ 8 0)=D.sl d 9 e f/\(0<=n0/\n0 <
 (e.length:Int))/\∃ n:Int,x3_=D.j n/\kA 2 142 [.sv a 4 b c,.dg 9 (List.getD e n0.toNat default),.j n] N (fun x a=>uP a (Q x))):ACalls prog 200 [.ag 2] [.int .i64 n0,.pd a1 0 x1_,.pd a2 9 x2_,.pd a3 0 x3_] N Q:=
  eE zC4 h
theorem ux (N:Nat) (a0:Option Addr) (e0:List D) (J:Nat) (I:Addr) (Q:QT [.bool]) (h :
Bel N (D.sl a0 2 e0 J)->kI 227 [.sv a0 2 e0 J,.fn 218 [.pd I 0 (.fn 198 [])]] N (λn a=>uP a (Q (decide (n≥0))))):ACalls prog 217 [.bool] [.sv a0 2 e0 J,.fn 218 [.pd I 0 (.fn 198 [])]] N Q:=
 eE H0 h
theorem tK (N:Nat) (a0:Option Addr) (e0:List D) (I:Nat) (Q:QT [.int .i64]) (h :
Bel N (D.sl a0 4 e0 I)->zx Q N a0 e0 I (e0.length:Int) 0 N):ACalls prog 194 [.int .i64] [.sv a0 4 e0 I,.fn 172 []] N Q:=
 eE wy h
theorem wq (Q:QT [.bool]) (N0:Nat) (a1:Option Addr) (e1:List D) (c1:Nat) (aa:Option Addr) (J:List D) (ab:Nat) (O I:Int) (N:Nat) (h :
Br (decide (I<O)) ((0<=I/\I<(J.length:Int))/\(0<=I/\I<(e1.length:Int))/\kB 103 [.dg 2 (List.getD J I.toNat default),.dg
 2 (List.getD e1 I.toNat default)] N (λb a=>Br (!b) (uP a (Q false)) (zo Q N0 a1 e1 c1 aa J ab O (IntKind.i64.wrap (I +
 1)) a))) (uP N (Q true))):zo Q N0 a1 e1 c1 aa J ab O I N:=
  hE uE h
theorem uu (N:Nat) (a0:Option Addr) (e0:List D) (J:Nat) (I:Addr) (Q:QT [.bool]) (h :
Bel N (D.sl a0 9 e0 J)->kI 105 [.sv a0 9 e0 J,.fn 134 [.pd I 0 (.fn 170 [])]] N (λn a=>uP a (Q (decide (n≥0))))):ACalls prog 62 [.bool] [.sv a0 9 e0 J,.fn 134 [.pd I 0 (.fn 170 [])]] N Q:=
 eE H0 h
theorem pA (Q:QT [.bool]) (N0:Nat) (n1:Int) (aa:Option Addr) (J:List D) (ab:Nat) (O I:Int) (y0:D) (N:Nat) (h :
Br (decide (I<O)) ((0<=I/\I<(J.length:Int))/\kI 199 [.dg 9 y0,.j n1] N (λn a=>kB 174 [.dg 9 (List.getD J I.toNat default),.j
 n,.fn 175 []] a (λb a=>Br (!b) (uP a (Q false)) (v7 Q N0 n1 aa J ab O (IntKind.i64.wrap (I+1)) y0 a)))) (uP N (Q true))):v7 Q N0 n1 aa J ab O I y0 N:=
  hE zCn h
theorem tD (Q:QT [.ag 2]) (N0:Nat) (a10:Option Addr) (e10:List D) (c10:Nat) (n11 n12 n0_0:Int) (a0_1:Option Addr) (e0_1:List D) (c0_1:Nat) (n1_0:Int) (m1_1 c1_1:Nat) (r2:List D) (q2:Nat) (N:Nat) (h :
Br (decide (n12<n11)) ((0<=n12/\n12<(e10.length:Int))/\kA 2 127 [.dg 2 (List.getD e10 n12.toNat default)] N (fun x a=>(m1_1=r2.length/\c1_1
 = q2)/\zB r2 [x] 32/\∀ (c:Nat),xF Q N0 a10 e10 c10 n11 (IntKind.i64.wrap (n12+1)) n0_0 a0_1 e0_1 c0_1 n1_0 (r2++[x]).length c
 (r2++[x]) c a)) (w3 (m1_1=r2.length/\c1_1=q2) (∀ a b,N<=b->Fresh N0 b a [D.ag r2]->uP b (Q (D.ag [D.j n1_0,D.sl a 2 r2 q2]))))):xF Q N0 a10 e10 c10 n11 n12 n0_0 a0_1 e0_1 c0_1 n1_0 m1_1 c1_1 r2 q2 N:=
  hE tU h
theorem sC (N:Nat) (a0:Option Addr) (e0:List D) (J:Nat) (I:Addr) (Q:QT [.int .i64]) (h :
Bel N (D.sl a0 2 e0 J)->yQ Q N a0 e0 J I (e0.length:Int) 0 N):ACalls prog 227 [.int .i64] [.sv a0 2 e0 J,.fn 218 [.pd I 0 (.fn 198 [])]] N Q:=
 eE uA h
theorem wQ (Q:QT [.int .i64]) (N0:Nat) (a0:Option Addr) (e0:List D) (c0:Nat) (n7 n8:Int) (N:Nat) (h :
Br (decide (n8<n7)) ((0<=n8/\n8<(e0.length:Int))/\kB 172 [.dg 4 (List.getD e0 n8.toNat default)] N (fun b a=>Br b (uP a (Q n8))
 (zx Q N0 a0 e0 c0 n7 (IntKind.i64.wrap (n8+1)) a))) (uP N (Q (-1)))):zx Q N0 a0 e0 c0 n7 n8 N:=
  hE wy h
theorem sD (N:Nat) (a0:Option Addr) (e0:List D) (J:Nat) (I:Addr) (Q:QT [.int .i64]) (h :
Bel N (D.sl a0 9 e0 J)->yR Q N a0 e0 J I (e0.length:Int) 0 N):ACalls prog 105 [.int .i64] [.sv a0 9 e0 J,.fn 134 [.pd I 0 (.fn 170 [])]] N Q:=
 eE va h
theorem wv (Q:QT [.int .i64]) (N0:Nat) (a0:Option Addr) (e0:List D) (c0:Nat) (I:Addr) (O J:Int) (N:Nat) (h :
Br (decide (J<O)) ((0<=J/\J<(e0.length:Int))/\kB 218 [.dg 2 (List.getD e0 J.toNat default),.pd I 0 (.fn 198 [])] N (λb a=>Br b (uP
 a (Q J)) (yQ Q N0 a0 e0 c0 I O (IntKind.i64.wrap (J+1)) a))) (uP N (Q (-1)))):yQ Q N0 a0 e0 c0 I O J N:=
  hE uA h
theorem wr (Q:QT [.int .i64]) (N0:Nat) (a0:Option Addr) (e0:List D) (c0:Nat) (I:Addr) (O J:Int) (N:Nat) (h :
Br (decide (J<O)) ((0<=J/\J<(e0.length:Int))/\kB 134 [.dg 9 (List.getD e0 J.toNat default),.pd I 0 (.fn 170 [])] N (λb a=>Br b (uP
 a (Q J)) (yR Q N0 a0 e0 c0 I O (IntKind.i64.wrap (J+1)) a))) (uP N (Q (-1)))):yR Q N0 a0 e0 c0 I O J N:=
  hE va h
theorem zAb (N:Nat) (I:D) (a1:Addr) (Q:QT [.bool]) (h :
Bel N I->kB 197 [.dg 2 I,.fn 198 []] N (λb a=>uP a (Q (!b)))):ACalls prog 218 [.bool] [.dg 2 I,.pd a1 0 (.fn 198 [])] N Q:=
 eE zC7 h
theorem zAd (N:Nat) (I:D) (a1:Addr) (Q:QT [.bool]) (h :
Bel N I->kB 97 [.dg 9 I,.fn 170 []] N (λb a=>uP a (Q (!b)))):ACalls prog 134 [.bool] [.dg 9 I,.pd a1 0 (.fn 170 [])] N Q:=
 eE zDO h
end Go.Proofs.YtlahkdflngobiaaGreatDoor
set_option maxRecDepth 100000
namespace Go.Proofs.YtlahkdflngobiaaGreatDoor
open Go Go.Proofs Go.Proofs.Tryz
def qK:Hint:=⟨[hc 5 [3,11,12,13]],[],[(7,hs 18 [ec 7 [24]])]⟩
def zAB:Hint:=⟨[hc 6 [3,4,7,26,27,28] [(7,127,4)]],[],[(1,hs 3 [ec 1 [10]]),(2,hs 12 [ec 5 [16]]),(10,hs 7 [ec 2 [42]])]⟩
def zAm:Hint:=⟨[hc 3 [3,7,8,9]],[],[(5,hs 5 [ec 2 [14]])]⟩
def zBp:Hint:=⟨[],[],[(1,hs 13 [ec 1 [3],ec 4 [6],ec 9 [11]])]⟩
def zBv:Hint:=⟨[hc 3 [3,7,8,9]],[],[(5,hs 5 [ec 2 [14]])]⟩
def rC:Hint:=⟨[hc 3 [3,7,8,9] [(3,9,0)]],[],[]⟩
def r9:Hint:=⟨[hc 3 [0,3,4] [(3,9,0)]],[],[(5,hs 26 [ec 13 [24]])]⟩
def zFk:Hint:=⟨[],[],[(1,hs 13 [ec 5 [12],ec 10 [17]]),(3,[en 0,en 2,en 7,eh 1,ec 3 [25],en 4,en 5,en 6,eh 8,en 9])]⟩
def zAu:Hint:=⟨[hc 3 [1,3,4]],[],[(5,hs 9 [ec 6 [17]])]⟩
def zAn:Hint:=⟨[hc 2 [0,1,5]],[],[]⟩
def zCO:Hint:=⟨[],[],[(1,hs 13 [ec 1 [3],ec 5 [7],ec 10 [12]])]⟩
def zCa:Hint:=⟨[hc 3 [0,3,4] [(3,127,4)]],[],[(5,[en 0,en 1,en 2,en 3,en 4,en 5,en 6,en 7,en 8,en 9,en 10,en 11,en 12,eh 13,eh 14])]⟩
def zDy:Hint:=⟨[hc 2 [1,3]],[],[(4,hs 7 [ec 5 [15]])]⟩
def zCq:Hint:=⟨[hc 3 [1,2,5]],[],[(5,hs 8 [ec 6 [23]])]⟩
def zEB:Hint:=⟨[],[],[(1,hs 11 [ec 2 [6]])]⟩
def vU:Hint:=⟨[hc 2 [0,1,7,8]],[],[(4,hs 6 [ec 5 [15]])]⟩
def zCR:Hint:=⟨[],[],[(1,hs 5 [ec 2 [4]])]⟩
def wA (Q:QT [.bool]) (N0:Nat) (a3:Option Addr) (e3:List D) (c3:Nat) (I:Option Addr) (J:List D) (O:Nat) (aa ab:Int) (N:Nat):Prop:=AT prog 100 [.bool] Q N0 .ord (zD prog 100 5) ⟨an 3 (.sv a3 0 e3 c3::an 7 (.sv I 4 J O::.int .i64 aa::.int .i64 ab::an 23 [])),[],N,none⟩
def wY (Q:QT [.ag 2,.bool]) (N0:Nat) (m7 c7:Nat) (ab:Option Addr) (ac:List D) (ae:Nat) (ah ai:Int) (y0:D) (I:Int) (J:Option Addr) (O:List D) (aa:Nat) (r2:List D) (q2:Nat) (N:Nat):Prop:=AT prog 58 [.ag 2,.bool] Q N0 .ord (zD prog 58 6) ⟨an 3 (.pb 0 0 0 0::.pb 1 0 0 0::an 2 (.sb 2 4 0 m7 c7::an 18 (.sv ab 4 ac ae::.int .i64 ah::.int .i64 ai::an 17 []))),[.vd y0 9,.var [.int .i64 I,.sv J 2 O aa],.arr 127 4 r2 q2],N,none⟩
def vB (Q:QT [.int .i64]) (N0:Nat) (n3:Int) (I:Option Addr) (J:List D) (O:Nat) (n8 n9:Int) (N:Nat):Prop:=AT prog 139 [.int .i64] Q N0 .ord (zD prog 139 3) ⟨an 3 (.int .i64 n3::an 3 (.sv I 9 J O::.int .i64 n8::.int .i64 n9::an 10 [])),[],N,none⟩
def uD (Q:QT [.int .i64]) (N0:Nat) (n3:Int) (I:Option Addr) (J:List D) (O:Nat) (n8 n9:Int) (N:Nat):Prop:=AT prog 65 [.int .i64] Q N0 .ord (zD prog 65 3) ⟨an 3 (.int .i64 n3::an 3 (.sv I 9 J O::.int .i64 n8::.int .i64 n9::an 9 [])),[],N,none⟩
def xf (Q:QT [.sl 0]) (N0:Nat) (I J:Nat) (O:Option Addr) (e7:List D) (c7:Nat) (n8 n9:Int) (r0:List D) (q0:Nat) (N:Nat):Prop:=AT prog 44 [.sl 0] Q N0 .ord (zD prog 44 3) ⟨an 3 (.sb 0 0 0 I J::an 3 (.sv O 4 e7 c7::.int .i64 n8::.int .i64 n9::an 10 [])),[.arr 9 0 r0 q0],N,none⟩
def wF (Q:QT [.bool]) (N0:Nat) (a0:Option Addr) (e0:List D) (I J O:Nat) (n4:Int) (r0:List D) (q0:Nat) (N:Nat):Prop:=AT prog 112 [.bool] Q N0 .ord (zD prog 112 3) ⟨.sv a0 4 e0 I::an 2 (.sb 0 0 0 J O::.int .i64 n4::an 44 []),[.arr 9 0 r0 q0],N,none⟩
def vC (Q:QT [.int .i64]) (N0:Nat) (n3 I:Int) (J:D) (N:Nat):Prop:=AT prog 154 [.int .i64] Q N0 .ord (zD prog 154 3) ⟨an 1 (.pb 0 0 0 0::an 1 (.int .i64 n3::.int .i64 I::an 17 [])),[.vd J 9],N,none⟩
def w6 (Q:QT [.int .i64]) (N0:Nat) (a0:Option Addr) (e0:List D) (I:Nat) (J:ByteArray) (O:Int) (N:Nat):Prop:=AT prog 78 [.int .i64] Q N0 .ord (zD prog 78 2) ⟨.sv a0 0 e0 I::.str J::an 3 (.int .i64 O::an 13 []),[],N,none⟩
def wX (Q:QT [.sl 4]) (N0:Nat) (a0:Option Addr) (e0:List D) (I J O:Nat) (n4:Int) (r0:List D) (q0:Nat) (N:Nat):Prop:=AT prog 116 [.sl 4] Q N0 .ord (zD prog 116 3) ⟨.sv a0 4 e0 I::an 2 (.sb 0 4 0 J O::.int .i64 n4::an 22 []),[.arr 127 4 r0 q0],N,none⟩
def uZ (Q:QT [.bool]) (N0:Nat) (n3:Int) (I:D) (N:Nat):Prop:=AT prog 114 [.bool] Q N0 .ord (zD prog 114 2) ⟨an 1 (.pb 0 0 0 0::an 1 (.int .i64 n3::an 22 [])),[.vd I 9],N,none⟩
def uI (Q:QT [.int .i64]) (N0:Nat) (n1 I:Int) (J:D) (N:Nat):Prop:=AT prog 153 [.int .i64] Q N0 .ord (zD prog 153 3) ⟨an 1 (.int .i64 n1::.pb 0 0 0 0::an 2 (.int .i64 I::an 21 [])),[.vd J 9],N,none⟩
def yK (Q:QT [.int .i64]) (N0:Nat) (a0:Option Addr) (e0:List D) (J:Nat) (I:Addr) (O n8:Int) (N:Nat):Prop:=AT prog 105 [.int .i64] Q N0 .ord (zD prog 105 2) ⟨.sv a0 9 e0 J::.fn 134 [.pd I 0 (.fn 98 [])]::an 5 (.int .i64 O::.int .i64 n8::an 10 []),[],N,none⟩
theorem zEj (N:Nat) (a0:Option Addr) (e0:List D) (I:Nat) (Q:QT [.bool]) (h :
Bel N (D.sl a0 4 e0 I)->Br (decide ((e0.length:Int)>5)) (uP N (Q false)) (kL 0 44 [.sv a0 4 e0 I] N (λa b c d=>wA Q N a b c
 a0 e0 I (e0.length:Int) 0 d))):ACalls prog 100 [.bool] [PV.sv a0 4 e0 I] N Q:=
  eE qK h
theorem zFl (N:Nat) (a0:Option Addr) (e0:List D) (J:Nat) (I:D) (Q:QT [.ag 2,.bool]) (h :
Bel N (D.sl a0 4 e0 J)->Bel N I->kB 97 [.dg 9 I,.fn 98 []] N (λb a=>kB 100 [.sv a0 4 e0 J] a (λa c=>Br (!a) (uP c (Q (D.ag [D.j 0,
 D.sl none 2 [] 0]) false)) (kB 101 [.dg 9 I] c (λa c=>Br (!a) (uP c (Q (D.ag [D.j 0,D.sl none 2 [] 0]) false)) (Br (!b) (uP c (Q (D.ag [D.j 0,
 D.sl none 2 [] 0]) false)) (wY Q N 0 0 a0 e0 J (e0.length:Int) 0 I 0 none [] 0 [] 0 c))))))):ACalls prog 58 [.ag 2,.bool] [PV.sv a0 4 e0 J,PV.dg 9 I] N Q:=
  eE zAB h
theorem zHL (N:Nat) (I:D) (Q:QT [.int .i64]) (h :
Bel N I->∃ a b,∃ c:Nat,(I.cell 8)=D.sl a 9 b c/\vB Q N 0 a b c (b.length:Int) 0 N):ACalls prog 139 [.int .i64] [PV.dg 9 I] N Q:=
 eE zAm h
theorem zG9 (N:Nat) (a0:Option Addr) (e0:List D) (I:Nat) (J:ByteArray) (Q:QT [.int .i64]) (h :
Bel N (D.sl a0 0 e0 I)->kI 158 [.sv a0 0 e0 I,.str J] N (λn a=>uP a (Q n))):ACalls prog 137 [.int .i64] [PV.sv a0 0 e0 I,PV.str J] N Q:=
 eE H0 h
theorem zBk (N:Nat) (I:D) (Q:QT [.bool]) (h :
Bel N I->kB 138 [.dg 9 I] N (λb a=>Br b (∀ b,a<=b->ACalls prog 65 [.i] [.dg 9 I] b (λn a=>b<=a->Br (decide (n<=80)) (kI 139
 [.dg 9 I] a (λa b=>uP b (Q (decide (a<=20))))) (uP a (Q false)))) (uP a (Q false)))):ACalls prog 101 [.bool] [PV.dg 9 I] N Q:=
  eE zBp h
theorem zIc (N:Nat) (I:D) (Q:QT [.int .i64]) (h :
Bel N I->∃ a b,∃ c:Nat,(I.cell 8)=D.sl a 9 b c/\uD Q N 1 a b c (b.length:Int) 0 N):ACalls prog 65 [.int .i64] [PV.dg 9 I] N Q:=
 eE zBv h
theorem zDR (N:Nat) (a0:Option Addr) (e0:List D) (I:Nat) (Q:QT [.sl 0]) (h :
Bel N (D.sl a0 4 e0 I)->xf Q N 0 0 a0 e0 I (e0.length:Int) 0 [] 0 N):ACalls prog 44 [.sl 0] [PV.sv a0 4 e0 I] N Q:=
 eE rC h
theorem zD5 (N:Nat) (a0:Option Addr) (e0:List D) (I:Nat) (Q:QT [.bool]) (h :
Bel N (D.sl a0 4 e0 I)->wF Q N a0 e0 I 0 0 0 [] 0 N):ACalls prog 112 [.bool] [PV.sv a0 4 e0 I] N Q:=
 eE r9 h
theorem zGE (N:Nat) (a0:Option Addr) (e0:List D) (J:Nat) (I:D) (Q:QT [.ag 2,.bool]) (h :
Bel N (D.sl a0 4 e0 J)->Bel N I->kB 112 [.sv a0 4 e0 J] N (λb d=>Br (!b) (uP d (Q (D.ag [D.j 0,D.sl none 2 [] 0]) false)) (kB 113 [.dg 9 I]
 d (λb d=>Br (!b) (uP d (Q (D.ag [D.j 0,D.sl none 2 [] 0]) false)) (kB 114 [.dg 9 I] d (λb d=>Br (!b) (uP d (Q (D.ag [D.j 0,D.sl none
 2 [] 0]) false)) (kL 4 116 [.sv a0 4 e0 J] d (λa b c d=>kAB 2 115 [.sv a 4 b c,.dg 9 I,.j 0] d (λx a b=>uP b (Q x a)))))))))):ACalls prog 69 [.ag 2,.bool] [PV.sv a0 4 e0 J,PV.dg 9 I] N Q:=
  eE zFk h
theorem zHC (N:Nat) (I:D) (Q:QT [.int .i64]) (h :
Bel N I->vC Q N 0 0 I N):ACalls prog 154 [.int .i64] [PV.dg 9 I] N Q:=
 eE zAu h
theorem zHI (N:Nat) (a0:Option Addr) (e0:List D) (I:Nat) (J:ByteArray) (Q:QT [.int .i64]) (h :
Bel N (D.sl a0 0 e0 I)->w6 Q N a0 e0 I J 0 N):ACalls prog 78 [.int .i64] [PV.sv a0 0 e0 I,PV.str J] N Q:=
 eE zAn h
theorem zBm (N:Nat) (x0:D) (Q:QT [.bool]) (h :
Bel N x0->kI 153 [.dg 9 x0,.j 80] N (fun n a=>Br (decide (n≥0)) (kI 154 [.dg 9 x0] a (fun a c=>Br (decide (a<=20)) (kB 155 [.dg 9 x0] c
 (fun b a=>uP a (Q b))) (uP c (Q false)))) (uP a (Q false)))):ACalls prog 113 [.bool] [PV.dg 9 x0] N Q:=
  eE zCO h
theorem zBn (N:Nat) (a0:Option Addr) (e0:List D) (I:Nat) (Q:QT [.sl 4]) (h :
Bel N (D.sl a0 4 e0 I)->wX Q N a0 e0 I 0 0 0 [] 0 N):ACalls prog 116 [.sl 4] [PV.sv a0 4 e0 I] N Q:=
 eE zCa h
theorem zLK (N:Nat) (I:D) (Q:QT [.bool]) (h :
Bel N I->uZ Q N 0 I N):ACalls prog 114 [.bool] [PV.dg 9 I] N Q:=
 eE zDy h
theorem zIM (N:Nat) (I:D) (n1:Int) (Q:QT [.int .i64]) (h :
Bel N I->uI Q N (IntKind.i64.wrap (n1 - 1)) 0 I N):ACalls prog 153 [.int .i64] [PV.dg 9 I,PV.int .i64 n1] N Q:=
 eE zCq h
theorem sW (Q:QT [.bool]) (N0:Nat) (a3:Option Addr) (e3:List D) (c3:Nat) (a11:Option Addr) (e11:List D) (c11:Nat) (n12 n13:Int) (N:Nat) (h :
Br (decide (n13<n12)) ((0<=n13/\n13<(e11.length:Int))/\∃ s,D.cell (List.getD e11 n13.toNat default) 0=D.t s/\kB 135 [.str s] N (fun b a=>Br
 (!b) (uP a (Q false)) (kB 136 [.dg 2 (D.sub (List.getD e11 n13.toNat default) 1 2)] a (fun a b=>Br (!a) (uP b (Q false)) (∃ a,D.cell (List.getD e11
 n13.toNat default) 0=D.t a/\∀ c,b<=c->ACalls prog 137 [.i] [.sv a3 0 e3 c3,.str a] c (fun n a=>c<=a->Br (bne n n13) (uP a (Q false))
 (wA Q N0 a3 e3 c3 a11 e11 c11 n12 (IntKind.i64.wrap (n13+1)) a))))))) (uP N (Q true))):wA Q N0 a3 e3 c3 a11 e11 c11 n12 n13 N:=
  hE qK h
theorem zBF (N:Nat) (I:D) (Q:QT [.bool]) (h :
Bel N I->kB 98 [.dg 9 I] N (λb d=>Br b (∃ a b,∃ c:Nat,(I.cell 8)=D.sl a 9 b c/\∀ e,ApA (Option.some e) [D.fn (OfNat.ofNat 98) []] ->
 Off [Option.some e] (D.sl a 9 b c)->∀ f,d<=f->wa f [Option.some e]->ACalls prog 62 [.bool] [.sv a 9 b c,.fn 134 [.pd e 0 (.fn 98 [])]] f (fun
 a b=>f<=b->uP b (Q (!a)))) (uP d (Q false)))):ACalls prog 97 [.bool] [.dg 9 I,.fn 98 []] N Q:=
  eE zEB h
theorem rR (Q:QT [.ag 2,.bool]) (N0:Nat) (m7 c7:Nat) (ah:Option Addr) (J:List D) (ai:Nat) (ae I:Int) (y0:D) (O:Int) (aa:Option Addr) (ab:List D) (ac:Nat) (r2:List D) (q2:Nat) (N:Nat) (h :
Br (decide (I<ae)) ((0<=I/\I<(J.length:Int))/\∃ s,D.cell (List.getD J I.toNat default) 0=D.t s/\(m7=r2.length/\c7=q2) /\
 zB r2 [D.ag [D.t s,D.cell (D.sub (List.getD J I.toNat default) 1 2) 0,D.cell (D.sub (List.getD J I.toNat default) 1 2) 1,D.j 0]] 56/\∀ (c :
 Nat),wY Q N0 (r2++[D.ag [D.t s,D.cell (D.sub (List.getD J I.toNat default) 1 2) 0,D.cell (D.sub (List.getD J I.toNat default) 1 2)
 1,D.j 0]]).length c ah J ai ae (IntKind.i64.wrap (I+1)) y0 O aa ab ac (r2++[D.ag [D.t s,D.cell (D.sub (List.getD J I.toNat default) 1
 2) 0,D.cell (D.sub (List.getD J I.toNat default) 1 2) 1,D.j 0]]) c N) ((m7=r2.length/\c7=q2)/\∀ a,ApA a r2->Off [a] y0->∀ c,N<=c->wa c
 [a]->ACalls prog 102 [.ag 2,.bool] [.sv a 4 r2 c7,.dg 9 y0,.j 0] c (λx b d=>c<=d->Off [a] x/\(Bel d x->uP d (Q x b))))):wY Q N0 m7 c7 ah J ai ae I y0 O aa ab ac r2 q2 N:=
  hE zAB h
theorem qT (Q:QT [.int .i64]) (N0:Nat) (n3:Int) (a7:Option Addr) (J:List D) (c7:Nat) (O I:Int) (N:Nat) (h :
Br (decide (I<O)) ((0<=I/\I<(J.length:Int))/\kI 139 [.dg 9 (List.getD J I.toNat default)] N (λn a=>vB Q N0 (if n>n3
 then n else n3) a7 J c7 O (IntKind.i64.wrap (I+1)) a)) (uP N (Q (IntKind.i64.wrap (n3+1))))):vB Q N0 n3 a7 J c7 O I N:=
  hE zAm h
theorem pu (Q:QT [.int .i64]) (N0:Nat) (n3:Int) (a7:Option Addr) (J:List D) (c7:Nat) (O I:Int) (N:Nat) (h :
Br (decide (I<O)) ((0<=I/\I<(J.length:Int))/\∀ a,N<=a->ACalls prog 65 [.i] [.dg 9 (List.getD J I.toNat default)] a (λn b=>a <=
 b->uD Q N0 (IntKind.i64.wrap (n3+n)) a7 J c7 O (IntKind.i64.wrap (I+1)) b)) (uP N (Q n3))):uD Q N0 n3 a7 J c7 O I N:=
  hE zBv h
theorem tl (Q:QT [.sl 0]) (N0:Nat) (m3 c3:Nat) (a7:Option Addr) (J:List D) (c7:Nat) (n8 I:Int) (r0:List D) (O:Nat) (N:Nat) (h :
Br (decide (I<n8)) ((0<=I/\I<(J.length:Int))/\∃ s,D.cell (List.getD J I.toNat default) 0=D.t s/\(m3=r0.length/\c3=O)/\zB r0
 [D.t s] 16/\∀ (c:Nat),xf Q N0 (r0++[D.t s]).length c a7 J c7 n8 (IntKind.i64.wrap (I+1)) (r0++[D.t s]) c N) (w3 (m3=r0.length /\
 c3=O) (∀ a b,N<=b->Fresh N0 b a [D.ag r0]->uP b (Q a r0 O)))):xf Q N0 m3 c3 a7 J c7 n8 I r0 O N:=
  hE rC h
theorem sQ (Q:QT [.bool]) (N0:Nat) (a0:Option Addr) (e0:List D) (c0 J O:Nat) (I:Int) (r0:List D) (q0:Nat) (N:Nat) (h :
Br (decide (I<(e0.length:Int))) ((0<=I/\I<(e0.length:Int))/\∃ s,(if 0=0 then D.cell (List.getD e0 I.toNat default) 0 else D.sub
 (List.getD e0 I.toNat default) 0 0)=D.t s/\kB 151 [.str s] N (λb d=>Br (!b) (uP d (Q false)) ((0<=I/\I<(e0.length:Int))/\kB 152 [.dg 2 (if 2
 = 0 then D.cell (List.getD e0 I.toNat default) 1 else D.sub (List.getD e0 I.toNat default) 1 2)] d (λb d=>Br (!b) (uP d (Q false)) ((0<=I/\I <
 (e0.length:Int))/\∃ b,(if 0=0 then D.cell (List.getD e0 I.toNat default) 0 else D.sub (List.getD e0 I.toNat default) 0 0)=D.t b/\(J=r0.length
 /\ O=q0)/\∀ a,ApA a r0->∀ e,d<=e->wa e [a]->ACalls prog 78 [.i] [.sv a 0 r0 O,.str b] e (λn a=>e<=a->Br (decide (n≥0)) (uP a (Q
 false)) ((0<=I/\I<(e0.length:Int))/\∃ b,(if 0=0 then D.cell (List.getD e0 I.toNat default) 0 else D.sub (List.getD e0 I.toNat default) 0 0) =
 D.t b/\(J=r0.length/\O=q0)/\zB r0 [D.t b] 16/\∀ (c:Nat),wF Q N0 a0 e0 c0 (r0++[D.t b]).length c (IntKind.i64.wrap (I
 + 1)) (r0++[D.t b]) c a))))))) (∀ a,N<=a->Q (decide ((J:Int)<=5)) a)):wF Q N0 a0 e0 c0 J O I r0 q0 N:=
  hE r9 h
theorem qJ (Q:QT [.int .i64]) (N0:Nat) (n3 n4:Int) (y0:D) (N:Nat) (h :
∃ a b,∃ c:Nat,(y0.cell 8)=D.sl a 9 b c/\Br (decide (n4<(b.length:Int))) (∃ a b,∃ c:Nat,(y0.cell 8)=D.sl a 9 b c/\(0<=n4
 /\ n4<(b.length:Int))/\kI 154 [.dg 9 (List.getD b n4.toNat default)] N (fun n a=>kI 181 [.j n3,.j n] a (fun a b=>vC Q N0 a
 (IntKind.i64.wrap (n4+1)) y0 b))) (uP N (Q (IntKind.i64.wrap (n3+1))))):vC Q N0 n3 n4 y0 N:=
  hE zAu h
theorem qP (Q:QT [.int .i64]) (N0:Nat) (a0:Option Addr) (e0:List D) (O:Nat) (J:ByteArray) (I:Int) (N:Nat) (h :
Br (decide (I<(e0.length:Int))) ((0<=I/\I<(e0.length:Int))/\∃ s,List.getD e0 I.toNat default=D.t s/\Br (ByteArray.toList s ==
 ByteArray.toList J) (uP N (Q I)) (w6 Q N0 a0 e0 O J (IntKind.i64.wrap (I+1)) N)) (uP N (Q (-1)))):w6 Q N0 a0 e0 O J I N:=
  hE zAn h
theorem v8 (Q:QT [.sl 4]) (N0:Nat) (a0:Option Addr) (e0:List D) (c0 O c3:Nat) (I:Int) (r0:List D) (J:Nat) (N:Nat) (h :
Br (decide (I<(e0.length:Int))) ((0<=I/\I<(e0.length:Int))/\∃ s,(if 0=0 then D.cell (List.getD e0 I.toNat default) 0 else D.sub
 (List.getD e0 I.toNat default) 0 0)=D.t s/\(0<=I/\I<(e0.length:Int))/\(O=r0.length/\c3=J)/\zB r0 [D.ag [D.t s,D.cell (if 2=0 then
 D.cell (List.getD e0 I.toNat default) 1 else D.sub (List.getD e0 I.toNat default) 1 2) 0,D.cell (if 2=0 then D.cell (List.getD e0 I.toNat default) 1 else
 D.sub (List.getD e0 I.toNat default) 1 2) 1,D.j 0]] 56/\∀ (c:Nat),wX Q N0 a0 e0 c0 (r0++[D.ag [D.t s,D.cell (if 2=0 then D.cell
 (List.getD e0 I.toNat default) 1 else D.sub (List.getD e0 I.toNat default) 1 2) 0,D.cell (if 2=0 then D.cell (List.getD e0 I.toNat default) 1 else D.sub
 (List.getD e0 I.toNat default) 1 2) 1,D.j 0]]).length c (IntKind.i64.wrap (I+1)) (r0++[D.ag [D.t s,D.cell (if 2=0 then D.cell (List.getD e0 I.toNat
 default) 1 else D.sub (List.getD e0 I.toNat default) 1 2) 0,D.cell (if 2=0 then D.cell (List.getD e0 I.toNat default) 1 else D.sub (List.getD e0 I.toNat
 default) 1 2) 1,D.j 0]]) c N) (w3 (O=r0.length/\c3=J) (∀ a b,N<=b->Fresh N0 b a [D.ag r0]->uP b (Q a r0 J)))):wX Q N0 a0 e0 c0 O c3 I r0 J N:=
  hE zCa h
theorem zAq (Q:QT [.bool]) (N0:Nat) (n3:Int) (I:D) (N:Nat) (h :
∃ a d,∃ c:Nat,(I.cell 8)=D.sl a 9 d c/\Br (decide (n3<(d.length:Int))) (∃ a c,∃ d:Nat,(I.cell 8)=D.sl a 9 c d/\(0<=n3
 /\ n3<(c.length:Int))/\kB 114 [.dg 9 (List.getD c n3.toNat default)] N (λb a=>Br (!b) (uP a (Q false)) (uZ Q N0 (IntKind.i64.wrap
 (n3+1)) I a))) (∃ n:Int,(I.cell 0)=D.j n/\kB 118 [.j n,.j 1,.j 5] N (λa b=>Br a (uP b (Q true)) (∃ a:Int,(I.cell 0)=D.j a/\uP
 b (Q (a==8)))))):uZ Q N0 n3 I N:=
  hE zDy h
theorem pI (Q:QT [.int .i64]) (N0:Nat) (n1 n5:Int) (y0:D) (N:Nat) (h :
∃ a b,∃ c:Nat,(y0.cell 8)=D.sl a 9 b c/\Br (decide (n5<(b.length:Int))) (Br (decide (n1≥0)) (∃ a b,∃ c:Nat,(y0.cell 8)=D.sl
 a 9 b c/\(0<=n5/\n5<(b.length:Int))/\kI 153 [.dg 9 (List.getD b n5.toNat default),.j n1] N (fun n a=>uI Q N0 n
 (IntKind.i64.wrap (n5+1)) y0 a)) (uP N (Q n1))) (uP N (Q n1))):uI Q N0 n1 n5 y0 N:=
  hE zCq h
theorem uk (N:Nat) (a0:Option Addr) (e0:List D) (J:Nat) (I:Addr) (Q:QT [.bool]) (h :
Bel N (D.sl a0 9 e0 J)->kI 105 [.sv a0 9 e0 J,.fn 134 [.pd I 0 (.fn 98 [])]] N (λn a=>uP a (Q (decide (n≥0))))):ACalls prog 62 [.bool] [.sv a0 9 e0 J,.fn 134 [.pd I 0 (.fn 98 [])]] N Q:=
 eE H0 h
theorem tq (N:Nat) (a0:Option Addr) (e0:List D) (J:Nat) (I:Addr) (Q:QT [.int .i64]) (h :
Bel N (D.sl a0 9 e0 J)->yK Q N a0 e0 J I (e0.length:Int) 0 N):ACalls prog 105 [.int .i64] [.sv a0 9 e0 J,.fn 134 [.pd I 0 (.fn 98 [])]] N Q:=
 eE vU h
theorem wk (Q:QT [.int .i64]) (N0:Nat) (a0:Option Addr) (e0:List D) (c0:Nat) (I:Addr) (O J:Int) (N:Nat) (h :
Br (decide (J<O)) ((0<=J/\J<(e0.length:Int))/\kB 134 [.dg 9 (List.getD e0 J.toNat default),.pd I 0 (.fn 98 [])] N (λb a=>Br b (uP
 a (Q J)) (yK Q N0 a0 e0 c0 I O (IntKind.i64.wrap (J+1)) a))) (uP N (Q (-1)))):yK Q N0 a0 e0 c0 I O J N:=
  hE vU h
theorem pc (N:Nat) (I:D) (a1:Addr) (Q:QT [.bool]) (h :
Bel N I->kB 97 [.dg 9 I,.fn 98 []] N (λb a=>uP a (Q (!b)))):ACalls prog 134 [.bool] [.dg 9 I,.pd a1 0 (.fn 98 [])] N Q:=
 eE zCR h
end Go.Proofs.YtlahkdflngobiaaGreatDoor
