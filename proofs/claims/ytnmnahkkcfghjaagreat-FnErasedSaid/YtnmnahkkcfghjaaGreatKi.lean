/- Printed by gen.py: what the functions come to. -/
import Derived.Test.YtnmnahkkcfghjaaGreatJh
set_option linter.unusedVariables false
set_option maxRecDepth 100000
namespace Go.Proofs.YtnmnahkkcfghjaaGreat
open Go Go.Proofs Go.Proofs.Tryz
def vo:Hint:=⟨[hc 3 [2,3,10,11,12]],[],[(5,[en 0,en 1,en 2,ec 3 [18],en 4,eh 5,en 6,eh 7])]⟩
def wm (Q:QT [.ag 2]) (N0:Nat) (ae:Option Addr) (ah:List D) (ai:Nat) (aj ak I:Int) (J:Option Addr) (O:List D) (U:Nat) (Y:Int) (aa:Option Addr) (ab:List D) (ac:Nat) (N:Nat):Prop:=AT prog 83 [.ag 2] Q N0 .ord (zE prog 83 3) ⟨an 2 (.pb 0 0 0 0::.pb 1 0 0 0::an 6 (.sv ae 2 ah ai::.int .i64 aj::.int .i64 ak::an 12 [])),[.var [.int .i64 I,.sv J 2 O U],.var [.int .i64 Y,.sv aa 2 ab ac]],N,none⟩
def yU (Q:QT [.ag 2]) (N0:Nat) (ac:Option Addr) (ae:List D) (ah:Nat) (ai aj I:Int) (J:Option Addr) (O:List D) (U:Nat) (Y:Int) (aa ab:Nat) (r2:List D) (q2:Nat) (N:Nat):Prop:=AT prog 83 [.ag 2] Q N0 .ord (zE prog 83 3) ⟨an 2 (.pb 0 0 0 0::.pb 1 0 0 0::an 6 (.sv ac 2 ae ah::.int .i64 ai::.int .i64 aj::an 12 [])),[.var [.int .i64 I,.sv J 2 O U],.var [.int .i64 Y,.sb 2 2 0 aa ab],.arr 26 2 r2 q2],N,none⟩
theorem zGJ (N:Nat) (n0 n1 I:Int) (Q:QT [.bool]) (h :
Br (decide (n1<=n0)) (uP N (Q (decide (n0<=I)))) (uP N (Q false))):ACalls prog 56 [.bool] [PV.int .i64 n0,PV.int .i64 n1,PV.int .i64 I] N Q:=
 eE H0 h
theorem zC3 (N:Nat) (I:D) (Q:QT [.ag 2]) (h :
Bel N I->∃ n:Int,(I.cell 0)=D.j n/\∃ a b,∃ c:Nat,(I.cell 1)=D.sl a 2 b c/\wm Q N a b c (b.length:Int) 0 0 none [] 0 n
 none [] 0 N):ACalls prog 83 [.ag 2] [PV.dg 2 I] N Q:=
  eE vo h
theorem tD (Q:QT [.ag 2]) (N0:Nat) (aj:Option Addr) (aa:List D) (ak:Nat) (ai J ab:Int) (ac:Option Addr) (ae:List D) (ah:Nat) (O:Int) (U:Option Addr) (I:List D) (Y:Nat) (N:Nat) (h :
Br (decide (J<ai)) ((0<=J/\J<(aa.length:Int))/\kA 2 83 [.dg 2 (List.getD aa J.toNat default)] N (λx a=>zLT U I Y [x] /\
 zA I [x] 32/\∀ (c:Nat),yU Q N0 aj aa ak ai (IntKind.i64.wrap (J+1)) ab ac ae ah O (I++[x]).length c (I
 ++ [x]) c a)) (uP N (Q (D.ag [D.j O,D.sl U 2 I Y])))):wm Q N0 aj aa ak ai J ab ac ae ah O U I Y N:=
  hE vo h
theorem vU (Q:QT [.ag 2]) (N0:Nat) (ai:Option Addr) (Y:List D) (aj:Nat) (ah I aa:Int) (ab:Option Addr) (ac:List D) (ae:Nat) (J:Int) (O U:Nat) (r2:List D) (q2:Nat) (N:Nat) (h :
Br (decide (I<ah)) ((0<=I/\I<(Y.length:Int))/\kA 2 83 [.dg 2 (List.getD Y I.toNat default)] N (λx a=>(O=r2.length/\U =
 q2)/\zA r2 [x] 32/\∀ (c:Nat),yU Q N0 ai Y aj ah (IntKind.i64.wrap (I+1)) aa ab ac ae J (r2++[x]).length c (r2
 ++ [x]) c a)) (w3 (O=r2.length/\U=q2) (∀ a b,N<=b->Fresh N0 b a [D.ag r2]->uP b (Q (D.ag [D.j J,D.sl a 2 r2 q2]))))):yU Q N0 ai Y aj ah I aa ab ac ae J O U r2 q2 N:=
  hE vo h
end Go.Proofs.YtnmnahkkcfghjaaGreat
set_option maxRecDepth 100000
namespace Go.Proofs.YtnmnahkkcfghjaaGreat
open Go Go.Proofs Go.Proofs.Tryz
def qF:Hint:=⟨[hc 3 [1,3,4]],[],[(5,hs 9 [ec 6 [17]])]⟩
def rr:Hint:=⟨[hc 2 [0,1,5]],[],[]⟩
def pU:Hint:=⟨[],[],[(1,hs 13 [ec 1 [3],ec 5 [7],ec 10 [12]])]⟩
def zAB:Hint:=⟨[hc 3 [1,2,5]],[],[(5,hs 8 [ec 6 [23]])]⟩
def xl (Q:QT [.int .i64]) (N0:Nat) (I J:Int) (O:D) (N:Nat):Prop:=AT prog 130 [.int .i64] Q N0 .ord (zE prog 130 3) ⟨an 1 (.pb 0 0 0 0::an 1 (.int .i64 I::.int .i64 J::an 17 [])),[.vd O 9],N,none⟩
def xd (Q:QT [.int .i64]) (N0:Nat) (a0:Option Addr) (e0:List D) (c0:Nat) (I:ByteArray) (J:Int) (N:Nat):Prop:=AT prog 111 [.int .i64] Q N0 .ord (zE prog 111 2) ⟨.sv a0 0 e0 c0::.str I::an 3 (.int .i64 J::an 13 []),[],N,none⟩
def wg (Q:QT [.int .i64]) (N0:Nat) (n1 I:Int) (J:D) (N:Nat):Prop:=AT prog 129 [.int .i64] Q N0 .ord (zE prog 129 3) ⟨an 1 (.int .i64 n1::.pb 0 0 0 0::an 2 (.int .i64 I::an 21 [])),[.vd J 9],N,none⟩
theorem zDp (N:Nat) (I:D) (Q:QT [.int .i64]) (h :
Bel N I->xl Q N 0 0 I N):ACalls prog 130 [.int .i64] [PV.dg 9 I] N Q:=
 eE qF h
theorem zDv (N:Nat) (a0:Option Addr) (e0:List D) (c0:Nat) (I:ByteArray) (Q:QT [.int .i64]) (h :
Bel N (D.sl a0 0 e0 c0)->xd Q N a0 e0 c0 I 0 N):ACalls prog 111 [.int .i64] [PV.sv a0 0 e0 c0,PV.str I] N Q:=
 eE rr h
theorem qh (N:Nat) (x0:D) (Q:QT [.bool]) (h :
Bel N x0->kI 129 [.dg 9 x0,.j 80] N (fun n a=>Br (decide (n≥0)) (kI 130 [.dg 9 x0] a (fun a c=>Br (decide (a<=20)) (kB 70 [.dg 9 x0] c
 (fun b a=>uP a (Q b))) (uP c (Q false)))) (uP a (Q false)))):ACalls prog 119 [.bool] [PV.dg 9 x0] N Q:=
  eE pU h
theorem zEv (N:Nat) (I:D) (n1:Int) (Q:QT [.int .i64]) (h :
Bel N I->wg Q N (IntKind.i64.wrap (n1 - 1)) 0 I N):ACalls prog 129 [.int .i64] [PV.dg 9 I,PV.int .i64 n1] N Q:=
 eE zAB h
theorem tq (Q:QT [.int .i64]) (N0:Nat) (n3 n4:Int) (y0:D) (N:Nat) (h :
∃ a b,∃ c:Nat,(y0.cell 8)=D.sl a 9 b c/\Br (decide (n4<(b.length:Int))) (∃ a b,∃ c:Nat,(y0.cell 8)=D.sl a 9 b c/\(0<=n4
 /\ n4<(b.length:Int))/\kI 130 [.dg 9 (List.getD b n4.toNat default)] N (fun n a=>kI 105 [.j n3,.j n] a (fun a b=>xl Q N0 a
 (IntKind.i64.wrap (n4+1)) y0 b))) (uP N (Q (IntKind.i64.wrap (n3+1))))):xl Q N0 n3 n4 y0 N:=
  hE qF h
theorem t3 (Q:QT [.int .i64]) (N0:Nat) (a0:Option Addr) (e0:List D) (c0:Nat) (J:ByteArray) (I:Int) (N:Nat) (h :
Br (decide (I<(e0.length:Int))) ((0<=I/\I<(e0.length:Int))/\∃ s,List.getD e0 I.toNat default=D.t s/\Br (ByteArray.toList s ==
 ByteArray.toList J) (uP N (Q I)) (xd Q N0 a0 e0 c0 J (IntKind.i64.wrap (I+1)) N)) (uP N (Q (-1)))):xd Q N0 a0 e0 c0 J I N:=
  hE rr h
theorem sW (Q:QT [.int .i64]) (N0:Nat) (n1 n5:Int) (y0:D) (N:Nat) (h :
∃ a b,∃ c:Nat,(y0.cell 8)=D.sl a 9 b c/\Br (decide (n5<(b.length:Int))) (Br (decide (n1≥0)) (∃ a b,∃ c:Nat,(y0.cell 8)=D.sl
 a 9 b c/\(0<=n5/\n5<(b.length:Int))/\kI 129 [.dg 9 (List.getD b n5.toNat default),.j n1] N (fun n a=>wg Q N0 n
 (IntKind.i64.wrap (n5+1)) y0 a)) (uP N (Q n1))) (uP N (Q n1))):wg Q N0 n1 n5 y0 N:=
  hE zAB h
end Go.Proofs.YtnmnahkkcfghjaaGreat
