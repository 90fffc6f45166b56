/- Printed by gen.py: what the functions come to. -/
import Derived.Test.YtnpjpplbkoammaaGreatJh
set_option linter.unusedVariables false
set_option maxRecDepth 100000
namespace Go.Proofs.YtnpjpplbkoammaaGreat
open Go Go.Proofs Go.Proofs.Tryz
def t5:Hint:=⟨[hc 6 [7,8,25,26,27] [(8,39,9)]],[],[(1,hs 9 [ec 2 [14]]),(4,[en 0,en 2,en 4,eh 1,ec 3 [22],en 5,en 6])]⟩
def zAF:Hint:=⟨[],[],[(1,[en 0,en 2,ec 1 [5],ec 3 [7],en 4,en 5])]⟩
def ud:Hint:=⟨[],[],[]⟩
def uH:Hint:=⟨[],[],[]⟩
def wt:Hint:=⟨[hc 2 [0,1,7,8]],[],[(4,hs 6 [ec 5 [15]])]⟩
def z4:Hint:=⟨[hc 2 [0,1,2,6,7,8],hc 7 [0,1,2,6],hc 9 [0,1,2,6,7,8]],[],[]⟩
def px:Hint:=⟨[],[],[(1,hs 4 [ec 2 [4,5]])]⟩
def zr:Hint:=⟨[hc 1 [0,1,2,3,8],hc 4 [0,1,2,3,8,9]],[],[(4,[en 0,en 1,en 2,en 3,en 4,en 5,en 6,en 7,en 8,en 9,en 10,en 11,en 12,en 13,ec 14 [26,31],en 15,en 16]),(6,[en 0,en 1,en 2,en 3,en 4,en 5,en 6,en 7,en 8,en 9,en 10,en 11,en 12,en 13,en 14,eh 15,en 16,eh 17])]⟩
def zG:Hint:=⟨[hc 3 [0,1,4,10,11],hc 9 [0,10,13],hc 15 [0,2,4,14,15],hc 21 [0,14,17],hc 33 [0,1,2,3,4,18,19,20,21,22]],[hc 41 [0,1,3,4,18,20,24],hc 43 [0,3,4,18,24]],[(5,[en 0,en 1,en 2,en 3,en 4,en 5,en 6,en 7,en 8,ec 9 [44,48],en 10]),(11,[en 0,en 1,en 2,en 3,en 4,en 5,en 6,en 7,en 8,en 9,en 10,en 11,en 12,en 13,en 14,eh 15,en 16,eh 17]),(17,[en 0,en 1,en 2,en 3,en 4,en 5,en 6,en 7,en 8,ec 9 [96,100],en 10,en 11]),(23,[en 0,en 1,en 2,en 3,en 4,en 5,en 6,en 7,en 8,en 9,en 10,en 11,en 12,en 13,en 14,eh 15,en 16,eh 17]),(35,[en 0,en 1,en 2,en 3,en 4,en 5,en 6,en 7,en 8,en 9,en 10,ec 11 [164,168],en 12,en 13])]⟩
def xn:Hint:=⟨[hc 2 [0,2,4,10,11]],[],[]⟩
def xI:Hint:=⟨[hc 1 [0,1,2,3,10]],[],[(3,[en 0,en 1,en 2,en 3,en 4,en 5,en 6,en 7,en 8,en 9,en 10,en 11,en 12,en 13,en 14,en 15,en 16,en 17,en 18,en 19,en 20,eh 21,en 22,eh 23])]⟩
def zq (Q:QT [.sl 9]) (N0:Nat) (a7:Option Addr) (e7:List D) (c7 m8 c8:Nat) (a25:Option Addr) (e25:List D) (c25:Nat) (n26 n27:Int) (r0:List D) (q0:Nat) (N:Nat):Prop:=AT prog 9 [.sl 9] Q N0 .ord (zD prog 9 6) ⟨an 7 (.sv a7 9 e7 c7::.sb 0 9 0 m8 c8::an 16 (.sv a25 9 e25 c25::.int .i64 n26::.int .i64 n27::an 27 [])),[.arr 39 9 r0 q0],N,none⟩
def z9 (Q:QT [.int .i64]) (N0:Nat) (a0:Option Addr) (e0:List D) (c0:Nat) (a1_0:Addr) (x1_0_:D) (n7 n8:Int) (N:Nat):Prop:=AT prog 67 [.int .i64] Q N0 .ord (zD prog 67 2) ⟨.sv a0 9 e0 c0::.fn 33 [.pd a1_0 9 x1_0_]::an 5 (.int .i64 n7::.int .i64 n8::an 10 []),[],N,none⟩
def zX (E:Env) (Q:QT [(Sh.sl 9)]) (N0:Nat) (nX cX:Nat) (m0 c0:Nat) (n1 n6 n7 n8:Int) (r0:List D) (q0:Nat) (N:Nat):Prop:=AT prog 68 [(Sh.sl 9)] Q N0 (.fx E 39 9 nX cX) (zD prog 68 2) ⟨.sb 0 9 0 m0 c0::.int .i64 n1::.fn 37 []::an 3 (.int .i64 n6::.int .i64 n7::.int .i64 n8::an 54 []),[.arr 39 9 r0 q0],N,some ([E.at 0],[])⟩
def zJ (E:Env) (Q:QT [(Sh.sl 9)]) (N0:Nat) (nX cX:Nat) (m0 c0:Nat) (n1 n6:Int) (r0:List D) (q0:Nat) (N:Nat):Prop:=AT prog 68 [(Sh.sl 9)] Q N0 (.fx E 39 9 nX cX) (zD prog 68 7) ⟨.sb 0 9 0 m0 c0::.int .i64 n1::.fn 37 []::an 3 (.int .i64 n6::an 56 []),[.arr 39 9 r0 q0],N,some ([E.at 0],[])⟩
def zL (E:Env) (Q:QT [(Sh.sl 9)]) (N0:Nat) (nX cX:Nat) (m0 c0:Nat) (n1 n2 n8:Int) (r0:List D) (q0:Nat) (N:Nat):Prop:=AT prog 97 [(Sh.sl 9)] Q N0 (.fx E 39 9 nX cX) (zD prog 97 1) ⟨.sb 0 9 0 m0 c0::.int .i64 n1::.int .i64 n2::.fn 37 []::an 4 (.int .i64 n8::an 44 []),[.arr 39 9 r0 q0],N,some ([E.at 0],[])⟩
def zo (E:Env) (Q:QT [(Sh.sl 9)]) (N0:Nat) (nX cX:Nat) (m0 c0:Nat) (n1 n6 n7 n8:Int) (r0:List D) (q0:Nat) (N:Nat):Prop:=AT prog 68 [(Sh.sl 9)] Q N0 (.fx E 39 9 nX cX) (zD prog 68 9) ⟨.sb 0 9 0 m0 c0::.int .i64 n1::.fn 37 []::an 3 (.int .i64 n6::.int .i64 n7::.int .i64 n8::an 54 []),[.arr 39 9 r0 q0],N,some ([E.at 0],[])⟩
def zU (E:Env) (Q:QT [(Sh.sl 9)]) (N0:Nat) (nX cX:Nat) (m0 c0:Nat) (n1 n2 n8 n9:Int) (r0:List D) (q0:Nat) (N:Nat):Prop:=AT prog 97 [(Sh.sl 9)] Q N0 (.fx E 39 9 nX cX) (zD prog 97 4) ⟨.sb 0 9 0 m0 c0::.int .i64 n1::.int .i64 n2::.fn 37 []::an 4 (.int .i64 n8::.int .i64 n9::an 43 []),[.arr 39 9 r0 q0],N,some ([E.at 0],[])⟩
def zN (E:Env) (Q:QT [(Sh.sl 9)]) (N0:Nat) (nX cX:Nat) (m0 c0:Nat) (n1 n10 n11:Int) (r0:List D) (q0:Nat) (N:Nat):Prop:=AT prog 98 [(Sh.sl 9)] Q N0 (.fx E 39 9 nX cX) (zD prog 98 3) ⟨.sb 0 9 0 m0 c0::.int .i64 n1::an 2 (.fn 37 []::an 5 (.int .i64 n10::.int .i64 n11::an 208 [])),[.arr 39 9 r0 q0],N,some ([E.at 0],[])⟩
def zK (E:Env) (Q:QT [(Sh.sl 9)]) (N0:Nat) (nX cX:Nat) (m0 c0:Nat) (n2 n14 n15:Int) (r0:List D) (q0:Nat) (N:Nat):Prop:=AT prog 98 [(Sh.sl 9)] Q N0 (.fx E 39 9 nX cX) (zD prog 98 15) ⟨.sb 0 9 0 m0 c0::an 1 (.int .i64 n2::an 1 (.fn 37 []::an 9 (.int .i64 n14::.int .i64 n15::an 204 []))),[.arr 39 9 r0 q0],N,some ([E.at 0],[])⟩
def zE (E:Env) (Q:QT [(Sh.sl 9)]) (N0:Nat) (nX cX:Nat) (m0 c0:Nat) (n1 n2 n3 n18 n19 n20 n21 n22:Int) (r0:List D) (q0:Nat) (N:Nat):Prop:=AT prog 98 [(Sh.sl 9)] Q N0 (.fx E 39 9 nX cX) (zD prog 98 33) ⟨.sb 0 9 0 m0 c0::.int .i64 n1::.int .i64 n2::.int .i64 n3::.fn 37 []::an 13 (.int .i64 n18::.int .i64 n19::.int .i64 n20::.int .i64 n21::.int .i64 n22::an 197 []),[.arr 39 9 r0 q0],N,some ([E.at 0],[])⟩
def zj (E:Env) (Q:QT [(Sh.sl 9)]) (N0:Nat) (nX cX:Nat) (m0 c0:Nat) (n10 n13:Int) (r0:List D) (q0:Nat) (N:Nat):Prop:=AT prog 98 [(Sh.sl 9)] Q N0 (.fx E 39 9 nX cX) (zD prog 98 9) ⟨.sb 0 9 0 m0 c0::an 9 (.int .i64 n10::an 2 (.int .i64 n13::an 206 [])),[.arr 39 9 r0 q0],N,some ([E.at 0],[])⟩
def zf (E:Env) (Q:QT [(Sh.sl 9)]) (N0:Nat) (nX cX:Nat) (m0 c0:Nat) (n14 n17:Int) (r0:List D) (q0:Nat) (N:Nat):Prop:=AT prog 98 [(Sh.sl 9)] Q N0 (.fx E 39 9 nX cX) (zD prog 98 21) ⟨.sb 0 9 0 m0 c0::an 13 (.int .i64 n14::an 2 (.int .i64 n17::an 202 [])),[.arr 39 9 r0 q0],N,some ([E.at 0],[])⟩
def zS (E:Env) (Q:QT [(Sh.sl 9)]) (N0:Nat) (nX cX:Nat) (m0 c0:Nat) (n1 n3 n18 n20 n24:Int) (r0:List D) (q0:Nat) (N:Nat):Prop:=AT prog 98 [(Sh.sl 9)] Q N0 (.fx E 39 9 nX cX) (zM0 prog 98 41) ⟨.sb 0 9 0 m0 c0::.int .i64 n1::an 1 (.int .i64 n3::.fn 37 []::an 13 (.int .i64 n18::an 1 (.int .i64 n20::an 3 (.int .i64 n24::an 195 [])))),[.arr 39 9 r0 q0],N,some ([E.at 0],[])⟩
def zV (E:Env) (Q:QT [(Sh.sl 9)]) (N0:Nat) (nX cX:Nat) (m0 c0:Nat) (n2 n10 n11:Int) (r0:List D) (q0:Nat) (N:Nat):Prop:=AT prog 127 [(Sh.sl 9)] Q N0 (.fx E 39 9 nX cX) (zD prog 127 2) ⟨.sb 0 9 0 m0 c0::an 1 (.int .i64 n2::an 1 (.fn 37 []::an 5 (.int .i64 n10::.int .i64 n11::an 46 []))),[.arr 39 9 r0 q0],N,some ([E.at 0],[])⟩
def zT (E:Env) (Q:QT [(Sh.sl 9)]) (N0:Nat) (nX cX:Nat) (m0 c0:Nat) (n3 n18 n24:Int) (r0:List D) (q0:Nat) (N:Nat):Prop:=AT prog 98 [(Sh.sl 9)] Q N0 (.fx E 39 9 nX cX) (zM0 prog 98 43) ⟨.sb 0 9 0 m0 c0::an 2 (.int .i64 n3::.fn 37 []::an 13 (.int .i64 n18::an 5 (.int .i64 n24::an 195 []))),[.arr 39 9 r0 q0],N,some ([E.at 0],[])⟩
def zg (E:Env) (Q:QT [(Sh.sl 9)]) (N0:Nat) (nX cX:Nat) (m0 c0:Nat) (n1 n2 n3 n10:Int) (r0:List D) (q0:Nat) (N:Nat):Prop:=AT prog 155 [(Sh.sl 9)] Q N0 (.fx E 39 9 nX cX) (zD prog 155 1) ⟨.sb 0 9 0 m0 c0::.int .i64 n1::.int .i64 n2::.int .i64 n3::an 6 (.int .i64 n10::an 27 []),[.arr 39 9 r0 q0],N,some ([E.at 0],[])⟩
theorem zCB (N:Nat) (a0:Option Addr) (e0:List D) (c0:Nat) (x1:D) (Q:QT [.sl 9]) (h :
Bel N (D.sl a0 4 e0 c0)→Bel N x1→∀ d,N≤d→ACalls prog 30 [.ag 2,.bool] [.sv a0 4 e0 c0,.dg 9 x1] d (fun x b e=>d≤e→Bel e x→Br (!b)
 (∀ a,e≤a→Q Option.none [] 0 a) (∀ b,e≤b→ACalls prog 32 [.sl 0] [.sv a0 4 e0 c0] b (fun a c d e=>b≤e→Bel e (D.sl a 0 c d)
 → ∀ b,e≤b→ACalls prog 31 [.sl 9] [.sv a 0 c d,.sv Option.none 0 [] 0,.dg 9 x1] b (fun a c d e=>b≤e→Bel e (D.sl a 9 c d)
 → zq Q N a c d 0 0 a c d (c.length:Int) 0 [] 0 e))))):ACalls prog 9 [.sl 9] [PV.sv a0 4 e0 c0,PV.dg 9 x1] N Q:=
  eE (H:=t5) (by kernel_rfl) (by kernel_rfl) h
theorem zAC (N:Nat) (x0 x1:D) (Q:QT [.int .i64]) (h :
Bel N x0→Bel N x1→∀ a,N≤a→ACalls prog 38 [.int .i64] [.dg 9 x1] a (fun n b=>a≤b→∀ a,b≤a→ACalls prog 38 [.int .i64] [.dg 9 x0]
 a (fun b c=>a≤c→∀ a,c≤a→Q (IntKind.i64.wrap (n - b)) a))):ACalls prog 37 [.int .i64] [PV.dg 9 x0,PV.dg 9 x1] N Q:=
  eE (H:=zAF) (by kernel_rfl) (by kernel_rfl) h
theorem uQ (Q:QT [.sl 9]) (N0:Nat) (a7:Option Addr) (e7:List D) (c7 m8 c8:Nat) (a25:Option Addr) (e25:List D) (c25:Nat) (n26 n27:Int) (r0:List D) (q0:Nat) (N:Nat) (h :
Br (decide (n27<n26)) ((0≤n27∧n27<(e25.length:Int))∧((0:Int)≤(0:Int)∧0≤n27∧n27≤(e7.length:Int))∧∀ a,ApA (Option.some a) [List.getD
 e25 n27.toNat default]→Off [Option.some a] (D.sl (if (c7:Int)=0 then a7 else Option.map (fun x=>Addr.add x 0) a7) 9 (List.drop 0 (List.take n27.toNat e7))
 (c7 - 0:Nat))→∀ d,N≤d→tW d [Option.some a]→ACalls prog 35 [.bool] [.sv (if (c7:Int)=0 then a7 else Option.map (fun a=>Addr.add a 0)
 a7) 9 (List.drop 0 (List.take n27.toNat e7)) (c7 - 0:Nat),.fn 33 [.pd a 9 (List.getD e25 n27.toNat default)]] d (fun b a=>d≤a→Br (!b) ((0≤IntKind.i64.wrap
 (n27+1)∧IntKind.i64.wrap (n27+1)≤(e7.length:Int)∧(e7.length:Int)≤(e7.length:Int))∧∀ b,ApA (Option.some b) [List.getD e25 n27.toNat default]
 → Off [Option.some b] (D.sl (if (c7:Int)=IntKind.i64.wrap (n27+1) then a7 else Option.map (fun a=>Addr.add a ((IntKind.i64.wrap (n27+1)).toNat *
 9:Nat)) a7) 9 (List.drop (IntKind.i64.wrap (n27+1)).toNat (List.take ((e7.length:Int)).toNat e7)) (c7 - (IntKind.i64.wrap (n27+1)).toNat:Nat))→∀ d,
 a≤d→tW d [Option.some b]→ACalls prog 35 [.bool] [.sv (if (c7:Int)=IntKind.i64.wrap (n27+1) then a7 else Option.map (fun a=>Addr.add a
 ((IntKind.i64.wrap (n27+1)).toNat*9:Nat)) a7) 9 (List.drop (IntKind.i64.wrap (n27+1)).toNat (List.take ((e7.length:Int)).toNat e7)) (c7 - (IntKind.i64.wrap
 (n27+1)).toNat:Nat),.fn 33 [.pd b 9 (List.getD e25 n27.toNat default)]] d (fun a b=>d≤b→Br a ((m8=r0.length∧c8=q0)∧zC r0 [List.getD
 e25 n27.toNat default] 136∧∀ (c:Nat),zq Q N0 a7 e7 c7 (r0++[List.getD e25 n27.toNat default]).length c a25 e25 c25 n26 (IntKind.i64.wrap
 (n27+1)) (r0++[List.getD e25 n27.toNat default]) c b) (zq Q N0 a7 e7 c7 m8 c8 a25 e25 c25 n26 (IntKind.i64.wrap (n27+1)) r0 q0 b))) (zq
 Q N0 a7 e7 c7 m8 c8 a25 e25 c25 n26 (IntKind.i64.wrap (n27+1)) r0 q0 a))) (∀ b,N≤b→XCalls prog 36 [.sl 9] [.sb 0 9 0 m8 c8,.fn 37 []] [Bx.arr 39 9
 r0 q0] b (fun _ a _ c=>b≤c→Bel c (D.ag a)→a.length=r0.length→(m8=a.length∧c8=q0)∧(m8=a.length∧c8=q0)∧(m8=a.length
 ∧ c8=q0)∧(m8=a.length∧c8=q0)∧∀ b d,c≤d→Fresh N0 d b [D.ag a]→∀ c,d≤c→Q b a q0 c))):zq Q N0 a7 e7 c7 m8 c8 a25 e25 c25 n26 n27 r0 q0 N:=
  hE (H:=t5) (by kernel_rfl) h
theorem ve (N:Nat) (a0:Option Addr) (e0:List D) (c0:Nat) (a1_0:Addr) (x1_0_:D) (Q:QT [.bool]) (h :
Bel N (D.sl a0 9 e0 c0)→∀ a,N≤a→ACalls prog 67 [.int .i64] [.sv a0 9 e0 c0,.fn 33 [.pd a1_0 9 x1_0_]] a (fun n b=>a≤b→∀ a,b≤a
 → Q (decide (n≥0)) a)):ACalls prog 35 [.bool] [.sv a0 9 e0 c0,.fn 33 [.pd a1_0 9 x1_0_]] N Q:=
  eE (H:=ud) (by kernel_rfl) (by kernel_rfl) h
theorem vV (N:Nat) (m0 c0:Nat) (rB0:List D) (qB0:Nat) (Q:QT [(Sh.sl 9)]) (h:∀ E:Env,
Bel N (D.sl Option.none 9 rB0 qB0)→∀ b,N≤b→XCalls prog 68 [.sl 9] [.sb 0 9 0 m0 c0,.int .i64 (m0:Int),.fn 37 []] [Bx.arr 39 9 rB0 qB0] b (fun _
 a _ c=>b≤c→Bel c (D.ag a)→a.length=rB0.length→zFX E∧(a.length=rB0.length∧qB0=qB0)∧∀ b,c≤b→Q Option.none a qB0 b) 
 ):XCalls prog 36 [(Sh.sl 9)] [.sb 0 9 0 m0 c0,.fn 37 []] [.arr 39 9 rB0 qB0] N Q:=
  xE (H:=uH) (by kernel_rfl) (fun E=>by kernel_rfl) h
theorem ur (N:Nat) (a0:Option Addr) (e0:List D) (c0:Nat) (a1_0:Addr) (x1_0_:D) (Q:QT [.int .i64]) (h :
Bel N (D.sl a0 9 e0 c0)→z9 Q N a0 e0 c0 a1_0 x1_0_ (e0.length:Int) 0 N):ACalls prog 67 [.int .i64] [.sv a0 9 e0 c0,.fn 33 [.pd a1_0 9 x1_0_]] N Q:=
 eE (H:=wt) (by kernel_rfl) (by kernel_rfl) h
theorem vn (N:Nat) (m0 c0:Nat) (n1:Int) (rB0:List D) (qB0:Nat) (Q:QT [(Sh.sl 9)]) (h:∀ E:Env,
Bel N (D.sl Option.none 9 rB0 qB0)→zX E Q N rB0.length qB0 m0 c0 n1 20 0 20 rB0 qB0 N):XCalls prog 68 [(Sh.sl 9)] [.sb 0 9 0 m0 c0,.int .i64 n1,.fn 37 []] [.arr 39 9 rB0 qB0] N Q:=
 xE (H:=z4) (by kernel_rfl) (fun E=>by kernel_rfl) h
theorem wH (Q:QT [.int .i64]) (N0:Nat) (a0:Option Addr) (e0:List D) (c0:Nat) (a1_0:Addr) (x1_0_:D) (n7 n8:Int) (N:Nat) (h :
Br (decide (n8<n7)) ((0≤n8∧n8<(e0.length:Int))∧∀ a,N≤a→ACalls prog 33 [.bool] [.dg 9 (List.getD e0 n8.toNat default),.pd a1_0 9 x1_0_] a
 (fun b c=>a≤c→Br b (∀ a,c≤a→Q n8 a) (z9 Q N0 a0 e0 c0 a1_0 x1_0_ n7 (IntKind.i64.wrap (n8+1)) c))) (∀ a,N
 ≤ a→Q (-1) a)):z9 Q N0 a0 e0 c0 a1_0 x1_0_ n7 n8 N:=
  hE (H:=wt) (by kernel_rfl) h
theorem xQ (E:Env) (Q:QT [(Sh.sl 9)]) (N0:Nat) (nX cX:Nat) (m0 c0:Nat) (n1 n6 n7 n8:Int) (r0:List D) (q0:Nat) (N:Nat) (h :
Br (decide (n8≤n1)) (∀ b,N≤b→XCalls prog 97 [.sl 9] [.sb 0 9 0 m0 c0,.int .i64 n7,.int .i64 n8,.fn 37 []] [Bx.arr 39 9 r0 q0] b (fun _ a _ c=>
 b≤c→Bel c (D.ag a)→a.length=r0.length→zX E Q N0 nX cX m0 c0 n1 n6 n8 (IntKind.i64.wrap (n8+n6)) a q0 c)) (∀ a,
 N≤a→XCalls prog 97 [.sl 9] [.sb 0 9 0 m0 c0,.int .i64 n7,.int .i64 n1,.fn 37 []] [Bx.arr 39 9 r0 q0] a (fun _ b _ c=>a≤c→Bel c (D.ag
 b)→b.length=r0.length→zJ E Q N0 nX cX m0 c0 n1 n6 b q0 c))):zX E Q N0 nX cX m0 c0 n1 n6 n7 n8 r0 q0 N:=
  hE (H:=z4) (by kernel_rfl) h
theorem rZ (N:Nat) (x0:D) (a1:Addr) (x1_:D) (Q:QT [.bool]) (h :
Bel N x0→∀ a,N≤a→ACalls prog 34 [.bool] [.dg 9 x1_,.dg 9 x0] a (fun b c=>a≤c→∀ a,c≤a→Q b a)):ACalls prog 33 [.bool] [.dg 9 x0,.pd a1 9 x1_] N Q:=
 eE (H:=px) (by kernel_rfl) (by kernel_rfl) h
theorem wI (N:Nat) (m0 c0:Nat) (n1 n2:Int) (rB0:List D) (qB0:Nat) (Q:QT [(Sh.sl 9)]) (h:∀ E:Env,
Bel N (D.sl Option.none 9 rB0 qB0)→zL E Q N rB0.length qB0 m0 c0 n1 n2 (IntKind.i64.wrap (n1+1)) rB0 qB0 N):XCalls prog 97 [(Sh.sl 9)] [.sb 0 9 0 m0 c0,.int .i64 n1,.int .i64 n2,.fn 37 []] [.arr 39 9 rB0 qB0] N Q:=
 xE (H:=zr) (by kernel_rfl) (fun E=>by kernel_rfl) h
theorem xT (E:Env) (Q:QT [(Sh.sl 9)]) (N0:Nat) (nX cX:Nat) (m0 c0:Nat) (n1 n6:Int) (r0:List D) (q0:Nat) (N:Nat) (h :
Br (decide (n6<n1)) (zo E Q N0 nX cX m0 c0 n1 n6 0 (IntKind.i64.wrap (2*n6)) r0 q0 N) (zFX E∧(r0.length=nX∧q0=cX)∧∀ a,
 N≤a→Q Option.none r0 cX a)):zJ E Q N0 nX cX m0 c0 n1 n6 r0 q0 N:=
  hE (H:=z4) (by kernel_rfl) h
theorem zl (E:Env) (Q:QT [(Sh.sl 9)]) (N0:Nat) (nX cX:Nat) (m0 c0:Nat) (n1 n2 n8:Int) (r0:List D) (q0:Nat) (N:Nat) (h :
Br (decide (n8<n2)) (zU E Q N0 nX cX m0 c0 n1 n2 n8 n8 r0 q0 N) (zFX E∧(r0.length=nX∧q0=cX)∧∀ a,N≤a→Q Option.none
 r0 cX a)):zL E Q N0 nX cX m0 c0 n1 n2 n8 r0 q0 N:=
  hE (H:=zr) (by kernel_rfl) h
theorem xR (E:Env) (Q:QT [(Sh.sl 9)]) (N0:Nat) (nX cX:Nat) (m0 c0:Nat) (n1 n6 n7 n8:Int) (r0:List D) (q0:Nat) (N:Nat) (h :
Br (decide (n8≤n1)) (∀ b,N≤b→XCalls prog 98 [.sl 9] [.sb 0 9 0 m0 c0,.int .i64 n7,.int .i64 (IntKind.i64.wrap (n7+n6)),.int .i64 n8,.fn 37 []] [Bx.arr
 39 9 r0 q0] b (fun _ a _ c=>b≤c→Bel c (D.ag a)→a.length=r0.length→zo E Q N0 nX cX m0 c0 n1 n6 n8 (IntKind.i64.wrap
 (n8+IntKind.i64.wrap (2*n6))) a q0 c)) (Br (decide (IntKind.i64.wrap (n7+n6)<n1)) (∀ a,N≤a→XCalls prog 98 [.sl 9] [.sb 0 9 0 m0 c0,.int .i64
 n7,.int .i64 (IntKind.i64.wrap (n7+n6)),.int .i64 n1,.fn 37 []] [Bx.arr 39 9 r0 q0] a (fun _ b _ c=>a≤c→Bel c (D.ag b)→b.length
 = r0.length→zJ E Q N0 nX cX m0 c0 n1 (IntKind.i64.wrap (n6*2)) b q0 c)) (zJ E Q N0 nX cX m0 c0 n1
 (IntKind.i64.wrap (n6*2)) r0 q0 N))):zo E Q N0 nX cX m0 c0 n1 n6 n7 n8 r0 q0 N:=
  hE (H:=z4) (by kernel_rfl) h
theorem yW (E:Env) (Q:QT [(Sh.sl 9)]) (N0:Nat) (nX cX:Nat) (m0 c0:Nat) (n1 n2 n8 n9:Int) (r0:List D) (q0:Nat) (N:Nat) (h :
Br (decide (n9>n1)) ((0≤n9∧n9<(m0:Int)∧(0+n9.toNat:Nat)<r0.length)∧(0+n9.toNat:Nat)<r0.length∧(0≤IntKind.i64.wrap (n9 - 1)∧IntKind.i64.wrap
 (n9 - 1)<(m0:Int)∧(0+(IntKind.i64.wrap (n9 - 1)).toNat:Nat)<r0.length)∧(0+(IntKind.i64.wrap (n9 - 1)).toNat:Nat)<r0.length∧∀ a,N≤a →
 ACalls prog 37 [.int .i64] [.dg 9 (List.getD r0 (0+n9.toNat:Nat) default),.dg 9 (List.getD r0 (0+(IntKind.i64.wrap (n9 - 1)).toNat:Nat) default)] a (fun
 n b=>a≤b→Br (decide (n<0)) ((0≤IntKind.i64.wrap (n9 - 1)∧IntKind.i64.wrap (n9 - 1)<(m0:Int)∧(0+(IntKind.i64.wrap (n9 - 1)).toNat:Nat)
 < r0.length)∧(0+(IntKind.i64.wrap (n9 - 1)).toNat:Nat)<r0.length∧(0≤n9∧n9<(m0:Int)∧(0+n9.toNat:Nat)<r0.length)∧(0+n9.toNat:Nat) <
 r0.length∧(0≤n9∧n9<(m0:Int)∧(0+n9.toNat:Nat)<r0.length)∧(0+n9.toNat:Nat)<r0.length∧(0≤IntKind.i64.wrap (n9 - 1)∧IntKind.i64.wrap
 (n9 - 1)<(m0:Int)∧(0+(IntKind.i64.wrap (n9 - 1)).toNat:Nat)<(List.set r0 (0+n9.toNat:Nat) (List.getD r0 (0+(IntKind.i64.wrap (n9 - 1)).toNat :
 Nat) default)).length)∧(0+(IntKind.i64.wrap (n9 - 1)).toNat:Nat)<(List.set r0 (0+n9.toNat:Nat) (List.getD r0 (0+(IntKind.i64.wrap (n9 - 1)).toNat :
 Nat) default)).length∧zU E Q N0 nX cX m0 c0 n1 n2 n8 (IntKind.i64.wrap (n9 - 1)) (List.set (List.set r0 (0+n9.toNat:Nat)
 (List.getD r0 (0+(IntKind.i64.wrap (n9 - 1)).toNat:Nat) default)) (0+(IntKind.i64.wrap (n9 - 1)).toNat:Nat) (List.getD r0 (0+n9.toNat:Nat) default))
 q0 b) (zL E Q N0 nX cX m0 c0 n1 n2 (IntKind.i64.wrap (n8+1)) r0 q0 b))) (zL E Q N0 nX cX
 m0 c0 n1 n2 (IntKind.i64.wrap (n8+1)) r0 q0 N)):zU E Q N0 nX cX m0 c0 n1 n2 n8 n9 r0 q0 N:=
  hE (H:=zr) (by kernel_rfl) h
theorem vN (N:Nat) (m0 c0:Nat) (n1 n2 n3:Int) (rB0:List D) (qB0:Nat) (Q:QT [(Sh.sl 9)]) (h:∀ E:Env,
Bel N (D.sl Option.none 9 rB0 qB0)→Br (IntKind.i64.wrap (n2 - n1)==1) (zN E Q N rB0.length qB0 m0 c0 n1 n2 n3 rB0 qB0 N) (Br (IntKind.i64.wrap
 (n3 - n2)==1) (zK E Q N rB0.length qB0 m0 c0 n2 n1 n2 rB0 qB0 N) ((0:Int)≤(1:Int)∧Br (decide (n2>IntKind.i64.wrap (Int.fdiv
 (IntKind.u64.wrap (IntKind.i64.wrap (n1+n3))) 2))) (zE E Q N rB0.length qB0 m0 c0 n1 n2 n3 (IntKind.i64.wrap (Int.fdiv (IntKind.u64.wrap
 (IntKind.i64.wrap (n1+n3))) 2)) (IntKind.i64.wrap (IntKind.i64.wrap (Int.fdiv (IntKind.u64.wrap (IntKind.i64.wrap (n1+n3))) 2)+n2)) (IntKind.i64.wrap (IntKind.i64.wrap
 (IntKind.i64.wrap (Int.fdiv (IntKind.u64.wrap (IntKind.i64.wrap (n1+n3))) 2)+n2) - n3)) (IntKind.i64.wrap (Int.fdiv (IntKind.u64.wrap (IntKind.i64.wrap (n1 +
 n3))) 2)) (IntKind.i64.wrap (IntKind.i64.wrap (IntKind.i64.wrap (Int.fdiv (IntKind.u64.wrap (IntKind.i64.wrap (n1+n3))) 2)+n2) - 1)) rB0 qB0 N) (zE
 E Q N rB0.length qB0 m0 c0 n1 n2 n3 (IntKind.i64.wrap (Int.fdiv (IntKind.u64.wrap (IntKind.i64.wrap (n1+n3))) 2)) (IntKind.i64.wrap (IntKind.i64.wrap (Int.fdiv
 (IntKind.u64.wrap (IntKind.i64.wrap (n1+n3))) 2)+n2)) n1 n2 (IntKind.i64.wrap (IntKind.i64.wrap (IntKind.i64.wrap (Int.fdiv (IntKind.u64.wrap (IntKind.i64.wrap
 (n1+n3))) 2)+n2) - 1)) rB0 qB0 N)))):XCalls prog 98 [(Sh.sl 9)] [.sb 0 9 0 m0 c0,.int .i64 n1,.int .i64 n2,.int .i64 n3,.fn 37 []] [.arr 39 9 rB0 qB0] N Q:=
  xE (H:=zG) (by kernel_rfl) (fun E=>by kernel_rfl) h
theorem y7 (E:Env) (Q:QT [(Sh.sl 9)]) (N0:Nat) (nX cX:Nat) (m0 c0:Nat) (n1 n10 n11:Int) (r0:List D) (q0:Nat) (N:Nat) (h :
Br (decide (n10<n11)) ((0:Int)≤(1:Int)∧(0≤IntKind.i64.wrap (Int.fdiv (IntKind.u64.wrap (IntKind.i64.wrap (n10+n11))) 2)∧IntKind.i64.wrap (Int.fdiv
 (IntKind.u64.wrap (IntKind.i64.wrap (n10+n11))) 2)<(m0:Int)∧(0+(IntKind.i64.wrap (Int.fdiv (IntKind.u64.wrap (IntKind.i64.wrap (n10+n11))) 2)).toNat
 : Nat)<r0.length)∧(0+(IntKind.i64.wrap (Int.fdiv (IntKind.u64.wrap (IntKind.i64.wrap (n10+n11))) 2)).toNat:Nat)<r0.length∧(0≤n1∧n1<(m0:Int)
 ∧ (0+n1.toNat:Nat)<r0.length)∧(0+n1.toNat:Nat)<r0.length∧∀ a,N≤a→ACalls prog 37 [.int .i64] [.dg 9 (List.getD r0 (0+(IntKind.i64.wrap
 (Int.fdiv (IntKind.u64.wrap (IntKind.i64.wrap (n10+n11))) 2)).toNat:Nat) default),.dg 9 (List.getD r0 (0+n1.toNat:Nat) default)] a (fun n b=>a ≤
 b→Br (decide (n<0)) (zN E Q N0 nX cX m0 c0 n1 (IntKind.i64.wrap (IntKind.i64.wrap (Int.fdiv (IntKind.u64.wrap (IntKind.i64.wrap
 (n10+n11))) 2)+1)) n11 r0 q0 b) (zN E Q N0 nX cX m0 c0 n1 n10 (IntKind.i64.wrap (Int.fdiv (IntKind.u64.wrap (IntKind.i64.wrap
 (n10+n11))) 2)) r0 q0 b))) (zj E Q N0 nX cX m0 c0 n10 n1 r0 q0 N)):zN E Q N0 nX cX m0 c0 n1 n10 n11 r0 q0 N:=
  hE (H:=zG) (by kernel_rfl) h
theorem yu (E:Env) (Q:QT [(Sh.sl 9)]) (N0:Nat) (nX cX:Nat) (m0 c0:Nat) (n2 n14 n15:Int) (r0:List D) (q0:Nat) (N:Nat) (h :
Br (decide (n14<n15)) ((0:Int)≤(1:Int)∧(0≤n2∧n2<(m0:Int)∧(0+n2.toNat:Nat)<r0.length)∧(0+n2.toNat:Nat)<r0.length∧(0≤IntKind.i64.wrap
 (Int.fdiv (IntKind.u64.wrap (IntKind.i64.wrap (n14+n15))) 2)∧IntKind.i64.wrap (Int.fdiv (IntKind.u64.wrap (IntKind.i64.wrap (n14+n15))) 2)<(m0:Int)∧(0
 + (IntKind.i64.wrap (Int.fdiv (IntKind.u64.wrap (IntKind.i64.wrap (n14+n15))) 2)).toNat:Nat)<r0.length)∧(0+(IntKind.i64.wrap (Int.fdiv (IntKind.u64.wrap
 (IntKind.i64.wrap (n14+n15))) 2)).toNat:Nat)<r0.length∧∀ a,N≤a→ACalls prog 37 [.int .i64] [.dg 9 (List.getD r0 (0+n2.toNat:Nat) default),.dg
 9 (List.getD r0 (0+(IntKind.i64.wrap (Int.fdiv (IntKind.u64.wrap (IntKind.i64.wrap (n14+n15))) 2)).toNat:Nat) default)] a (fun n b=>a≤b→Br (!(decide
 (n<0))) (zK E Q N0 nX cX m0 c0 n2 (IntKind.i64.wrap (IntKind.i64.wrap (Int.fdiv (IntKind.u64.wrap (IntKind.i64.wrap (n14+n15)))
 2)+1)) n15 r0 q0 b) (zK E Q N0 nX cX m0 c0 n2 n14 (IntKind.i64.wrap (Int.fdiv (IntKind.u64.wrap (IntKind.i64.wrap (n14+n15)))
 2)) r0 q0 b))) (zf E Q N0 nX cX m0 c0 n14 n2 r0 q0 N)):zK E Q N0 nX cX m0 c0 n2 n14 n15 r0 q0 N:=
  hE (H:=zG) (by kernel_rfl) h
theorem yv (E:Env) (Q:QT [(Sh.sl 9)]) (N0:Nat) (nX cX:Nat) (m0 c0:Nat) (n1 n2 n3 n18 n19 n20 n21 n22:Int) (r0:List D) (q0:Nat) (N:Nat) (h :
Br (decide (n20<n21)) ((0:Int)≤(1:Int)∧(0≤IntKind.i64.wrap (n22 - IntKind.i64.wrap (Int.fdiv (IntKind.u64.wrap (IntKind.i64.wrap (n20+n21))) 2)) ∧
 IntKind.i64.wrap (n22 - IntKind.i64.wrap (Int.fdiv (IntKind.u64.wrap (IntKind.i64.wrap (n20+n21))) 2))<(m0:Int)∧(0+(IntKind.i64.wrap (n22 - IntKind.i64.wrap
 (Int.fdiv (IntKind.u64.wrap (IntKind.i64.wrap (n20+n21))) 2))).toNat:Nat)<r0.length)∧(0+(IntKind.i64.wrap (n22 - IntKind.i64.wrap (Int.fdiv (IntKind.u64.wrap
 (IntKind.i64.wrap (n20+n21))) 2))).toNat:Nat)<r0.length∧(0≤IntKind.i64.wrap (Int.fdiv (IntKind.u64.wrap (IntKind.i64.wrap (n20+n21))) 2)∧IntKind.i64.wrap
 (Int.fdiv (IntKind.u64.wrap (IntKind.i64.wrap (n20+n21))) 2)<(m0:Int)∧(0+(IntKind.i64.wrap (Int.fdiv (IntKind.u64.wrap (IntKind.i64.wrap (n20+n21)))
 2)).toNat:Nat)<r0.length)∧(0+(IntKind.i64.wrap (Int.fdiv (IntKind.u64.wrap (IntKind.i64.wrap (n20+n21))) 2)).toNat:Nat)<r0.length∧∀ a,N≤a
 → ACalls prog 37 [.int .i64] [.dg 9 (List.getD r0 (0+(IntKind.i64.wrap (n22 - IntKind.i64.wrap (Int.fdiv (IntKind.u64.wrap (IntKind.i64.wrap (n20+n21))) 2))).toNat
 : Nat) default),.dg 9 (List.getD r0 (0+(IntKind.i64.wrap (Int.fdiv (IntKind.u64.wrap (IntKind.i64.wrap (n20+n21))) 2)).toNat:Nat) default)] a (fun n b
 => a≤b→Br (!(decide (n<0))) (zE E Q N0 nX cX m0 c0 n1 n2 n3 n18 n19 (IntKind.i64.wrap (IntKind.i64.wrap (Int.fdiv (IntKind.u64.wrap
 (IntKind.i64.wrap (n20+n21))) 2)+1)) n21 n22 r0 q0 b) (zE E Q N0 nX cX m0 c0 n1 n2 n3 n18 n19 n20 (IntKind.i64.wrap (Int.fdiv
 (IntKind.u64.wrap (IntKind.i64.wrap (n20+n21))) 2)) n22 r0 q0 b))) (Br (decide (n20<n2)) (Br (decide (n2<IntKind.i64.wrap (n19 - n20))) (∀ b,N≤b →
 XCalls prog 127 [.sl 9] [.sb 0 9 0 m0 c0,.int .i64 n20,.int .i64 n2,.int .i64 (IntKind.i64.wrap (n19 - n20)),.fn 37 []] [Bx.arr 39 9 r0 q0] b (fun _ a _ c
 => b≤c→Bel c (D.ag a)→a.length=r0.length→zS E Q N0 nX cX m0 c0 n1 n3 n18 n20 (IntKind.i64.wrap (n19 - n20)) a q0
 c)) (zS E Q N0 nX cX m0 c0 n1 n3 n18 n20 (IntKind.i64.wrap (n19 - n20)) r0 q0 N)) (zS E Q N0 nX cX
 m0 c0 n1 n3 n18 n20 (IntKind.i64.wrap (n19 - n20)) r0 q0 N))):zE E Q N0 nX cX m0 c0 n1 n2 n3 n18 n19 n20 n21 n22 r0 q0 N:=
  hE (H:=zG) (by kernel_rfl) h
theorem xA (E:Env) (Q:QT [(Sh.sl 9)]) (N0:Nat) (nX cX:Nat) (m0 c0:Nat) (n10 n13:Int) (r0:List D) (q0:Nat) (N:Nat) (h :
Br (decide (n13<IntKind.i64.wrap (n10 - 1))) ((0≤IntKind.i64.wrap (n13+1)∧IntKind.i64.wrap (n13+1)<(m0:Int)∧(0+(IntKind.i64.wrap (n13+1)).toNat
 : Nat)<r0.length)∧(0+(IntKind.i64.wrap (n13+1)).toNat:Nat)<r0.length∧(0≤n13∧n13<(m0:Int)∧(0+n13.toNat:Nat)<r0.length)∧(0+n13.toNat
 : Nat)<r0.length∧(0≤n13∧n13<(m0:Int)∧(0+n13.toNat:Nat)<r0.length)∧(0+n13.toNat:Nat)<r0.length∧(0≤IntKind.i64.wrap (n13+1)∧IntKind.i64.wrap
 (n13+1)<(m0:Int)∧(0+(IntKind.i64.wrap (n13+1)).toNat:Nat)<(List.set r0 (0+n13.toNat:Nat) (List.getD r0 (0+(IntKind.i64.wrap (n13+1)).toNat
 : Nat) default)).length)∧(0+(IntKind.i64.wrap (n13+1)).toNat:Nat)<(List.set r0 (0+n13.toNat:Nat) (List.getD r0 (0+(IntKind.i64.wrap (n13+1)).toNat
 : Nat) default)).length∧zj E Q N0 nX cX m0 c0 n10 (IntKind.i64.wrap (n13+1)) (List.set (List.set r0 (0+n13.toNat:Nat) (List.getD
 r0 (0+(IntKind.i64.wrap (n13+1)).toNat:Nat) default)) (0+(IntKind.i64.wrap (n13+1)).toNat:Nat) (List.getD r0 (0+n13.toNat:Nat) default)) q0 N) (zFX
 E∧(r0.length=nX∧q0=cX)∧∀ a,N≤a→Q Option.none r0 cX a)):zj E Q N0 nX cX m0 c0 n10 n13 r0 q0 N:=
  hE (H:=zG) (by kernel_rfl) h
theorem yq (E:Env) (Q:QT [(Sh.sl 9)]) (N0:Nat) (nX cX:Nat) (m0 c0:Nat) (n14 n17:Int) (r0:List D) (q0:Nat) (N:Nat) (h :
Br (decide (n17>n14)) ((0≤IntKind.i64.wrap (n17 - 1)∧IntKind.i64.wrap (n17 - 1)<(m0:Int)∧(0+(IntKind.i64.wrap (n17 - 1)).toNat:Nat)<r0.length)
 ∧ (0+(IntKind.i64.wrap (n17 - 1)).toNat:Nat)<r0.length∧(0≤n17∧n17<(m0:Int)∧(0+n17.toNat:Nat)<r0.length)∧(0+n17.toNat:Nat)<r0.length
 ∧ (0≤n17∧n17<(m0:Int)∧(0+n17.toNat:Nat)<r0.length)∧(0+n17.toNat:Nat)<r0.length∧(0≤IntKind.i64.wrap (n17 - 1)∧IntKind.i64.wrap (n17
 - 1)<(m0:Int)∧(0+(IntKind.i64.wrap (n17 - 1)).toNat:Nat)<(List.set r0 (0+n17.toNat:Nat) (List.getD r0 (0+(IntKind.i64.wrap (n17 - 1)).toNat:Nat)
 default)).length)∧(0+(IntKind.i64.wrap (n17 - 1)).toNat:Nat)<(List.set r0 (0+n17.toNat:Nat) (List.getD r0 (0+(IntKind.i64.wrap (n17 - 1)).toNat:Nat)
 default)).length∧zf E Q N0 nX cX m0 c0 n14 (IntKind.i64.wrap (n17 - 1)) (List.set (List.set r0 (0+n17.toNat:Nat) (List.getD r0
 (0+(IntKind.i64.wrap (n17 - 1)).toNat:Nat) default)) (0+(IntKind.i64.wrap (n17 - 1)).toNat:Nat) (List.getD r0 (0+n17.toNat:Nat) default)) q0 N) (zFX
 E∧(r0.length=nX∧q0=cX)∧∀ a,N≤a→Q Option.none r0 cX a)):zf E Q N0 nX cX m0 c0 n14 n17 r0 q0 N:=
  hE (H:=zG) (by kernel_rfl) h
theorem vg (N:Nat) (m0 c0:Nat) (n1 n2 n3:Int) (rB0:List D) (qB0:Nat) (Q:QT [(Sh.sl 9)]) (h:∀ E:Env,
Bel N (D.sl Option.none 9 rB0 qB0)→zV E Q N rB0.length qB0 m0 c0 n2 (IntKind.i64.wrap (n2 - n1)) (IntKind.i64.wrap (n3 - n2)) rB0 qB0
 N):XCalls prog 127 [(Sh.sl 9)] [.sb 0 9 0 m0 c0,.int .i64 n1,.int .i64 n2,.int .i64 n3,.fn 37 []] [.arr 39 9 rB0 qB0] N Q:=
  xE (H:=xn) (by kernel_rfl) (fun E=>by kernel_rfl) h
theorem vP (E:Env) (Q:QT [(Sh.sl 9)]) (N0:Nat) (nX cX:Nat) (m0 c0:Nat) (n1 n3 n18 n20 n24:Int) (r0:List D) (q0:Nat) (N:Nat) (h :
Br (decide (n1<n20)) (Br (decide (n20<n18)) (∀ b,N≤b→XCalls prog 98 [.sl 9] [.sb 0 9 0 m0 c0,.int .i64 n1,.int .i64 n20,.int .i64 n18,.fn 37 []]
 [Bx.arr 39 9 r0 q0] b (fun _ a _ c=>b≤c→Bel c (D.ag a)→a.length=r0.length→zT E Q N0 nX cX m0 c0 n3 n18 n24
 a q0 c)) (zT E Q N0 nX cX m0 c0 n3 n18 n24 r0 q0 N)) (zT E Q N0 nX cX m0 c0 n3 n18 n24 r0 q0 N)):zS E Q N0 nX cX m0 c0 n1 n3 n18 n20 n24 r0 q0 N:=
  hE (H:=zG) (by kernel_rfl) h
theorem vu (E:Env) (Q:QT [(Sh.sl 9)]) (N0:Nat) (nX cX:Nat) (m0 c0:Nat) (n2 n10 n11:Int) (r0:List D) (q0:Nat) (N:Nat) (h :
Br (bne n10 n11) (Br (decide (n10>n11)) (∀ b,N≤b→XCalls prog 155 [.sl 9] [.sb 0 9 0 m0 c0,.int .i64 (IntKind.i64.wrap (n2 - n10)),.int .i64 n2,.int
 .i64 n11,.fn 37 []] [Bx.arr 39 9 r0 q0] b (fun _ a _ c=>b≤c→Bel c (D.ag a)→a.length=r0.length→zV E Q N0 nX cX
 m0 c0 n2 (IntKind.i64.wrap (n10 - n11)) n11 a q0 c)) (∀ a,N≤a→XCalls prog 155 [.sl 9] [.sb 0 9 0 m0 c0,.int .i64 (IntKind.i64.wrap (n2 - n10)),.int
 .i64 (IntKind.i64.wrap (IntKind.i64.wrap (n2+n11) - n10)),.int .i64 n10,.fn 37 []] [Bx.arr 39 9 r0 q0] a (fun _ b _ c=>a≤c→Bel c (D.ag
 b)→b.length=r0.length→zV E Q N0 nX cX m0 c0 n2 n10 (IntKind.i64.wrap (n11 - n10)) b q0 c))) (∀ a,N≤a→XCalls
 prog 155 [.sl 9] [.sb 0 9 0 m0 c0,.int .i64 (IntKind.i64.wrap (n2 - n10)),.int .i64 n2,.int .i64 n10,.fn 37 []] [Bx.arr 39 9 r0 q0] a (fun _ b _ c
 => a≤c→Bel c (D.ag b)→b.length=r0.length→zFX E∧(b.length=nX∧q0=cX)∧∀ a,c≤a→Q Option.none b cX a))):zV E Q N0 nX cX m0 c0 n2 n10 n11 r0 q0 N:=
  hE (H:=xn) (by kernel_rfl) h
theorem vO (E:Env) (Q:QT [(Sh.sl 9)]) (N0:Nat) (nX cX:Nat) (m0 c0:Nat) (n3 n18 n24:Int) (r0:List D) (q0:Nat) (N:Nat) (h :
Br (decide (n18<n24)) (Br (decide (n24<n3)) (∀ b,N≤b→XCalls prog 98 [.sl 9] [.sb 0 9 0 m0 c0,.int .i64 n18,.int .i64 n24,.int .i64 n3,.fn 37 []]
 [Bx.arr 39 9 r0 q0] b (fun _ a _ c=>b≤c→Bel c (D.ag a)→a.length=r0.length→zFX E∧(a.length=nX∧q0=cX)∧∀ b,c≤b→Q Option.none
 a cX b)) (zFX E∧(r0.length=nX∧q0=cX)∧∀ a,N≤a→Q Option.none r0 cX a)) (zFX E∧(r0.length=nX∧q0=cX)∧∀ a,N≤a→Q Option.none
 r0 cX a)):zT E Q N0 nX cX m0 c0 n3 n18 n24 r0 q0 N:=
  hE (H:=zG) (by kernel_rfl) h
theorem vC (N:Nat) (m0 c0:Nat) (n1 n2 n3:Int) (rB0:List D) (qB0:Nat) (Q:QT [(Sh.sl 9)]) (h:∀ E:Env,
Bel N (D.sl Option.none 9 rB0 qB0)→zg E Q N rB0.length qB0 m0 c0 n1 n2 n3 0 rB0 qB0 N):XCalls prog 155 [(Sh.sl 9)] [.sb 0 9 0 m0 c0,.int .i64 n1,.int .i64 n2,.int .i64 n3,.fn 37 []] [.arr 39 9 rB0 qB0] N Q:=
 xE (H:=xI) (by kernel_rfl) (fun E=>by kernel_rfl) h
theorem yr (E:Env) (Q:QT [(Sh.sl 9)]) (N0:Nat) (nX cX:Nat) (m0 c0:Nat) (n1 n2 n3 n10:Int) (r0:List D) (q0:Nat) (N:Nat) (h :
Br (decide (n10<n3)) ((0≤IntKind.i64.wrap (n2+n10)∧IntKind.i64.wrap (n2+n10)<(m0:Int)∧(0+(IntKind.i64.wrap (n2+n10)).toNat:Nat)<r0.length)
 ∧ (0+(IntKind.i64.wrap (n2+n10)).toNat:Nat)<r0.length∧(0≤IntKind.i64.wrap (n1+n10)∧IntKind.i64.wrap (n1+n10)<(m0:Int)∧(0+(IntKind.i64.wrap
 (n1+n10)).toNat:Nat)<r0.length)∧(0+(IntKind.i64.wrap (n1+n10)).toNat:Nat)<r0.length∧(0≤IntKind.i64.wrap (n1+n10)∧IntKind.i64.wrap (n1+n10)
 < (m0:Int)∧(0+(IntKind.i64.wrap (n1+n10)).toNat:Nat)<r0.length)∧(0+(IntKind.i64.wrap (n1+n10)).toNat:Nat)<r0.length∧(0≤IntKind.i64.wrap
 (n2+n10)∧IntKind.i64.wrap (n2+n10)<(m0:Int)∧(0+(IntKind.i64.wrap (n2+n10)).toNat:Nat)<(List.set r0 (0+(IntKind.i64.wrap (n1+n10)).toNat :
 Nat) (List.getD r0 (0+(IntKind.i64.wrap (n2+n10)).toNat:Nat) default)).length)∧(0+(IntKind.i64.wrap (n2+n10)).toNat:Nat)<(List.set r0 (0+(IntKind.i64.wrap
 (n1+n10)).toNat:Nat) (List.getD r0 (0+(IntKind.i64.wrap (n2+n10)).toNat:Nat) default)).length∧zg E Q N0 nX cX m0 c0 n1
 n2 n3 (IntKind.i64.wrap (n10+1)) (List.set (List.set r0 (0+(IntKind.i64.wrap (n1+n10)).toNat:Nat) (List.getD r0 (0+(IntKind.i64.wrap (n2+n10)).toNat
 : Nat) default)) (0+(IntKind.i64.wrap (n2+n10)).toNat:Nat) (List.getD r0 (0+(IntKind.i64.wrap (n1+n10)).toNat:Nat) default)) q0 N) (zFX E∧(r0.length
 = nX∧q0=cX)∧∀ a,N≤a→Q Option.none r0 cX a)):zg E Q N0 nX cX m0 c0 n1 n2 n3 n10 r0 q0 N:=
  hE (H:=xI) (by kernel_rfl) h
end Go.Proofs.YtnpjpplbkoammaaGreat
set_option maxRecDepth 100000
namespace Go.Proofs.YtnpjpplbkoammaaGreat
open Go Go.Proofs Go.Proofs.Tryz
def r6:Hint:=⟨[hc 3 [0,3,4] [(3,9,0)]],[],[]⟩
def ph:Hint:=⟨[hc 3 [1,2,7,8]],[],[(1,hs 3 [ec 1 [9]])]⟩
def zD2:Hint:=⟨[],[],[]⟩
def qV:Hint:=⟨[hc 5 [1,2,3,7,8] [(7,39,9)]],[],[(2,hs 19 [ec 10 [19],ec 17 [24]]),(7,[en 0,en 1,en 2,en 3,en 4,en 5,en 6,en 7,en 8,en 9,ec 10 [47],ec 11 [45],eh 12,eh 13])]⟩
def rM:Hint:=⟨[hc 4 [2,3,5]],[],[(1,hs 51 [ec 31 [34,36],ec 39 [42,44]]),(6,[en 0,en 1,en 2,en 3,en 4,en 5,en 6,en 7,en 8,en 9,ec 10 [68,73],en 11])]⟩
def zIB:Hint:=⟨[],[],[]⟩
def xH:Hint:=⟨[hc 7 [5,8,9],hc 12 [5,8,9,10,11,12],hc 19 [5,8,9,13]],[hc 21 [5,8,9,13]],[(2,hs 9 [ec 2 [18]]),(5,[en 0,en 1,en 3,eh 2,ec 4 [25],en 5]),(14,[en 0,en 1,en 2,en 3,en 4,en 5,en 6,en 7,ec 8 [46,50]]),(19,[en 0,en 1,en 2,en 3,en 4,en 5,en 6,en 7,en 8,en 10,en 11,en 12,en 13,ec 9 [72],ec 14 [77],en 15,en 16]),(21,hs 6 [{ i:=4,hard:=true,tr:=true }]),(22,[en 0,en 1,en 3,en 4,en 5,en 6,en 2,en 10,{ i:=7,hard:=true,cl:=[94],fs:=[5,94] },{ i:=8,hard:=true,cl:=[95],fs:=[5,95] },{ i:=9,hard:=true,tr:=true },{ i:=11,hard:=true,tr:=true },eh 12])]⟩
def zFW:Hint:=⟨[],[],[(1,hs 13 [ec 10 [16]]),(3,hs 6 [ec 1 [20]])]⟩
def zIL:Hint:=⟨[],[],[(2,[en 0,en 2,en 3,en 4,eh 1,eh 5,en 6])]⟩
def rj:Hint:=⟨[hc 5 [0,1,5,7,21,22,23] [(7,39,9)]],[],[(2,hs 4 [{ i:=3,hard:=true,cl:=[13],fs:=[7,13] }]),(3,hs 6 [{ i:=2,hard:=true,cl:=[16],fs:=[7,16] },{ i:=3,hard:=true,cl:=[17],fs:=[7,17] }]),(7,[en 0,en 1,en 2,en 3,en 4,en 6,{ i:=5,hard:=true,cl:=[31],fs:=[7,31] },{ i:=7,hard:=true,cl:=[34],fs:=[7,34] },eh 8,eh 9])]⟩
def vG:Hint:=⟨[hc 4 [1,2,15,16,17]],[],[(7,hs 5 [ec 3 [27,28]])]⟩
def zCj:Hint:=⟨[],[],[(1,hs 48 [ec 31 [33,35],ec 38 [40,42]])]⟩
def pz:Hint:=⟨[],[],[]⟩
def uz:Hint:=⟨[],[],[]⟩
def wm:Hint:=⟨[hc 2 [0,1,7,8]],[],[]⟩
def zCr:Hint:=⟨[],[],[]⟩
def wB (Q:QT [.sl 0]) (N0:Nat) (a0:Option Addr) (e0:List D) (c0 m3 c3:Nat) (n4:Int) (r0:List D) (q0:Nat) (N:Nat):Prop:=AT prog 22 [.sl 0] Q N0 .ord (zD prog 22 3) ⟨.sv a0 4 e0 c0::an 2 (.sb 0 0 0 m3 c3::.int .i64 n4::an 16 []),[.arr 9 0 r0 q0],N,none⟩
def wV (Q:QT [.bool]) (N0:Nat) (a1:Option Addr) (e1:List D) (c1:Nat) (a2:Option Addr) (e2:List D) (c2:Nat) (a7:Option Addr) (e7:List D) (c7:Nat) (n8:Int) (N:Nat):Prop:=AT prog 51 [.bool] Q N0 .ord (zD prog 51 3) ⟨an 1 (.sv a1 0 e1 c1::.sv a2 0 e2 c2::an 4 (.sv a7 0 e7 c7::.int .i64 n8::an 24 [])),[],N,none⟩
def zI (Q:QT [.sl 9]) (N0:Nat) (a1:Option Addr) (e1:List D) (c1:Nat) (a2:Option Addr) (e2:List D) (c2 m7 c7:Nat) (n8:Int) (y0:D) (r1:List D) (q1:Nat) (N:Nat):Prop:=AT prog 21 [.sl 9] Q N0 .ord (zD prog 21 5) ⟨an 1 (.sv a1 0 e1 c1::.sv a2 0 e2 c2::.pb 0 0 0 0::an 3 (.sb 1 9 0 m7 c7::.int .i64 n8::an 45 [])),[.vd y0 9,.arr 39 9 r1 q1],N,none⟩
def yf (Q:QT [.bool]) (N0:Nat) (n5:Int) (y0 y1:D) (N:Nat):Prop:=AT prog 23 [.bool] Q N0 .ord (zD prog 23 4) ⟨an 2 (.pb 0 0 0 0::.pb 1 0 0 0::an 1 (.int .i64 n5::an 70 [])),[.vd y0 9,.vd y1 9],N,none⟩
def zR (Q:QT [.sl 9]) (N0:Nat) (m5 c5:Nat) (a8:Option Addr) (e8:List D) (c8:Nat) (n9:Int) (r0:List D) (q0:Nat) (N:Nat):Prop:=AT prog 6 [.sl 9] Q N0 .ord (zD prog 6 7) ⟨an 5 (.sb 0 9 0 m5 c5::an 2 (.sv a8 9 e8 c8::.int .i64 n9::an 91 [])),[.arr 39 9 r0 q0],N,none⟩
def y6 (Q:QT [.sl 9]) (N0:Nat) (a0:Option Addr) (e0:List D) (c0:Nat) (a1:Option Addr) (e1:List D) (c1 m7 c7:Nat) (a21:Option Addr) (e21:List D) (c21:Nat) (n22 n23:Int) (y0:D) (r1:List D) (q1:Nat) (N:Nat):Prop:=AT prog 31 [.sl 9] Q N0 .ord (zD prog 31 5) ⟨.sv a0 0 e0 c0::.sv a1 0 e1 c1::an 3 (.pb 0 0 0 0::an 1 (.sb 1 9 0 m7 c7::an 13 (.sv a21 9 e21 c21::.int .i64 n22::.int .i64 n23::an 15 []))),[.vd y0 9,.arr 39 9 r1 q1],N,none⟩
def z5 (Q:QT [.sl 9]) (N0:Nat) (m5 c5:Nat) (a8:Option Addr) (e8:List D) (c8:Nat) (n9 n10 n11 n12:Int) (r0:List D) (q0:Nat) (N:Nat):Prop:=AT prog 6 [.sl 9] Q N0 .ord (zD prog 6 12) ⟨an 5 (.sb 0 9 0 m5 c5::an 2 (.sv a8 9 e8 c8::.int .i64 n9::.int .i64 n10::.int .i64 n11::.int .i64 n12::an 88 [])),[.arr 39 9 r0 q0],N,none⟩
def yK (Q:QT [.bool]) (N0:Nat) (a1:Option Addr) (e1:List D) (c1:Nat) (a15:Option Addr) (e15:List D) (c15:Nat) (n16 n17:Int) (N:Nat):Prop:=AT prog 66 [.bool] Q N0 .ord (zD prog 66 4) ⟨an 1 (.sv a1 9 e1 c1::.fn 34 []::an 12 (.sv a15 9 e15 c15::.int .i64 n16::.int .i64 n17::an 14 [])),[],N,none⟩
def yP (Q:QT [.sl 9]) (N0:Nat) (m5 c5:Nat) (a8:Option Addr) (e8:List D) (c8:Nat) (n9 n13:Int) (r0:List D) (q0:Nat) (N:Nat):Prop:=AT prog 6 [.sl 9] Q N0 .ord (zD prog 6 19) ⟨an 5 (.sb 0 9 0 m5 c5::an 2 (.sv a8 9 e8 c8::.int .i64 n9::an 3 (.int .i64 n13::an 87 []))),[.arr 39 9 r0 q0],N,none⟩
def yA (Q:QT [.int .i64]) (N0:Nat) (a0:Option Addr) (e0:List D) (c0:Nat) (a1_0:Addr) (x1_0_:D) (a1_1:Addr) (x1_1_:D) (n7 n8:Int) (N:Nat):Prop:=AT prog 121 [.int .i64] Q N0 .ord (zD prog 121 2) ⟨.sv a0 0 e0 c0::.fn 92 [.pd a1_0 0 x1_0_,.pd a1_1 0 x1_1_]::an 5 (.int .i64 n7::.int .i64 n8::an 10 []),[],N,none⟩
def y3 (Q:QT [.sl 9]) (N0:Nat) (m5 c5:Nat) (a8:Option Addr) (e8:List D) (c8:Nat) (n9 n13:Int) (r0:List D) (q0:Nat) (N:Nat):Prop:=AT prog 6 [.sl 9] Q N0 .ord (zM0 prog 6 21) ⟨an 5 (.sb 0 9 0 m5 c5::an 2 (.sv a8 9 e8 c8::.int .i64 n9::an 3 (.int .i64 n13::an 87 []))),[.arr 39 9 r0 q0],N,none⟩
theorem zDx (N:Nat) (a0:Option Addr) (e0:List D) (c0:Nat) (Q:QT [.sl 0]) (h :
Bel N (D.sl a0 4 e0 c0)→wB Q N a0 e0 c0 0 0 0 [] 0 N):ACalls prog 22 [.sl 0] [PV.sv a0 4 e0 c0] N Q:=
 eE (H:=r6) (by kernel_rfl) (by kernel_rfl) h
theorem zFQ (N:Nat) (x0:D) (a1:Option Addr) (e1:List D) (c1:Nat) (a2:Option Addr) (e2:List D) (c2:Nat) (Q:QT [.bool]) (h :
Bel N x0→Bel N (D.sl a1 0 e1 c1)→Bel N (D.sl a2 0 e2 c2)→∀ b,N≤b→ACalls prog 79 [.sl 0] [.dg 9 x0] b (fun a c d e=>b≤e→Bel e (D.sl
 a 0 c d)→wV Q N a1 e1 c1 a2 e2 c2 a c d 0 e)):ACalls prog 51 [.bool] [PV.dg 9 x0,PV.sv a1 0 e1 c1,PV.sv a2 0 e2 c2] N Q:=
  eE (H:=ph) (by kernel_rfl) (by kernel_rfl) h
theorem zDV (N:Nat) (x0:D) (n1:Int) (a2:Option Addr) (e2:List D) (c2:Nat) (Q:QT [.sl 0]) (h :
Bel N x0→Bel N (D.sl a2 0 e2 c2)→∃ n:Int,(x0.cell 0)=D.lit (.int .i64 n)∧Br (n==8) (Br (n1==1) (∃ s,(x0.cell 1)=D.lit (.string s)∧(1=([D.lit
 (.string s)]).length∧1=1)∧∀ a,ApA a [D.lit (.string s)]→Off [a] (D.sl a2 0 e2 c2)→∀ b,N≤b→tW b [a]→ACalls prog 80 [.row (OfNat.ofNat 9)
 0] [.sv a2 0 e2 c2,.sv a 0 [D.lit (.string s)] 1] b (fun c d e=>b≤e→Off [a] (D.ag c)∧(Bel e (D.ag c)→(c.length=c.length∧d=d)∧(c.length
 = c.length∧d=d)∧∀ a b,e≤b→Fresh N b a [D.ag c]→∀ e,b≤e→Q a c d e))) (∀ a,N≤a→Q a2 e2 c2 a)) (∀ a,N≤a
 → Q a2 e2 c2 a)):ACalls prog 52 [.sl 0] [PV.dg 9 x0,PV.int .i64 n1,PV.sv a2 0 e2 c2] N Q:=
  eE (H:=zD2) (by kernel_rfl) (by kernel_rfl) h
theorem zEW (N:Nat) (x0:D) (a1:Option Addr) (e1:List D) (c1:Nat) (a2:Option Addr) (e2:List D) (c2:Nat) (Q:QT [.sl 9]) (h :
Bel N x0→Bel N (D.sl a1 0 e1 c1)→Bel N (D.sl a2 0 e2 c2)→∃ n:Int,(x0.cell 0)=D.lit (.int .i64 n)∧Br (n==4) (∀ a,N≤a→ACalls prog 25 [.int
 .i64] [.dg 9 x0] a (fun d e=>a≤e→Br (decide (d≥3)) (∀ a,e≤a→ACalls prog 51 [.bool] [.dg 9 x0,.sv a1 0 e1 c1,.sv a2 0 e2 c2] a
 (fun b d=>a≤d→Br b ((0=0∧0=0)∧zC [] [x0] 136∧∀ (c:Nat),zI Q N a1 e1 c1 a2 e2 c2 ([]++[x0]).length c 0 x0 ([]++[x0])
 c d) (zI Q N a1 e1 c1 a2 e2 c2 0 0 0 x0 [] 0 d))) (zI Q N a1 e1 c1 a2 e2 c2 0 0 0 x0 [] 0 e))) (∃ a:Int,(x0.cell 0)=D.lit
 (.int .i64 a)∧Br (a==5) (∀ a,N≤a→ACalls prog 25 [.int .i64] [.dg 9 x0] a (fun b c=>a≤c→Br (decide (b≥3)) (∀ a,c≤a →
 ACalls prog 51 [.bool] [.dg 9 x0,.sv a1 0 e1 c1,.sv a2 0 e2 c2] a (fun b c=>a≤c→Br b ((0=0∧0=0)∧zC [] [x0] 136∧∀ (a:Nat),
 zI Q N a1 e1 c1 a2 e2 c2 ([]++[x0]).length a 0 x0 ([]++[x0]) a c) (zI Q N a1 e1 c1 a2 e2 c2 0 0 0 x0 [] 0 c))) (zI
 Q N a1 e1 c1 a2 e2 c2 0 0 0 x0 [] 0 c))) (zI Q N a1 e1 c1 a2 e2 c2 0 0 0 x0 [] 0 N))):ACalls prog 21 [.sl 9] [PV.dg 9 x0,PV.sv a1 0 e1 c1,PV.sv a2 0 e2 c2] N Q:=
  eE (H:=qV) (by kernel_rfl) (by kernel_rfl) h
theorem zC7 (N:Nat) (x0 x1:D) (Q:QT [.bool]) (h :
Bel N x0→Bel N x1→∃ n:Int,(x0.cell 0)=D.lit (.int .i64 n)∧∃ d:Int,(x1.cell 0)=D.lit (.int .i64 d)∧Br (bne n d) (∀ a,N≤a→Q false
 a) (∃ s,(x0.cell 1)=D.lit (.string s)∧∃ d,(x1.cell 1)=D.lit (.string d)∧Br (!(ByteArray.toList s==ByteArray.toList d)) (∀ a,N≤a→Q false
 a) (∃ d,(x0.cell 2)=D.lit (.string d)∧∃ e,(x1.cell 2)=D.lit (.string e)∧Br (!(ByteArray.toList d==ByteArray.toList e)) (∀ a,N≤a
 → Q false a) (∃ d:Int,(x0.cell 3)=D.lit (.int .i64 d)∧∃ e:Int,(x1.cell 3)=D.lit (.int .i64 e)∧Br (bne d e) (∀ a,N≤a→Q false
 a) (∀ d,N≤d→ACalls prog 53 [.bool] [.dg 2 (D.sub x0 4 2),.dg 2 (D.sub x1 4 2)] d (fun b e=>d≤e→Br (!b) (∀ a,e≤a→Q false a)
 (∀ b,e≤b→ACalls prog 53 [.bool] [.dg 2 (D.sub x0 6 2),.dg 2 (D.sub x1 6 2)] b (fun d e=>b≤e→Br (!d) (∀ a,e≤a→Q false a)
 (∃ a b,∃ c:Nat,(x0.cell 8)=D.sl a 9 b c∧∃ a c,∃ d:Nat,(x1.cell 8)=D.sl a 9 c d∧Br (bne (b.length:Int) (c.length:Int)) (∀
 a,e≤a→Q false a) (yf Q N 0 x0 x1 e)))))))))):ACalls prog 23 [.bool] [PV.dg 9 x0,PV.dg 9 x1] N Q:=
  eE (H:=rM) (by kernel_rfl) (by kernel_rfl) h
theorem zI5 (N:Nat) (n0 n1:Int) (Q:QT [.int .i64]) (h :
Br (decide (n0<n1)) (∀ a,N≤a→Q n0 a) (∀ a,N≤a→Q n1 a)):ACalls prog 24 [.int .i64] [PV.int .i64 n0,PV.int .i64 n1] N Q:=
 eE (H:=zIB) (by kernel_rfl) (by kernel_rfl) h
theorem zBu (N:Nat) (a0:Option Addr) (e0:List D) (c0:Nat) (x1:D) (Q:QT [.sl 9]) (h :
Bel N (D.sl a0 4 e0 c0)→Bel N x1→∀ d,N≤d→ACalls prog 20 [.ag 2,.bool] [.sv a0 4 e0 c0,.dg 9 x1] d (fun x b e=>d≤e→Bel e x→Br (!b)
 ((0=0∧0=0)∧(0=0∧0=0)∧(0=0∧0=0)∧(0=0∧0=0)∧∀ a b,e≤b→Fresh N b a [D.ag []]→∀ c,b≤c→Q a [] 0 c) (∀ a,
 e≤a→ACalls prog 22 [.sl 0] [.sv a0 4 e0 c0] a (fun b c d e=>a≤e→Bel e (D.sl b 0 c d)→(0=0∧0=0)∧∀ a,ApA a []→Off [a]
 x1→Off [a] (D.sl b 0 c d)→∀ f,e≤f→tW f [a]→ACalls prog 21 [.sl 9] [.dg 9 x1,.sv b 0 c d,.sv a 0 [] 0] f (fun b c d e
 => f≤e→Off [a] (D.sl b 9 c d)∧(Bel e (D.sl b 9 c d)→zR Q N 0 0 b c d 0 [] 0 e)))))):ACalls prog 6 [.sl 9] [PV.sv a0 4 e0 c0,PV.dg 9 x1] N Q:=
  eE (H:=xH) (by kernel_rfl) (by kernel_rfl) h
theorem zFO (N:Nat) (a0:Option Addr) (e0:List D) (c0:Nat) (a1:Option Addr) (e1:List D) (c1:Nat) (x2:D) (Q:QT [.bool]) (h :
Bel N (D.sl a0 0 e0 c0)→Bel N (D.sl a1 0 e1 c1)→Bel N x2→∃ n:Int,(x2.cell 0)=D.lit (.int .i64 n)∧Br (bne n 4) (∃ d:Int,(x2.cell 0)=D.lit (.int
 .i64 d)∧Br (bne d 5) (∀ a,N≤a→Q false a) (∀ d,N≤d→ACalls prog 38 [.int .i64] [.dg 9 x2] d (fun e f=>d≤f→Br (decide (e
 < 3)) (∀ a,f≤a→Q false a) (∀ d,f≤d→ACalls prog 91 [.row (OfNat.ofNat 9) 0] [.dg 9 x2] d (fun c e f=>d≤f→Bel f (D.ag c)
 → (c.length=c.length∧e=e)∧∀ a,ApA a c→∀ d,ApA (Option.some d) [D.sl a0 0 e0 c0]→∀ g,ApA (Option.some g) [D.sl a1 0 e1 c1]→∀ h,f
 ≤ h→tW h [a,Option.some d,Option.some g]→ACalls prog 90 [.bool] [.sv a 0 c e,.fn 92 [.pd d 0 (D.sl a0 0 e0 c0),.pd g 0 (D.sl a1 0 e1 c1)]]
 h (fun b a=>h≤a→∀ c,a≤c→Q (!b) c)))))) (∀ a,N≤a→ACalls prog 38 [.int .i64] [.dg 9 x2] a (fun b c=>a≤c→Br
 (decide (b<3)) (∀ a,c≤a→Q false a) (∀ a,c≤a→ACalls prog 91 [.row (OfNat.ofNat 9) 0] [.dg 9 x2] a (fun b c d=>a
 ≤ d→Bel d (D.ag b)→(b.length=b.length∧c=c)∧∀ a,ApA a b→∀ e,ApA (Option.some e) [D.sl a0 0 e0 c0]→∀ f,ApA (Option.some
 f) [D.sl a1 0 e1 c1]→∀ g,d≤g→tW g [a,Option.some e,Option.some f]→ACalls prog 90 [.bool] [.sv a 0 b c,.fn 92 [.pd e
 0 (D.sl a0 0 e0 c0),.pd f 0 (D.sl a1 0 e1 c1)]] g (fun a b=>g≤b→∀ c,b≤c→Q (!a) c)))))):ACalls prog 62 [.bool] [PV.sv a0 0 e0 c0,PV.sv a1 0 e1 c1,PV.dg 9 x2] N Q:=
  eE (H:=zFW) (by kernel_rfl) (by kernel_rfl) h
theorem zIF (N:Nat) (a0:Option Addr) (e0:List D) (c0:Nat) (x1:D) (n2:Int) (Q:QT [.sl 0]) (h :
Bel N (D.sl a0 0 e0 c0)→Bel N x1→∃ n:Int,(x1.cell 0)=D.lit (.int .i64 n)∧Br (n==8) (Br (n2==1) (∃ s,(x1.cell 1)=D.lit (.string s)∧∀ b,N ≤
 b→ACalls prog 95 [.row (OfNat.ofNat 9) 0] [.sv a0 0 e0 c0] b (fun c d e=>b≤e→Bel e (D.ag c)→(c.length=c.length∧d=d)∧zC c
 [D.lit (.string s)] 16∧∀ (b:Nat),((c++[D.lit (.string s)]).length=(c++[D.lit (.string s)]).length∧b=b)∧((c++[D.lit (.string s)]).length
 = (c++[D.lit (.string s)]).length∧b=b)∧∀ a d,e≤d→Fresh N d a [D.ag (c++[D.lit (.string s)])]→∀ e,d≤e→Q a (c++[D.lit
 (.string s)]) b e)) (∀ a,N≤a→Q a0 e0 c0 a)) (∀ a,N≤a→Q a0 e0 c0 a)):ACalls prog 64 [.sl 0] [PV.sv a0 0 e0 c0,PV.dg 9 x1,PV.int .i64 n2] N Q:=
  eE (H:=zIL) (by kernel_rfl) (by kernel_rfl) h
theorem zEi (N:Nat) (a0:Option Addr) (e0:List D) (c0:Nat) (a1:Option Addr) (e1:List D) (c1:Nat) (x2:D) (Q:QT [.sl 9]) (h :
Bel N (D.sl a0 0 e0 c0)→Bel N (D.sl a1 0 e1 c1)→Bel N x2→∀ d,N≤d→ACalls prog 62 [.bool] [.sv a0 0 e0 c0,.sv a1 0 e1 c1,.dg 9 x2] d (fun b e
 => d≤e→Br b (∀ b,e≤b→ACalls prog 63 [Sh.pk,.int .i64,.str,.str,.int .i64,Sh.dc,Sh.dc,Sh.dc,Sh.dc,.row (OfNat.ofNat 39) 9] [.dg 9 x2]
 b (fun n s c d x e f g h i j=>b≤j→Bel j (D.ag h)→(h.length=h.length∧i=i)∧∀ a b,j≤b→Fresh N b a [D.ag h,x,
 e,f,g,D.ag []]→(0=0∧0=0)∧zC [] [D.ag [D.lit (.int .i64 n),D.lit (.string s),D.lit (.string c),D.lit (.int .i64 d),x,e,f,g,
 D.sl a 9 h i]] 136∧∀ (j:Nat),∃ k l,∃ m:Nat,(x2.cell 8)=D.sl k 9 l m∧y6 Q N a0 e0 c0 a1 e1 c1 ([]++[D.ag [D.lit (.int
 .i64 n),D.lit (.string s),D.lit (.string c),D.lit (.int .i64 d),x,e,f,g,D.sl a 9 h i]]).length j k l m (l.length:Int) 0 x2 ([] ++
 [D.ag [D.lit (.int .i64 n),D.lit (.string s),D.lit (.string c),D.lit (.int .i64 d),x,e,f,g,D.sl a 9 h i]]) j b)) (∃ a b,∃ c:Nat,
 (x2.cell 8)=D.sl a 9 b c∧y6 Q N a0 e0 c0 a1 e1 c1 0 0 a b c (b.length:Int) 0 x2 [] 0 e))):ACalls prog 31 [.sl 9] [PV.sv a0 0 e0 c0,PV.sv a1 0 e1 c1,PV.dg 9 x2] N Q:=
  eE (H:=rj) (by kernel_rfl) (by kernel_rfl) h
theorem zCm (N:Nat) (x0 x1:D) (Q:QT [.bool]) (h :
Bel N x0→Bel N x1→∃ n:Int,(x0.cell 0)=D.lit (.int .i64 n)∧∃ d:Int,(x1.cell 0)=D.lit (.int .i64 d)∧Br (n==d) (∃ s,(x0.cell 1)=D.lit (.string
 s)∧∃ d,(x1.cell 1)=D.lit (.string d)∧Br (ByteArray.toList s==ByteArray.toList d) (∃ d,(x0.cell 2)=D.lit (.string d)∧∃ e,(x1.cell 2) =
 D.lit (.string e)∧Br (ByteArray.toList d==ByteArray.toList e) (∃ d:Int,(x0.cell 3)=D.lit (.int .i64 d)∧∃ e:Int,(x1.cell 3)=D.lit (.int
 .i64 e)∧Br (d==e) (∀ d,N≤d→ACalls prog 65 [.bool] [.dg 2 (D.sub x0 4 2),.dg 2 (D.sub x1 4 2)] d (fun b e=>d≤e→Br b (∀ b,e
 ≤ b→ACalls prog 65 [.bool] [.dg 2 (D.sub x0 6 2),.dg 2 (D.sub x1 6 2)] b (fun d e=>b≤e→Br d (∃ a b,∃ c:Nat,(x0.cell 8)=D.sl a 9 b
 c∧∃ d f,∃ g:Nat,(x1.cell 8)=D.sl d 9 f g∧∀ h,e≤h→ACalls prog 66 [.bool] [.sv a 9 b c,.sv d 9 f g,.fn 34 []] h (fun
 a b=>h≤b→∀ c,b≤c→Q a c)) (∀ a,e≤a→Q false a))) (∀ a,e≤a→Q false a))) (∀ a,N≤a→Q false a)) (∀
 a,N≤a→Q false a)) (∀ a,N≤a→Q false a)) (∀ a,N≤a→Q false a)):ACalls prog 34 [.bool] [PV.dg 9 x0,PV.dg 9 x1] N Q:=
  eE (H:=zCj) (by kernel_rfl) (by kernel_rfl) h
theorem p9 (N:Nat) (a0:Option Addr) (e0:List D) (c0:Nat) (Q:QT [.row 9 0]) (h :
Bel N (D.sl a0 0 e0 c0)→Br (Option.isNone a0) (∀ a,N≤a→Q [] 0 a) ((0=0∧0=0)∧zC [] e0 16∧∀ (c:Nat),(([]++e0).length=([]++e0).length
 ∧ c=c)∧∀ a,N≤a→Q ([]++e0) c a)):ACalls prog 95 [.row 9 0] [PV.sv a0 0 e0 c0] N Q:=
  eE (H:=pz) (by kernel_rfl) (by kernel_rfl) h
theorem sK (Q:QT [.sl 0]) (N0:Nat) (a0:Option Addr) (e0:List D) (c0 m3 c3:Nat) (n4:Int) (r0:List D) (q0:Nat) (N:Nat) (h :
Br (decide (n4<(e0.length:Int))) ((0≤n4∧n4<(e0.length:Int))∧∃ s,(if 0=0 then D.cell (List.getD e0 n4.toNat default) 0 else D.sub (List.getD e0 n4.toNat
 default) 0 0)=D.lit (.string s)∧(m3=r0.length∧c3=q0)∧zC r0 [D.lit (.string s)] 16∧∀ (c:Nat),wB Q N0 a0 e0 c0 (r0++[D.lit (.string
 s)]).length c (IntKind.i64.wrap (n4+1)) (r0++[D.lit (.string s)]) c N) ((m3=r0.length∧c3=q0)∧(m3=r0.length∧c3=q0)∧(m3=r0.length∧c3=q0)
 ∧ ∀ a b,N≤b→Fresh N0 b a [D.ag r0]→∀ c,b≤c→Q a r0 q0 c)):wB Q N0 a0 e0 c0 m3 c3 n4 r0 q0 N:=
  hE (H:=r6) (by kernel_rfl) h
theorem rC (Q:QT [.bool]) (N0:Nat) (a1:Option Addr) (e1:List D) (c1:Nat) (a2:Option Addr) (e2:List D) (c2:Nat) (a7:Option Addr) (e7:List D) (c7:Nat) (n8:Int) (N:Nat) (h :
Br (decide (n8<(e7.length:Int))) ((0≤n8∧n8<(e7.length:Int))∧∃ s,List.getD e7 n8.toNat default=D.lit (.string s)∧∀ a,N≤a→ACalls prog 72
 [.int .i64] [.sv a2 0 e2 c2,.str s] a (fun n b=>a≤b→Br (decide (n≥0)) (∀ a,b≤a→Q false a) ((0≤n8∧n8<(e7.length:Int))∧∃ a,
 List.getD e7 n8.toNat default=D.lit (.string a)∧∀ c,b≤c→ACalls prog 72 [.int .i64] [.sv a1 0 e1 c1,.str a] c (fun a b=>c≤b→Br
 (decide (a<0)) (∀ a,b≤a→Q false a) (wV Q N0 a1 e1 c1 a2 e2 c2 a7 e7 c7 (IntKind.i64.wrap (n8+1)) b))))) (∀ a,N≤a→Q true
 a)):wV Q N0 a1 e1 c1 a2 e2 c2 a7 e7 c7 n8 N:=
  hE (H:=ph) (by kernel_rfl) h
theorem sF (Q:QT [.sl 9]) (N0:Nat) (a1:Option Addr) (e1:List D) (c1:Nat) (a2:Option Addr) (e2:List D) (c2 m7 c7:Nat) (n8:Int) (y0:D) (r1:List D) (q1:Nat) (N:Nat) (h :
∃ a b,∃ c:Nat,(y0.cell 8)=D.sl a 9 b c∧Br (decide (n8<(b.length:Int))) (∃ a b,∃ c:Nat,(y0.cell 8)=D.sl a 9 b c∧(0≤n8∧n8
 < (b.length:Int))∧∀ a,N≤a→ACalls prog 52 [.sl 0] [.dg 9 y0,.int .i64 n8,.sv a2 0 e2 c2] a (fun c d e f=>a≤f→Bel f (D.sl
 c 0 d e)→∀ a,f≤a→ACalls prog 21 [.sl 9] [.dg 9 (List.getD b n8.toNat default),.sv a1 0 e1 c1,.sv c 0 d e] a (fun b c d e
 => a≤e→Bel e (D.sl b 9 c d)→(m7=r1.length∧c7=q1)∧zC r1 c 136∧∀ (a:Nat),zI Q N0 a1 e1 c1 a2 e2 c2 (r1 ++
 c).length a (IntKind.i64.wrap (n8+1)) y0 (r1++c) a e))) ((m7=r1.length∧c7=q1)∧(m7=r1.length∧c7=q1)∧(m7=r1.length∧c7=q1)∧∀
 a b,N≤b→Fresh N0 b a [D.ag r1]→∀ c,b≤c→Q a r1 q1 c)):zI Q N0 a1 e1 c1 a2 e2 c2 m7 c7 n8 y0 r1 q1 N:=
  hE (H:=qV) (by kernel_rfl) h
theorem tJ (Q:QT [.bool]) (N0:Nat) (n5:Int) (y0 y1:D) (N:Nat) (h :
∃ a d,∃ c:Nat,(y0.cell 8)=D.sl a 9 d c∧Br (decide (n5<(d.length:Int))) (∃ a c,∃ d:Nat,(y0.cell 8)=D.sl a 9 c d∧(0≤n5∧n5
 < (c.length:Int))∧∃ a d,∃ e:Nat,(y1.cell 8)=D.sl a 9 d e∧(0≤n5∧n5<(d.length:Int))∧∀ a,N≤a→ACalls prog 23 [.bool]
 [.dg 9 (List.getD c n5.toNat default),.dg 9 (List.getD d n5.toNat default)] a (fun b c=>a≤c→Br (!b) (∀ a,c≤a→Q false a) (yf
 Q N0 (IntKind.i64.wrap (n5+1)) y0 y1 c))) (∀ a,N≤a→Q true a)):yf Q N0 n5 y0 y1 N:=
  hE (H:=rM) (by kernel_rfl) h
theorem ub (Q:QT [.sl 9]) (N0:Nat) (m5 c5:Nat) (a8:Option Addr) (e8:List D) (c8:Nat) (n9:Int) (r0:List D) (q0:Nat) (N:Nat) (h :
Br (decide (n9<(e8.length:Int))) (z5 Q N0 m5 c5 a8 e8 c8 n9 0 n9 0 r0 q0 N) ((m5=r0.length∧c5=q0)∧(m5=r0.length∧c5=q0)∧(m5
 = r0.length∧c5=q0)∧∀ a b,N≤b→Fresh N0 b a [D.ag r0]→∀ c,b≤c→Q a r0 q0 c)):zR Q N0 m5 c5 a8 e8 c8 n9 r0 q0 N:=
  hE (H:=xH) (by kernel_rfl) h
theorem vv (N:Nat) (a0:Option Addr) (e0:List D) (c0:Nat) (a1_0:Addr) (x1_0_:D) (a1_1:Addr) (x1_1_:D) (Q:QT [.bool]) (h :
Bel N (D.sl a0 0 e0 c0)→∀ a,N≤a→ACalls prog 121 [.int .i64] [.sv a0 0 e0 c0,.fn 92 [.pd a1_0 0 x1_0_,.pd a1_1 0 x1_1_]] a (fun n b=>a≤b
 → ∀ a,b≤a→Q (decide (n≥0)) a)):ACalls prog 90 [.bool] [.sv a0 0 e0 c0,.fn 92 [.pd a1_0 0 x1_0_,.pd a1_1 0 x1_1_]] N Q:=
  eE (H:=uz) (by kernel_rfl) (by kernel_rfl) h
theorem t4 (Q:QT [.sl 9]) (N0:Nat) (a0:Option Addr) (e0:List D) (c0:Nat) (a1:Option Addr) (e1:List D) (c1 m7 c7:Nat) (a21:Option Addr) (e21:List D) (c21:Nat) (n22 n23:Int) (y0:D) (r1:List D) (q1:Nat) (N:Nat) (h :
Br (decide (n23<n22)) ((0≤n23∧n23<(e21.length:Int))∧∀ b,N≤b→ACalls prog 64 [.sl 0] [.sv a1 0 e1 c1,.dg 9 y0,.int .i64 n23] b (fun a c d
 e=>b≤e→Bel e (D.sl a 0 c d)→∀ b,e≤b→ACalls prog 31 [.sl 9] [.sv a0 0 e0 c0,.sv a 0 c d,.dg 9 (List.getD e21 n23.toNat default)] b
 (fun a c d e=>b≤e→Bel e (D.sl a 9 c d)→(m7=r1.length∧c7=q1)∧zC r1 c 136∧∀ (a:Nat),y6 Q N0 a0
 e0 c0 a1 e1 c1 (r1++c).length a a21 e21 c21 n22 (IntKind.i64.wrap (n23+1)) y0 (r1++c) a e))) ((m7=r1.length∧c7=q1)∧(m7=r1.length∧c7
 = q1)∧(m7=r1.length∧c7=q1)∧∀ a b,N≤b→Fresh N0 b a [D.ag r1]→∀ c,b≤c→Q a r1 q1 c)):y6 Q N0 a0 e0 c0 a1 e1 c1 m7 c7 a21 e21 c21 n22 n23 y0 r1 q1 N:=
  hE (H:=rj) (by kernel_rfl) h
theorem u6 (N:Nat) (a0:Option Addr) (e0:List D) (c0:Nat) (a1:Option Addr) (e1:List D) (c1:Nat) (Q:QT [.bool]) (h :
Bel N (D.sl a0 9 e0 c0)→Bel N (D.sl a1 9 e1 c1)→Br (bne (e0.length:Int) (e1.length:Int)) (∀ a,N≤a→Q false a) (yK Q N a1
 e1 c1 a0 e0 c0 (e0.length:Int) 0 N)):ACalls prog 66 [.bool] [.sv a0 9 e0 c0,.sv a1 9 e1 c1,.fn 34 []] N Q:=
  eE (H:=vG) (by kernel_rfl) (by kernel_rfl) h
theorem v5 (Q:QT [.sl 9]) (N0:Nat) (m5 c5:Nat) (a8:Option Addr) (e8:List D) (c8:Nat) (n9 n10 n11 n12:Int) (r0:List D) (q0:Nat) (N:Nat) (h :
Br (decide (n12<(e8.length:Int))) ((0≤n12∧n12<(e8.length:Int))∧(0≤n9∧n9<(e8.length:Int))∧∀ a,N≤a→ACalls prog 23 [.bool] [.dg 9 (List.getD
 e8 n12.toNat default),.dg 9 (List.getD e8 n9.toNat default)] a (fun b c=>a≤c→Br b (∀ a,c≤a→ACalls prog 24 [.int .i64] [.int .i64 n11,.int
 .i64 n12] a (fun n b=>a≤b→z5 Q N0 m5 c5 a8 e8 c8 n9 (IntKind.i64.wrap (n10+1)) n (IntKind.i64.wrap (n12+1)) r0 q0 b)) (z5
 Q N0 m5 c5 a8 e8 c8 n9 n10 n11 (IntKind.i64.wrap (n12+1)) r0 q0 c))) (Br (decide (n10<2)) (zR Q N0 m5 c5 a8 e8 c8 (IntKind.i64.wrap (n9 +
 1)) r0 q0 N) (Br (bne n11 n9) (zR Q N0 m5 c5 a8 e8 c8 (IntKind.i64.wrap (n9+1)) r0 q0 N) (yP Q N0 m5 c5 a8 e8 c8 n9 0 r0 q0
 N)))):z5 Q N0 m5 c5 a8 e8 c8 n9 n10 n11 n12 r0 q0 N:=
  hE (H:=xH) (by kernel_rfl) h
theorem um (N:Nat) (a0:Option Addr) (e0:List D) (c0:Nat) (a1_0:Addr) (x1_0_:D) (a1_1:Addr) (x1_1_:D) (Q:QT [.int .i64]) (h :
Bel N (D.sl a0 0 e0 c0)→yA Q N a0 e0 c0 a1_0 x1_0_ a1_1 x1_1_ (e0.length:Int) 0 N):ACalls prog 121 [.int .i64] [.sv a0 0 e0 c0,.fn 92 [.pd a1_0 0 x1_0_,.pd a1_1 0 x1_1_]] N Q:=
 eE (H:=wm) (by kernel_rfl) (by kernel_rfl) h
theorem wM (Q:QT [.bool]) (N0:Nat) (a1:Option Addr) (e1:List D) (c1:Nat) (a15:Option Addr) (e15:List D) (c15:Nat) (n16 n17:Int) (N:Nat) (h :
Br (decide (n17<n16)) ((0≤n17∧n17<(e15.length:Int))∧(0≤n17∧n17<(e1.length:Int))∧∀ a,N≤a→ACalls prog 34 [.bool] [.dg 9 (List.getD e15
 n17.toNat default),.dg 9 (List.getD e1 n17.toNat default)] a (fun b c=>a≤c→Br (!b) (∀ a,c≤a→Q false a) (yK Q N0
 a1 e1 c1 a15 e15 c15 n16 (IntKind.i64.wrap (n17+1)) c))) (∀ a,N≤a→Q true a)):yK Q N0 a1 e1 c1 a15 e15 c15 n16 n17 N:=
  hE (H:=vG) (by kernel_rfl) h
theorem v3 (Q:QT [.sl 9]) (N0:Nat) (m5 c5:Nat) (a8:Option Addr) (e8:List D) (c8:Nat) (n9 n13:Int) (r0:List D) (q0:Nat) (N:Nat) (h :
Br (decide (n13<(m5:Int))) ((0≤n13∧n13<(m5:Int)∧(0+n13.toNat:Nat)<r0.length)∧(0+n13.toNat:Nat)<r0.length∧(0≤n9∧n9<(e8.length
 : Int))∧∀ a,N≤a→ACalls prog 25 [.int .i64] [.dg 9 (List.getD r0 (0+n13.toNat:Nat) default)] a (fun n b=>a≤b→∀ a,b≤a→ACalls
 prog 25 [.int .i64] [.dg 9 (List.getD e8 n9.toNat default)] a (fun b c=>a≤c→Br (decide (n≥b)) (yP Q N0 m5 c5 a8 e8 c8 n9 (IntKind.i64.wrap
 (n13+1)) r0 q0 c) (y3 Q N0 m5 c5 a8 e8 c8 n9 n13 r0 q0 c)))) (y3 Q N0 m5 c5 a8 e8 c8 n9 n13 r0 q0 N)):yP Q N0 m5 c5 a8 e8 c8 n9 n13 r0 q0 N:=
  hE (H:=xH) (by kernel_rfl) h
theorem wD (Q:QT [.int .i64]) (N0:Nat) (a0:Option Addr) (e0:List D) (c0:Nat) (a1_0:Addr) (x1_0_:D) (a1_1:Addr) (x1_1_:D) (n7 n8:Int) (N:Nat) (h :
Br (decide (n8<n7)) ((0≤n8∧n8<(e0.length:Int))∧∃ s,List.getD e0 n8.toNat default=D.lit (.string s)∧∀ a,N≤a→ACalls prog 92 [.bool] [.str
 s,.pd a1_0 0 x1_0_,.pd a1_1 0 x1_1_] a (fun b c=>a≤c→Br b (∀ a,c≤a→Q n8 a) (yA Q N0 a0 e0 c0 a1_0 x1_0_ a1_1
 x1_1_ n7 (IntKind.i64.wrap (n8+1)) c))) (∀ a,N≤a→Q (-1) a)):yA Q N0 a0 e0 c0 a1_0 x1_0_ a1_1 x1_1_ n7 n8 N:=
  hE (H:=wm) (by kernel_rfl) h
theorem pH (Q:QT [.sl 9]) (N0:Nat) (m5 c5:Nat) (a8:Option Addr) (e8:List D) (c8:Nat) (n9 n13:Int) (r0:List D) (q0:Nat) (N:Nat) (h :
(0≤n13∧n13≤(m5:Int)∧(m5:Int)≤(c5:Int)∧True)∧0≤0∧((0+loN 9 c5 n13:Nat)+(((m5:Int)).toNat - n13.toNat:Nat):Nat)≤r0.length∧(0
 = 0∧0=0)∧zC (List.take 0 []) (List.take (((m5:Int)).toNat - n13.toNat:Nat) (List.drop (0+loN 9 c5 n13:Nat) r0)) 136∧∀ (c:Nat),(List.take
 0 []++List.take (((m5:Int)).toNat - n13.toNat:Nat) (List.drop (0+loN 9 c5 n13:Nat) r0)).length≤c→(0≤n9∧n9<(e8.length:Int))∧(0≤n13∧n13
 ≤ (c5:Int))∧∀ b,N≤b→ACalls prog 26 [Sh.pk,.int .i64,.str,.str,.int .i64,Sh.dc,Sh.dc,Sh.dc,Sh.dc,.row (OfNat.ofNat 39) 9] [.dg 9 (List.getD
 e8 n9.toNat default)] b (fun n s c d x e f g h i j=>b≤j→Bel j (D.ag h)→(h.length=h.length∧i=i)∧∀ a b,j≤b →
 Fresh N0 b a [D.ag h,x,e,f,g,D.ag r0]→n13.toNat≤r0.length∧1≤([D.ag [D.lit (.int .i64 n),D.lit (.string s),D.lit (.string c),D.lit (.int
 .i64 d),x,e,f,g,D.sl a 9 h i]]).length∧(n13.toNat=(List.take n13.toNat r0).length∧c5=q0)∧zC (List.take n13.toNat r0) (List.take 1
 (List.drop 0 [D.ag [D.lit (.int .i64 n),D.lit (.string s),D.lit (.string c),D.lit (.int .i64 d),x,e,f,g,D.sl a 9 h i]])) 136∧∀ (j:Nat),
 (List.take n13.toNat r0++List.take 1 (List.drop 0 [D.ag [D.lit (.int .i64 n),D.lit (.string s),D.lit (.string c),D.lit (.int .i64 d),x,e,f,g,
 D.sl a 9 h i]])).length≤j→(List.take n13.toNat r0++List.take 1 (List.drop 0 [D.ag [D.lit (.int .i64 n),D.lit (.string s),D.lit (.string c),D.lit
 (.int .i64 d),x,e,f,g,D.sl a 9 h i]])).length≤(List.take n13.toNat r0++List.take 1 (List.drop 0 [D.ag [D.lit (.int .i64 n),D.lit (.string s),
 D.lit (.string c),D.lit (.int .i64 d),x,e,f,g,D.sl a 9 h i]])).length∧(0+(List.take 0 []++List.take (((m5:Int)).toNat - n13.toNat:Nat)
 (List.drop (0+loN 9 c5 n13:Nat) r0)).length:Nat)≤(List.take 0 []++List.take (((m5:Int)).toNat - n13.toNat:Nat) (List.drop (0+loN 9 c5 n13:Nat)
 r0)).length∧((List.take n13.toNat r0++List.take 1 (List.drop 0 [D.ag [D.lit (.int .i64 n),D.lit (.string s),D.lit (.string c),D.lit (.int .i64 d),x,
 e,f,g,D.sl a 9 h i]])).length=(List.take (List.take n13.toNat r0++List.take 1 (List.drop 0 [D.ag [D.lit (.int .i64 n),D.lit (.string s),D.lit (.string
 c),D.lit (.int .i64 d),x,e,f,g,D.sl a 9 h i]])).length (List.take n13.toNat r0++List.take 1 (List.drop 0 [D.ag [D.lit (.int .i64 n),D.lit (.string
 s),D.lit (.string c),D.lit (.int .i64 d),x,e,f,g,D.sl a 9 h i]]))).length∧j=j)∧zC (List.take (List.take n13.toNat r0++List.take
 1 (List.drop 0 [D.ag [D.lit (.int .i64 n),D.lit (.string s),D.lit (.string c),D.lit (.int .i64 d),x,e,f,g,D.sl a 9 h i]])).length (List.take
 n13.toNat r0++List.take 1 (List.drop 0 [D.ag [D.lit (.int .i64 n),D.lit (.string s),D.lit (.string c),D.lit (.int .i64 d),x,e,f,g,D.sl a 9 h
 i]]))) (List.take (List.take 0 []++List.take (((m5:Int)).toNat - n13.toNat:Nat) (List.drop (0+loN 9 c5 n13:Nat) r0)).length (List.drop 0 (List.take 0
 []++List.take (((m5:Int)).toNat - n13.toNat:Nat) (List.drop (0+loN 9 c5 n13:Nat) r0)))) 136∧∀ (j:Nat),(List.take (List.take n13.toNat r0++List.take
 1 (List.drop 0 [D.ag [D.lit (.int .i64 n),D.lit (.string s),D.lit (.string c),D.lit (.int .i64 d),x,e,f,g,D.sl a 9 h i]])).length (List.take
 n13.toNat r0++List.take 1 (List.drop 0 [D.ag [D.lit (.int .i64 n),D.lit (.string s),D.lit (.string c),D.lit (.int .i64 d),x,e,f,g,D.sl a 9 h
 i]]))++List.take (List.take 0 []++List.take (((m5:Int)).toNat - n13.toNat:Nat) (List.drop (0+loN 9 c5 n13:Nat) r0)).length (List.drop 0 (List.take
 0 []++List.take (((m5:Int)).toNat - n13.toNat:Nat) (List.drop (0+loN 9 c5 n13:Nat) r0)))).length≤j→zR Q N0 (List.take (List.take
 n13.toNat r0++List.take 1 (List.drop 0 [D.ag [D.lit (.int .i64 n),D.lit (.string s),D.lit (.string c),D.lit (.int .i64 d),x,e,f,g,D.sl a 9 h
 i]])).length (List.take n13.toNat r0++List.take 1 (List.drop 0 [D.ag [D.lit (.int .i64 n),D.lit (.string s),D.lit (.string c),D.lit (.int .i64 d),x,
 e,f,g,D.sl a 9 h i]]))++List.take (List.take 0 []++List.take (((m5:Int)).toNat - n13.toNat:Nat) (List.drop (0+loN 9 c5 n13:Nat) r0)).length
 (List.drop 0 (List.take 0 []++List.take (((m5:Int)).toNat - n13.toNat:Nat) (List.drop (0+loN 9 c5 n13:Nat) r0)))).length j a8 e8 c8 (IntKind.i64.wrap
 (n9+1)) (List.take (List.take n13.toNat r0++List.take 1 (List.drop 0 [D.ag [D.lit (.int .i64 n),D.lit (.string s),D.lit (.string c),D.lit (.int .i64 d),
 x,e,f,g,D.sl a 9 h i]])).length (List.take n13.toNat r0++List.take 1 (List.drop 0 [D.ag [D.lit (.int .i64 n),D.lit (.string s),D.lit (.string c),
 D.lit (.int .i64 d),x,e,f,g,D.sl a 9 h i]]))++List.take (List.take 0 []++List.take (((m5:Int)).toNat - n13.toNat:Nat) (List.drop (0+loN
 9 c5 n13:Nat) r0)).length (List.drop 0 (List.take 0 []++List.take (((m5:Int)).toNat - n13.toNat:Nat) (List.drop (0+loN 9 c5 n13:Nat) r0)))) j b) 
 ):y3 Q N0 m5 c5 a8 e8 c8 n9 n13 r0 q0 N:=
  hE (H:=xH) (by kernel_rfl) h
theorem zAG (N:Nat) (s0:ByteArray) (a1:Addr) (x1_:D) (a2:Addr) (x2_:D) (Q:QT [.bool]) (h :
∃ a d,∃ c:Nat,x1_=D.sl a 0 d c∧∀ e,N≤e→ACalls prog 93 [.bool] [.sv a 0 d c,.str s0] e (fun b a=>e≤a→Br (!b) (∀ b,a≤b
 → Q true b) (∃ b c,∃ d:Nat,x2_=D.sl b 0 c d∧∀ e,a≤e→ACalls prog 93 [.bool] [.sv b 0 c d,.str s0] e (fun a b=>e
 ≤ b→∀ c,b≤c→Q a c)))):ACalls prog 92 [.bool] [.str s0,.pd a1 0 x1_,.pd a2 0 x2_] N Q:=
  eE (H:=zCr) (by kernel_rfl) (by kernel_rfl) h
end Go.Proofs.YtnpjpplbkoammaaGreat
set_option maxRecDepth 100000
namespace Go.Proofs.YtnpjpplbkoammaaGreat
open Go Go.Proofs Go.Proofs.Tryz
def ti:Hint:=⟨[],[],[(5,hs 4 [ec 2 [19]]),(8,[en 0,en 2,eh 1,ec 3 [26],ec 4 [27],en 5]),(10,hs 4 [ec 1 [31]]),(11,hs 4 [ec 2 [34]]),(16,[en 0,en 1,ec 2 [46],ec 3 [45,47],en 4]),(19,hs 4 [em 2 none [0,3,6,8,9,10]]),(20,hs 4 [em 2 (some 8) [0,3,6,9,10]]),(24,hs 4 [em 2 none [0,3,6,11] (some 9)]),(31,[en 0,en 2,eh 1,ec 3 [77],ec 4 [78],en 5])]⟩
theorem sO (N:Nat) (a0:Option Addr) (e0:List D) (c0:Nat) (x1:D) (Q:QT [.bool]) (h :
Bel N (D.sl a0 4 e0 c0)→Bel N x1→∀ d,N≤d→ACalls prog 4 [.int .i64] [.sv a0 4 e0 c0,.int .i64 1048576] d (fun n e=>d≤e→Br (decide (n <
 0)) (∀ a,e≤a→Q true a) (∀ d,e≤d→ACalls prog 5 [.int .i64] [.dg 9 x1,.int .i64 n] d (fun e f=>d≤f→Br (decide (e<0)) (∀
 a,f≤a→Q true a) (∀ d,f≤d→ACalls prog 7 [.sl 4] [.sv a0 4 e0 c0] d (fun a c e f=>d≤f→Bel f (D.sl a 4 c e)→∀ d,f ≤
 d→ACalls prog 8 [.ag 9] [.dg 9 x1] d (fun x f=>d≤f→Bel f x→∀ d,f≤d→ACalls prog 6 [.sl 9] [.sv a 4 c e,.dg 9 x] d (fun
 a c e f=>d≤f→Bel f (D.sl a 9 c e)→∀ d,f≤d→ACalls prog 7 [.sl 4] [.sv a0 4 e0 c0] d (fun f g h i=>d
 ≤ i→Bel i (D.sl f 4 g h)→∀ d,i≤d→ACalls prog 8 [.ag 9] [.dg 9 x1] d (fun i j=>d≤j→Bel j i→∀ d,j
 ≤ d→ACalls prog 9 [.sl 9] [.sv f 4 g h,.dg 9 i] d (fun j k l m=>d≤m→Bel m (D.sl j 9 k l)→∀ d,m≤d
 → ACalls prog 10 [.bool] [.sv j 9 k l,.sv a 9 c e] d (fun b m=>d≤m→Br (!b) (∀ a,m≤a→Q false a) (∀ b,m ≤
 b→ACalls prog 7 [.sl 4] [.sv a0 4 e0 c0] b (fun d m n o=>b≤o→Bel o (D.sl d 4 m n)→∀ b,o≤b→ACalls prog 11
 [.bool] [.sv f 4 g h,.sv d 4 m n] b (fun d m=>b≤m→Br (!d) (∀ a,m≤a→Q false a) (∀ b,m≤b→ACalls
 prog 8 [.ag 9] [.dg 9 x1] b (fun d m=>b≤m→Bel m d→∀ b,m≤b→ACalls prog 12 [.bool] [.dg 9 i,.dg 9 d] b (fun d m
 => b≤m→Br (!d) (∀ a,m≤a→Q false a) (Tree (D.sl f 4 g h)∧Low N (D.sl f 4 g h)∧Dis (D.sl f 4 g h) [D.sl a0 4
 e0 c0,D.sl a 9 c e,D.sl j 9 k l,x1,i]∧∀ b,m≤b→MC prog 13 (D.sl f 4 g h) 1 b (fun _ d f=>b≤f→Tree
 i∧Low N i∧i=i∧Dis i [D.sl a0 4 e0 c0,D.sl a 9 c e,D.sl j 9 k l,x1]∧∀ b,f≤b→MC prog 14 i d b (fun d f
 g=>b≤g→Br (decide (f<0)) (∀ a,g≤a→Q false a) (∀ b,g≤b→ACalls prog 10 [.bool] [.sv j 9 k l,.sv a 9 c
 e] b (fun f g=>b≤g→Br (!f) (∀ a,g≤a→Q false a) (Tree (D.sl j 9 k l)∧Low N (D.sl j 9 k l)∧Dis (D.sl j
 9 k l) [D.sl a0 4 e0 c0,D.sl a 9 c e,x1,d]∧D.sl j 9 k l=D.sl j 9 k l∧∀ b,g≤b→MC prog 15 (D.sl j 9 k l)
 1 b (fun d f g=>b≤g→∀ b,g≤b→ACalls prog 16 [.int .i64] [.sv j 9 (D.elems d) l,.int .i64 1] b (fun g h=>b
 ≤ h→Br (decide (g<0)) (∀ a,h≤a→Q false a) (Br (bne g f) (∀ a,h≤a→Q false a) (∀ b,h≤b→ACalls prog 7 [.sl
 4] [.sv a0 4 e0 c0] b (fun g h i k=>b≤k→Bel k (D.sl g 4 h i)→∀ b,k≤b→ACalls prog 8 [.ag 9] [.dg 9 x1] b (fun
 k m=>b≤m→Bel m k→∀ b,m≤b→ACalls prog 9 [.sl 9] [.sv g 4 h i,.dg 9 k] b (fun g h i k=>b≤k →
 Bel k (D.sl g 9 h i)→∀ b,k≤b→ACalls prog 10 [.bool] [.sv g 9 h i,.sv a 9 c e] b (fun a c=>b≤c→Br (!a)
 (∀ a,c≤a→Q false a) (∀ a,c≤a→ACalls prog 16 [.int .i64] [.sv j 9 (D.elems d) l,.int .i64 1] a (fun b c=>a≤c
 → Br (decide (b<0)) (∀ a,c≤a→Q false a) (Br (bne b f) (∀ a,c≤a→Q false a) (∀ a,c≤a→Q true a))))))))))))))))))))))))))))))))))) 
 ):ACalls prog 3 [.bool] [PV.sv a0 4 e0 c0,PV.dg 9 x1] N Q:=
  eE (H:=ti) (by kernel_rfl) (by kernel_rfl) h
end Go.Proofs.YtnpjpplbkoammaaGreat
