/- Printed by gen.py: what the functions come to. -/
import Derived.Test.YtlahkdflngobiaaGreatDoorJh
set_option linter.unusedVariables false
set_option maxRecDepth 100000
namespace Go.Proofs.YtlahkdflngobiaaGreatDoor
open Go Go.Proofs Go.Proofs.Tryz
def s7:Hint:=⟨[hc 6 [7,8,25,26,27] [(8,36,9)]],[],[(1,hs 9 [ec 2 [14]]),(4,[en 0,en 2,en 4,eh 1,ec 3 [22],en 5,en 6])]⟩
def zBM:Hint:=⟨[],[],[(1,[en 0,en 2,ec 1 [5],ec 3 [7],en 4,en 5])]⟩
def vP:Hint:=⟨[hc 2 [0,1,7,8]],[],[(4,hs 6 [ec 5 [15]])]⟩
def z8:Hint:=⟨[hc 2 [0,1,2,6,7,8],hc 7 [0,1,2,6],hc 9 [0,1,2,6,7,8]],[],[]⟩
def zBU:Hint:=⟨[],[],[(1,hs 4 [ec 2 [4,5]])]⟩
def zw:Hint:=⟨[hc 1 [0,1,2,3,8],hc 4 [0,1,2,3,8,9]],[],[(4,[en 0,en 1,en 2,en 3,en 4,en 5,en 6,en 7,en 8,en 9,en 10,en 11,en 12,en 13,ec 14 [26,31],en 15,en 16]),(6,[en 0,en 1,en 2,en 3,en 4,en 5,en 6,en 7,en 8,en 9,en 10,en 11,en 12,en 13,en 14,eh 15,en 16,eh 17])]⟩
def zG:Hint:=⟨[hc 3 [0,1,4,10,11],hc 9 [0,10,13],hc 15 [0,2,4,14,15],hc 21 [0,14,17],hc 33 [0,1,2,3,4,18,19,20,21,22]],[hc 41 [0,1,3,4,18,20,24],hc 43 [0,3,4,18,24]],[(5,[en 0,en 1,en 2,en 3,en 4,en 5,en 6,en 7,en 8,ec 9 [44,48],en 10]),(11,[en 0,en 1,en 2,en 3,en 4,en 5,en 6,en 7,en 8,en 9,en 10,en 11,en 12,en 13,en 14,eh 15,en 16,eh 17]),(17,[en 0,en 1,en 2,en 3,en 4,en 5,en 6,en 7,en 8,ec 9 [96,100],en 10,en 11]),(23,[en 0,en 1,en 2,en 3,en 4,en 5,en 6,en 7,en 8,en 9,en 10,en 11,en 12,en 13,en 14,eh 15,en 16,eh 17]),(35,[en 0,en 1,en 2,en 3,en 4,en 5,en 6,en 7,en 8,en 9,en 10,ec 11 [164,168],en 12,en 13])]⟩
def wU:Hint:=⟨[hc 2 [0,2,4,10,11]],[],[]⟩
def xY:Hint:=⟨[hc 1 [0,1,2,3,10]],[],[(3,[en 0,en 1,en 2,en 3,en 4,en 5,en 6,en 7,en 8,en 9,en 10,en 11,en 12,en 13,en 14,en 15,en 16,en 17,en 18,en 19,en 20,eh 21,en 22,eh 23])]⟩
def zt (Q:QT [.sl 9]) (N0:Nat) (a7:Option Addr) (e7:List D) (c7 m8 c8:Nat) (I:Option Addr) (J:List D) (O:Nat) (aa ab:Int) (r0:List D) (q0:Nat) (N:Nat):Prop:=AT prog 20 [.sl 9] Q N0 .ord (zD prog 20 6) ⟨an 7 (.sv a7 9 e7 c7::.sb 0 9 0 m8 c8::an 16 (.sv I 9 J O::.int .i64 aa::.int .i64 ab::an 27 [])),[.arr 36 9 r0 q0],N,none⟩
def yJ (Q:QT [.int .i64]) (N0:Nat) (a0:Option Addr) (e0:List D) (O:Nat) (J:Addr) (I:D) (n7 n8:Int) (N:Nat):Prop:=AT prog 105 [.int .i64] Q N0 .ord (zD prog 105 2) ⟨.sv a0 9 e0 O::.fn 60 [.pd J 9 I]::an 5 (.int .i64 n7::.int .i64 n8::an 10 []),[],N,none⟩
def zX (E:Env) (Q:QT [.sl 9]) (N0:Nat) (I J:Nat) (O c0:Nat) (n1 n6 n7 n8:Int) (r0:List D) (q0:Nat) (N:Nat):Prop:=AT prog 106 [.sl 9] Q N0 (.fx E 36 9 I J) (zD prog 106 2) ⟨.sb 0 9 0 O c0::.int .i64 n1::.fn 64 []::an 3 (.int .i64 n6::.int .i64 n7::.int .i64 n8::an 54 []),[.arr 36 9 r0 q0],N,some ([E.at 0],[])⟩
def zJ (E:Env) (Q:QT [.sl 9]) (N0:Nat) (I J:Nat) (O c0:Nat) (n1 n6:Int) (r0:List D) (q0:Nat) (N:Nat):Prop:=AT prog 106 [.sl 9] Q N0 (.fx E 36 9 I J) (zD prog 106 7) ⟨.sb 0 9 0 O c0::.int .i64 n1::.fn 64 []::an 3 (.int .i64 n6::an 56 []),[.arr 36 9 r0 q0],N,some ([E.at 0],[])⟩
def zM (E:Env) (Q:QT [.sl 9]) (N0:Nat) (I J:Nat) (O c0:Nat) (n1 n2 n8:Int) (r0:List D) (q0:Nat) (N:Nat):Prop:=AT prog 144 [.sl 9] Q N0 (.fx E 36 9 I J) (zD prog 144 1) ⟨.sb 0 9 0 O c0::.int .i64 n1::.int .i64 n2::.fn 64 []::an 4 (.int .i64 n8::an 44 []),[.arr 36 9 r0 q0],N,some ([E.at 0],[])⟩
def zr (E:Env) (Q:QT [.sl 9]) (N0:Nat) (I J:Nat) (O c0:Nat) (n1 n6 n7 n8:Int) (r0:List D) (q0:Nat) (N:Nat):Prop:=AT prog 106 [.sl 9] Q N0 (.fx E 36 9 I J) (zD prog 106 9) ⟨.sb 0 9 0 O c0::.int .i64 n1::.fn 64 []::an 3 (.int .i64 n6::.int .i64 n7::.int .i64 n8::an 54 []),[.arr 36 9 r0 q0],N,some ([E.at 0],[])⟩
def zU (E:Env) (Q:QT [.sl 9]) (N0:Nat) (I J:Nat) (O c0:Nat) (n1 n2 n8 n9:Int) (r0:List D) (q0:Nat) (N:Nat):Prop:=AT prog 144 [.sl 9] Q N0 (.fx E 36 9 I J) (zD prog 144 4) ⟨.sb 0 9 0 O c0::.int .i64 n1::.int .i64 n2::.fn 64 []::an 4 (.int .i64 n8::.int .i64 n9::an 43 []),[.arr 36 9 r0 q0],N,some ([E.at 0],[])⟩
def zN (E:Env) (Q:QT [.sl 9]) (N0:Nat) (J O:Nat) (m0 c0:Nat) (n1 n10 I:Int) (r0:List D) (q0:Nat) (N:Nat):Prop:=AT prog 145 [.sl 9] Q N0 (.fx E 36 9 J O) (zD prog 145 3) ⟨.sb 0 9 0 m0 c0::.int .i64 n1::an 2 (.fn 64 []::an 5 (.int .i64 n10::.int .i64 I::an 208 [])),[.arr 36 9 r0 q0],N,some ([E.at 0],[])⟩
def zK (E:Env) (Q:QT [.sl 9]) (N0:Nat) (J O:Nat) (m0 c0:Nat) (n2 n14 I:Int) (r0:List D) (q0:Nat) (N:Nat):Prop:=AT prog 145 [.sl 9] Q N0 (.fx E 36 9 J O) (zD prog 145 15) ⟨.sb 0 9 0 m0 c0::an 1 (.int .i64 n2::an 1 (.fn 64 []::an 9 (.int .i64 n14::.int .i64 I::an 204 []))),[.arr 36 9 r0 q0],N,some ([E.at 0],[])⟩
def zF (E:Env) (Q:QT [.sl 9]) (N0:Nat) (nX cX:Nat) (m0 c0:Nat) (n1 n2 n3 I J O aa ab:Int) (r0:List D) (q0:Nat) (N:Nat):Prop:=AT prog 145 [.sl 9] Q N0 (.fx E 36 9 nX cX) (zD prog 145 33) ⟨.sb 0 9 0 m0 c0::.int .i64 n1::.int .i64 n2::.int .i64 n3::.fn 64 []::an 13 (.int .i64 I::.int .i64 J::.int .i64 O::.int .i64 aa::.int .i64 ab::an 197 []),[.arr 36 9 r0 q0],N,some ([E.at 0],[])⟩
def zl (E:Env) (Q:QT [.sl 9]) (N0:Nat) (J O:Nat) (m0 c0:Nat) (n10 I:Int) (r0:List D) (q0:Nat) (N:Nat):Prop:=AT prog 145 [.sl 9] Q N0 (.fx E 36 9 J O) (zD prog 145 9) ⟨.sb 0 9 0 m0 c0::an 9 (.int .i64 n10::an 2 (.int .i64 I::an 206 [])),[.arr 36 9 r0 q0],N,some ([E.at 0],[])⟩
def zg (E:Env) (Q:QT [.sl 9]) (N0:Nat) (J O:Nat) (m0 c0:Nat) (n14 I:Int) (r0:List D) (q0:Nat) (N:Nat):Prop:=AT prog 145 [.sl 9] Q N0 (.fx E 36 9 J O) (zD prog 145 21) ⟨.sb 0 9 0 m0 c0::an 13 (.int .i64 n14::an 2 (.int .i64 I::an 202 [])),[.arr 36 9 r0 q0],N,some ([E.at 0],[])⟩
def zS (E:Env) (Q:QT [.sl 9]) (N0:Nat) (nX cX:Nat) (m0 c0:Nat) (n1 n3 I J O:Int) (r0:List D) (q0:Nat) (N:Nat):Prop:=AT prog 145 [.sl 9] Q N0 (.fx E 36 9 nX cX) (qI prog 145 41) ⟨.sb 0 9 0 m0 c0::.int .i64 n1::an 1 (.int .i64 n3::.fn 64 []::an 13 (.int .i64 I::an 1 (.int .i64 J::an 3 (.int .i64 O::an 195 [])))),[.arr 36 9 r0 q0],N,some ([E.at 0],[])⟩
def zZ (E:Env) (Q:QT [.sl 9]) (N0:Nat) (J O:Nat) (m0 c0:Nat) (n2 n10 I:Int) (r0:List D) (q0:Nat) (N:Nat):Prop:=AT prog 177 [.sl 9] Q N0 (.fx E 36 9 J O) (zD prog 177 2) ⟨.sb 0 9 0 m0 c0::an 1 (.int .i64 n2::an 1 (.fn 64 []::an 5 (.int .i64 n10::.int .i64 I::an 46 []))),[.arr 36 9 r0 q0],N,some ([E.at 0],[])⟩
def zR (E:Env) (Q:QT [.sl 9]) (N0:Nat) (O cX:Nat) (m0 c0:Nat) (n3 I J:Int) (r0:List D) (q0:Nat) (N:Nat):Prop:=AT prog 145 [.sl 9] Q N0 (.fx E 36 9 O cX) (qI prog 145 43) ⟨.sb 0 9 0 m0 c0::an 2 (.int .i64 n3::.fn 64 []::an 13 (.int .i64 I::an 5 (.int .i64 J::an 195 []))),[.arr 36 9 r0 q0],N,some ([E.at 0],[])⟩
def zf (E:Env) (Q:QT [.sl 9]) (N0:Nat) (I J:Nat) (O c0:Nat) (n1 n2 n3 n10:Int) (r0:List D) (q0:Nat) (N:Nat):Prop:=AT prog 208 [.sl 9] Q N0 (.fx E 36 9 I J) (zD prog 208 1) ⟨.sb 0 9 0 O c0::.int .i64 n1::.int .i64 n2::.int .i64 n3::an 6 (.int .i64 n10::an 27 []),[.arr 36 9 r0 q0],N,some ([E.at 0],[])⟩
theorem zDQ (N:Nat) (a0:Option Addr) (e0:List D) (I:Nat) (J:D) (Q:QT [.sl 9]) (h :
Bel N (D.sl a0 4 e0 I)->Bel N J->kAB 2 58 [.sv a0 4 e0 I,.dg 9 J] N (λ_ b d=>Br (!b) (uP d (Q none [] 0)) (kL 0 44 [.sv a0 4 e0 I] d (λa
 b c d=>kL 9 59 [.sv a 0 b c,.sv none 0 [] 0,.dg 9 J] d (λa b c d=>zt Q N a b c 0 0 a b c (b.length :
 Int) 0 [] 0 d))))):ACalls prog 20 [.sl 9] [PV.sv a0 4 e0 I,PV.dg 9 J] N Q:=
  eE s7 h
theorem zBQ (N:Nat) (I J:D) (Q:QT [.int .i64]) (h :
Bel N I->Bel N J->∀ a,N<=a->ACalls prog 65 [.i] [.dg 9 J] a (λn b=>a<=b->∀ a,b<=a->ACalls prog 65 [.i] [.dg 9 I] a (λb c
 => a<=c->uP c (Q (IntKind.i64.wrap (n - b)))))):ACalls prog 64 [.int .i64] [PV.dg 9 I,PV.dg 9 J] N Q:=
  eE zBM h
theorem tk (Q:QT [.sl 9]) (N0:Nat) (a7:Option Addr) (O:List D) (c7 m8 c8:Nat) (ab:Option Addr) (J:List D) (ac:Nat) (aa I:Int) (r0:List D) (q0:Nat) (N:Nat) (h :
Br (decide (I<aa)) ((0<=I/\I<(J.length:Int))/\((0:Int)<=(0:Int)/\0<=I/\I<=(O.length:Int))/\∀ a,ApA (Option.some a)
 [List.getD J I.toNat default]->Off [Option.some a] (D.sl (if (c7:Int)=0 then a7 else Option.map (λx=>Addr.add x 0) a7) 9 (List.drop 0 (List.take
 I.toNat O)) (c7 - 0:Nat))->∀ d,N<=d->wa d [Option.some a]->ACalls prog 62 [.bool] [.sv (if (c7:Int)=0 then a7 else Option.map (λa=>
 Addr.add a 0) a7) 9 (List.drop 0 (List.take I.toNat O)) (c7 - 0:Nat),.fn 60 [.pd a 9 (List.getD J I.toNat default)]] d (λb a=>d<=a->Br
 (!b) ((0<=IntKind.i64.wrap (I+1)/\IntKind.i64.wrap (I+1)<=(O.length:Int)/\(O.length:Int)<=(O.length:Int))/\∀ b,ApA (Option.some b)
 [List.getD J I.toNat default]->Off [Option.some b] (D.sl (if (c7:Int)=IntKind.i64.wrap (I+1) then a7 else Option.map (λa=>Addr.add a
 ((IntKind.i64.wrap (I+1)).toNat*9:Nat)) a7) 9 (List.drop (IntKind.i64.wrap (I+1)).toNat (List.take ((O.length:Int)).toNat O)) (c7 -
 (IntKind.i64.wrap (I+1)).toNat:Nat))->∀ d,a<=d->wa d [Option.some b]->ACalls prog 62 [.bool] [.sv (if (c7:Int)=IntKind.i64.wrap (I +
 1) then a7 else Option.map (λa=>Addr.add a ((IntKind.i64.wrap (I+1)).toNat*9:Nat)) a7) 9 (List.drop (IntKind.i64.wrap (I+1)).toNat
 (List.take ((O.length:Int)).toNat O)) (c7 - (IntKind.i64.wrap (I+1)).toNat:Nat),.fn 60 [.pd b 9 (List.getD J I.toNat default)]] d (λa b
 => d<=b->Br a ((m8=r0.length/\c8=q0)/\zB r0 [List.getD J I.toNat default] 136/\∀ (c:Nat),zt Q N0 a7 O c7 (r0 ++
 [List.getD J I.toNat default]).length c ab J ac aa (IntKind.i64.wrap (I+1)) (r0++[List.getD J I.toNat default]) c b) (zt Q
 N0 a7 O c7 m8 c8 ab J ac aa (IntKind.i64.wrap (I+1)) r0 q0 b))) (zt Q N0 a7 O c7 m8 c8 ab J ac aa (IntKind.i64.wrap (I+1))
 r0 q0 a))) (∀ b,N<=b->XCalls prog 63 [.sl 9] [.sb 0 9 0 m8 c8,.fn 64 []] [Bx.arr 36 9 r0 q0] b (λ_ a _ c=>b<=c->Bel c (D.ag a) ->
 a.length=r0.length->w4 (m8=a.length/\c8=q0) (∀ b d,c<=d->Fresh N0 d b [D.ag a]->uP d (Q b a q0))))):zt Q N0 a7 O c7 m8 c8 ab J ac aa I r0 q0 N:=
  hE s7 h
theorem uo (N:Nat) (a0:Option Addr) (e0:List D) (O:Nat) (J:Addr) (I:D) (Q:QT [.bool]) (h :
Bel N (D.sl a0 9 e0 O)->kI 105 [.sv a0 9 e0 O,.fn 60 [.pd J 9 I]] N (λn a=>uP a (Q (decide (n≥0))))):ACalls prog 62 [.bool] [.sv a0 9 e0 O,.fn 60 [.pd J 9 I]] N Q:=
 eE H0 h
theorem uR (N:Nat) (O c0:Nat) (J:List D) (I:Nat) (Q:QT [(Sh.sl 9)]) (h:∀ E:Env,
Bel N (D.sl none 9 J I)->∀ b,N<=b->XCalls prog 106 [.sl 9] [.sb 0 9 0 O c0,.j (O:Int),.fn 64 []] [Bx.arr 36 9 J I] b (λ_
 a _ c=>b<=c->Bel c (D.ag a)->a.length=J.length->zGv E/\(a.length=J.length/\I=I)/\uP c (Q none a I)) ):XCalls prog 63 [(Sh.sl 9)] [.sb 0 9 0 O c0,.fn 64 []] [.arr 36 9 J I] N Q:=
  xE H0 h
theorem ta (N:Nat) (a0:Option Addr) (e0:List D) (O:Nat) (J:Addr) (I:D) (Q:QT [.int .i64]) (h :
Bel N (D.sl a0 9 e0 O)->yJ Q N a0 e0 O J I (e0.length:Int) 0 N):ACalls prog 105 [.int .i64] [.sv a0 9 e0 O,.fn 60 [.pd J 9 I]] N Q:=
 eE vP h
theorem ur (N:Nat) (O c0:Nat) (n1:Int) (I:List D) (J:Nat) (Q:QT [(Sh.sl 9)]) (h:∀ E:Env,
Bel N (D.sl none 9 I J)->zX E Q N I.length J O c0 n1 20 0 20 I J N):XCalls prog 106 [(Sh.sl 9)] [.sb 0 9 0 O c0,.int .i64 n1,.fn 64 []] [.arr 36 9 I J] N Q:=
 xE z8 h
theorem wi (Q:QT [.int .i64]) (N0:Nat) (a0:Option Addr) (e0:List D) (c0:Nat) (J:Addr) (I:D) (n7 O:Int) (N:Nat) (h :
Br (decide (O<n7)) ((0<=O/\O<(e0.length:Int))/\kB 60 [.dg 9 (List.getD e0 O.toNat default),.pd J 9 I] N (λb a=>Br b (uP a (Q
 O)) (yJ Q N0 a0 e0 c0 J I n7 (IntKind.i64.wrap (O+1)) a))) (uP N (Q (-1)))):yJ Q N0 a0 e0 c0 J I n7 O N:=
  hE vP h
theorem xo (E:Env) (Q:QT [(Sh.sl 9)]) (N0:Nat) (nX cX:Nat) (I J:Nat) (n1 n6 n7 O:Int) (r0:List D) (q0:Nat) (N:Nat) (h :
Br (decide (O<=n1)) (∀ b,N<=b->XCalls prog 144 [.sl 9] [.sb 0 9 0 I J,.j n7,.j O,.fn 64 []] [Bx.arr 36 9 r0 q0] b (λ_ a _ c=>b<=c ->
 Bel c (D.ag a)->a.length=r0.length->zX E Q N0 nX cX I J n1 n6 O (IntKind.i64.wrap (O+n6)) a q0 c)) (∀ a,N<=a ->
 XCalls prog 144 [.sl 9] [.sb 0 9 0 I J,.j n7,.j n1,.fn 64 []] [Bx.arr 36 9 r0 q0] a (λ_ b _ c=>a<=c->Bel c (D.ag b)->b.length =
 r0.length->zJ E Q N0 nX cX I J n1 n6 b q0 c))):zX E Q N0 nX cX I J n1 n6 n7 O r0 q0 N:=
  hE z8 h
theorem qg (N:Nat) (J:D) (a1:Addr) (I:D) (Q:QT [.bool]) (h :
Bel N J->kB 61 [.dg 9 I,.dg 9 J] N (λb a=>uP a (Q b))):ACalls prog 60 [.bool] [.dg 9 J,.pd a1 9 I] N Q:=
 eE zBU h
theorem wm (N:Nat) (O c0:Nat) (n1 n2:Int) (I:List D) (J:Nat) (Q:QT [(Sh.sl 9)]) (h:∀ E:Env,
Bel N (D.sl none 9 I J)->zM E Q N I.length J O c0 n1 n2 (IntKind.i64.wrap (n1+1)) I J N):XCalls prog 144 [(Sh.sl 9)] [.sb 0 9 0 O c0,.int .i64 n1,.int .i64 n2,.fn 64 []] [.arr 36 9 I J] N Q:=
 xE zw h
theorem xm (E:Env) (Q:QT [(Sh.sl 9)]) (N0:Nat) (O I:Nat) (m0 c0:Nat) (n1 J:Int) (r0:List D) (q0:Nat) (N:Nat) (h :
Br (decide (J<n1)) (zr E Q N0 O I m0 c0 n1 J 0 (IntKind.i64.wrap (2*J)) r0 q0 N) (zGv E/\(r0.length=O/\q0=I)
 /\ uP N (Q none r0 I))):zJ E Q N0 O I m0 c0 n1 J r0 q0 N:=
  hE z8 h
theorem zn (E:Env) (Q:QT [(Sh.sl 9)]) (N0:Nat) (O I:Nat) (m0 c0:Nat) (n1 n2 J:Int) (r0:List D) (q0:Nat) (N:Nat) (h :
Br (decide (J<n2)) (zU E Q N0 O I m0 c0 n1 n2 J J r0 q0 N) (zGv E/\(r0.length=O/\q0=I)/\uP N (Q none r0
 I))):zM E Q N0 O I m0 c0 n1 n2 J r0 q0 N:=
  hE zw h
theorem xl (E:Env) (Q:QT [(Sh.sl 9)]) (N0:Nat) (nX cX:Nat) (m0 c0:Nat) (n1 n6 n7 n8:Int) (r0:List D) (q0:Nat) (N:Nat) (h :
Br (decide (n8<=n1)) (∀ b,N<=b->XCalls prog 145 [.sl 9] [.sb 0 9 0 m0 c0,.j n7,.j (IntKind.i64.wrap (n7+n6)),.j n8,.fn 64 []] [Bx.arr 36 9 r0
 q0] b (fun _ a _ c=>b<=c->Bel c (D.ag a)->a.length=r0.length->zr E Q N0 nX cX m0 c0 n1 n6 n8 (IntKind.i64.wrap (n8 +
 IntKind.i64.wrap (2*n6))) a q0 c)) (Br (decide (IntKind.i64.wrap (n7+n6)<n1)) (∀ a,N<=a->XCalls prog 145 [.sl 9] [.sb 0 9 0 m0 c0,.j n7,.j
 (IntKind.i64.wrap (n7+n6)),.j n1,.fn 64 []] [Bx.arr 36 9 r0 q0] a (fun _ b _ c=>a<=c->Bel c (D.ag b)->b.length=r0.length ->
 zJ E Q N0 nX cX m0 c0 n1 (IntKind.i64.wrap (n6*2)) b q0 c)) (zJ E Q N0 nX cX m0 c0 n1
 (IntKind.i64.wrap (n6*2)) r0 q0 N))):zr E Q N0 nX cX m0 c0 n1 n6 n7 n8 r0 q0 N:=
  hE z8 h
theorem yi (E:Env) (Q:QT [(Sh.sl 9)]) (N0:Nat) (O cX:Nat) (J c0:Nat) (n1 n2 n8 I:Int) (r0:List D) (q0:Nat) (N:Nat) (h :
Br (decide (I>n1)) ((0<=I/\I<(J:Int)/\(0+I.toNat:Nat)<r0.length)/\(0+I.toNat:Nat)<r0.length/\(0<=IntKind.i64.wrap (I - 1) /\
 IntKind.i64.wrap (I - 1)<(J:Int)/\(0+(IntKind.i64.wrap (I - 1)).toNat:Nat)<r0.length)/\(0+(IntKind.i64.wrap (I - 1)).toNat:Nat)<r0.length
 /\ kI 64 [.dg 9 (List.getD r0 (0+I.toNat:Nat) default),.dg 9 (List.getD r0 (0+(IntKind.i64.wrap (I - 1)).toNat:Nat) default)] N (λn a=>Br
 (decide (n<0)) ((0<=IntKind.i64.wrap (I - 1)/\IntKind.i64.wrap (I - 1)<(J:Int)/\(0+(IntKind.i64.wrap (I - 1)).toNat:Nat)<r0.length)/\(0 +
 (IntKind.i64.wrap (I - 1)).toNat:Nat)<r0.length/\(0<=I/\I<(J:Int)/\(0+I.toNat:Nat)<r0.length)/\(0+I.toNat:Nat)<r0.length/\(0 <=
 I/\I<(J:Int)/\(0+I.toNat:Nat)<r0.length)/\(0+I.toNat:Nat)<r0.length/\(0<=IntKind.i64.wrap (I - 1)/\IntKind.i64.wrap (I - 1)<(J :
 Int)/\(0+(IntKind.i64.wrap (I - 1)).toNat:Nat)<(List.set r0 (0+I.toNat:Nat) (List.getD r0 (0+(IntKind.i64.wrap (I - 1)).toNat:Nat)
 default)).length)/\(0+(IntKind.i64.wrap (I - 1)).toNat:Nat)<(List.set r0 (0+I.toNat:Nat) (List.getD r0 (0+(IntKind.i64.wrap (I - 1)).toNat :
 Nat) default)).length/\zU E Q N0 O cX J c0 n1 n2 n8 (IntKind.i64.wrap (I - 1)) (List.set (List.set r0 (0+I.toNat:Nat)
 (List.getD r0 (0+(IntKind.i64.wrap (I - 1)).toNat:Nat) default)) (0+(IntKind.i64.wrap (I - 1)).toNat:Nat) (List.getD r0 (0+I.toNat:Nat) default))
 q0 a) (zM E Q N0 O cX J c0 n1 n2 (IntKind.i64.wrap (n8+1)) r0 q0 a))) (zM E Q N0 O cX
 J c0 n1 n2 (IntKind.i64.wrap (n8+1)) r0 q0 N)):zU E Q N0 O cX J c0 n1 n2 n8 I r0 q0 N:=
  hE zw h
theorem uL (N:Nat) (O c0:Nat) (n1 n2 n3:Int) (I:List D) (J:Nat) (Q:QT [(Sh.sl 9)]) (h:∀ E:Env,
Bel N (D.sl none 9 I J)->Br (IntKind.i64.wrap (n2 - n1)==1) (zN E Q N I.length J O c0 n1 n2 n3 I J
 N) (Br (IntKind.i64.wrap (n3 - n2)==1) (zK E Q N I.length J O c0 n2 n1 n2 I J N) ((0:Int)<=(1:Int)/\Br (decide
 (n2>IntKind.i64.wrap (Int.fdiv (IntKind.u64.wrap (IntKind.i64.wrap (n1+n3))) 2))) (zF E Q N I.length J O c0 n1 n2 n3
 (IntKind.i64.wrap (Int.fdiv (IntKind.u64.wrap (IntKind.i64.wrap (n1+n3))) 2)) (IntKind.i64.wrap (IntKind.i64.wrap (Int.fdiv (IntKind.u64.wrap
 (IntKind.i64.wrap (n1+n3))) 2)+n2)) (IntKind.i64.wrap (IntKind.i64.wrap (IntKind.i64.wrap (Int.fdiv (IntKind.u64.wrap (IntKind.i64.wrap (n1+n3))) 2)+n2)
 - n3)) (IntKind.i64.wrap (Int.fdiv (IntKind.u64.wrap (IntKind.i64.wrap (n1+n3))) 2)) (IntKind.i64.wrap (IntKind.i64.wrap (IntKind.i64.wrap (Int.fdiv
 (IntKind.u64.wrap (IntKind.i64.wrap (n1+n3))) 2)+n2) - 1)) I J N) (zF E Q N I.length J O c0 n1 n2 n3
 (IntKind.i64.wrap (Int.fdiv (IntKind.u64.wrap (IntKind.i64.wrap (n1+n3))) 2)) (IntKind.i64.wrap (IntKind.i64.wrap (Int.fdiv (IntKind.u64.wrap
 (IntKind.i64.wrap (n1+n3))) 2)+n2)) n1 n2 (IntKind.i64.wrap (IntKind.i64.wrap (IntKind.i64.wrap (Int.fdiv (IntKind.u64.wrap (IntKind.i64.wrap (n1+n3))) 2)
 + n2) - 1)) I J N)))):XCalls prog 145 [(Sh.sl 9)] [.sb 0 9 0 O c0,.int .i64 n1,.int .i64 n2,.int .i64 n3,.fn 64 []] [.arr 36 9 I J] N Q:=
  xE zG h
theorem xO (E:Env) (Q:QT [(Sh.sl 9)]) (N0:Nat) (O cX:Nat) (J c0:Nat) (n1 n10 I:Int) (r0:List D) (q0:Nat) (N:Nat) (h :
Br (decide (n10<I)) ((0:Int)<=(1:Int)/\(0<=IntKind.i64.wrap (Int.fdiv (IntKind.u64.wrap (IntKind.i64.wrap (n10+I))) 2)/\IntKind.i64.wrap
 (Int.fdiv (IntKind.u64.wrap (IntKind.i64.wrap (n10+I))) 2)<(J:Int)/\(0+(IntKind.i64.wrap (Int.fdiv (IntKind.u64.wrap (IntKind.i64.wrap (n10+I)))
 2)).toNat:Nat)<r0.length)/\(0+(IntKind.i64.wrap (Int.fdiv (IntKind.u64.wrap (IntKind.i64.wrap (n10+I))) 2)).toNat:Nat)<r0.length/\(0<=n1/\n1 <
 (J:Int)/\(0+n1.toNat:Nat)<r0.length)/\(0+n1.toNat:Nat)<r0.length/\kI 64 [.dg 9 (List.getD r0 (0+(IntKind.i64.wrap (Int.fdiv
 (IntKind.u64.wrap (IntKind.i64.wrap (n10+I))) 2)).toNat:Nat) default),.dg 9 (List.getD r0 (0+n1.toNat:Nat) default)] N (λn a=>Br (decide (n <
 0)) (zN E Q N0 O cX J c0 n1 (IntKind.i64.wrap (IntKind.i64.wrap (Int.fdiv (IntKind.u64.wrap (IntKind.i64.wrap (n10+I))) 2) +
 1)) I r0 q0 a) (zN E Q N0 O cX J c0 n1 n10 (IntKind.i64.wrap (Int.fdiv (IntKind.u64.wrap (IntKind.i64.wrap (n10+I))) 2))
 r0 q0 a))) (zl E Q N0 O cX J c0 n10 n1 r0 q0 N)):zN E Q N0 O cX J c0 n1 n10 I r0 q0 N:=
  hE zG h
theorem xB (E:Env) (Q:QT [(Sh.sl 9)]) (N0:Nat) (O cX:Nat) (J c0:Nat) (n2 n14 I:Int) (r0:List D) (q0:Nat) (N:Nat) (h :
Br (decide (n14<I)) ((0:Int)<=(1:Int)/\(0<=n2/\n2<(J:Int)/\(0+n2.toNat:Nat)<r0.length)/\(0+n2.toNat:Nat)<r0.length/\(0 <=
 IntKind.i64.wrap (Int.fdiv (IntKind.u64.wrap (IntKind.i64.wrap (n14+I))) 2)/\IntKind.i64.wrap (Int.fdiv (IntKind.u64.wrap (IntKind.i64.wrap (n14+I)))
 2)<(J:Int)/\(0+(IntKind.i64.wrap (Int.fdiv (IntKind.u64.wrap (IntKind.i64.wrap (n14+I))) 2)).toNat:Nat)<r0.length)/\(0+(IntKind.i64.wrap
 (Int.fdiv (IntKind.u64.wrap (IntKind.i64.wrap (n14+I))) 2)).toNat:Nat)<r0.length/\kI 64 [.dg 9 (List.getD r0 (0+n2.toNat:Nat) default),.dg 9
 (List.getD r0 (0+(IntKind.i64.wrap (Int.fdiv (IntKind.u64.wrap (IntKind.i64.wrap (n14+I))) 2)).toNat:Nat) default)] N (λn a=>Br (!(decide (n <
 0))) (zK E Q N0 O cX J c0 n2 (IntKind.i64.wrap (IntKind.i64.wrap (Int.fdiv (IntKind.u64.wrap (IntKind.i64.wrap (n14+I))) 2)
 + 1)) I r0 q0 a) (zK E Q N0 O cX J c0 n2 n14 (IntKind.i64.wrap (Int.fdiv (IntKind.u64.wrap (IntKind.i64.wrap (n14+I)))
 2)) r0 q0 a))) (zg E Q N0 O cX J c0 n14 n2 r0 q0 N)):zK E Q N0 O cX J c0 n2 n14 I r0 q0 N:=
  hE zG h
theorem xC (E:Env) (Q:QT [(Sh.sl 9)]) (N0:Nat) (nX cX:Nat) (m0 c0:Nat) (n1 n2 n3 ab O I J aa:Int) (r0:List D) (q0:Nat) (N:Nat) (h :
Br (decide (I<J)) ((0:Int)<=(1:Int)/\(0<=IntKind.i64.wrap (aa - IntKind.i64.wrap (Int.fdiv (IntKind.u64.wrap (IntKind.i64.wrap (I+J)))
 2))/\IntKind.i64.wrap (aa - IntKind.i64.wrap (Int.fdiv (IntKind.u64.wrap (IntKind.i64.wrap (I+J))) 2))<(m0:Int)/\(0+(IntKind.i64.wrap (aa -
 IntKind.i64.wrap (Int.fdiv (IntKind.u64.wrap (IntKind.i64.wrap (I+J))) 2))).toNat:Nat)<r0.length)/\(0+(IntKind.i64.wrap (aa - IntKind.i64.wrap
 (Int.fdiv (IntKind.u64.wrap (IntKind.i64.wrap (I+J))) 2))).toNat:Nat)<r0.length/\(0<=IntKind.i64.wrap (Int.fdiv (IntKind.u64.wrap (IntKind.i64.wrap
 (I+J))) 2)/\IntKind.i64.wrap (Int.fdiv (IntKind.u64.wrap (IntKind.i64.wrap (I+J))) 2)<(m0:Int)/\(0+(IntKind.i64.wrap (Int.fdiv
 (IntKind.u64.wrap (IntKind.i64.wrap (I+J))) 2)).toNat:Nat)<r0.length)/\(0+(IntKind.i64.wrap (Int.fdiv (IntKind.u64.wrap (IntKind.i64.wrap (I +
 J))) 2)).toNat:Nat)<r0.length/\kI 64 [.dg 9 (List.getD r0 (0+(IntKind.i64.wrap (aa - IntKind.i64.wrap (Int.fdiv (IntKind.u64.wrap (IntKind.i64.wrap
 (I+J))) 2))).toNat:Nat) default),.dg 9 (List.getD r0 (0+(IntKind.i64.wrap (Int.fdiv (IntKind.u64.wrap (IntKind.i64.wrap (I+J))) 2)).toNat :
 Nat) default)] N (λn a=>Br (!(decide (n<0))) (zF E Q N0 nX cX m0 c0 n1 n2 n3 ab O (IntKind.i64.wrap (IntKind.i64.wrap
 (Int.fdiv (IntKind.u64.wrap (IntKind.i64.wrap (I+J))) 2)+1)) J aa r0 q0 a) (zF E Q N0 nX cX m0 c0 n1 n2 n3 ab O I
 (IntKind.i64.wrap (Int.fdiv (IntKind.u64.wrap (IntKind.i64.wrap (I+J))) 2)) aa r0 q0 a))) (Br (decide (I<n2)) (Br (decide (n2<IntKind.i64.wrap
 (O - I))) (∀ b,N<=b->XCalls prog 177 [.sl 9] [.sb 0 9 0 m0 c0,.j I,.j n2,.j (IntKind.i64.wrap (O - I)),.fn 64 []] [Bx.arr 36 9 r0 q0] b (fun
 _ a _ c=>b<=c->Bel c (D.ag a)->a.length=r0.length->zS E Q N0 nX cX m0 c0 n1 n3 ab I (IntKind.i64.wrap (O -
 I)) a q0 c)) (zS E Q N0 nX cX m0 c0 n1 n3 ab I (IntKind.i64.wrap (O - I)) r0 q0 N)) (zS E
 Q N0 nX cX m0 c0 n1 n3 ab I (IntKind.i64.wrap (O - I)) r0 q0 N))):zF E Q N0 nX cX m0 c0 n1 n2 n3 ab O I J aa r0 q0 N:=
  hE zG h
theorem xM (E:Env) (Q:QT [(Sh.sl 9)]) (N0:Nat) (nX cX:Nat) (m0 c0:Nat) (n10 n13:Int) (r0:List D) (q0:Nat) (N:Nat) (h :
Br (decide (n13<IntKind.i64.wrap (n10 - 1))) ((0<=IntKind.i64.wrap (n13+1)/\IntKind.i64.wrap (n13+1)<(m0:Int)/\(0+(IntKind.i64.wrap (n13 +
 1)).toNat:Nat)<r0.length)/\(0+(IntKind.i64.wrap (n13+1)).toNat:Nat)<r0.length/\(0<=n13/\n13<(m0:Int)/\(0+n13.toNat:Nat)<r0.length) /\
 (0+n13.toNat:Nat)<r0.length/\(0<=n13/\n13<(m0:Int)/\(0+n13.toNat:Nat)<r0.length)/\(0+n13.toNat:Nat)<r0.length/\(0<=IntKind.i64.wrap
 (n13+1)/\IntKind.i64.wrap (n13+1)<(m0:Int)/\(0+(IntKind.i64.wrap (n13+1)).toNat:Nat)<(List.set r0 (0+n13.toNat:Nat) (List.getD r0 (0 +
 (IntKind.i64.wrap (n13+1)).toNat:Nat) default)).length)/\(0+(IntKind.i64.wrap (n13+1)).toNat:Nat)<(List.set r0 (0+n13.toNat:Nat) (List.getD r0
 (0+(IntKind.i64.wrap (n13+1)).toNat:Nat) default)).length/\zl E Q N0 nX cX m0 c0 n10 (IntKind.i64.wrap (n13+1)) (List.set
 (List.set r0 (0+n13.toNat:Nat) (List.getD r0 (0+(IntKind.i64.wrap (n13+1)).toNat:Nat) default)) (0+(IntKind.i64.wrap (n13+1)).toNat:Nat)
 (List.getD r0 (0+n13.toNat:Nat) default)) q0 N) (zGv E/\(r0.length=nX/\q0=cX)/\uP N (Q none r0 cX))):zl E Q N0 nX cX m0 c0 n10 n13 r0 q0 N:=
  hE zG h
theorem xA (E:Env) (Q:QT [(Sh.sl 9)]) (N0:Nat) (nX cX:Nat) (m0 c0:Nat) (n14 n17:Int) (r0:List D) (q0:Nat) (N:Nat) (h :
Br (decide (n17>n14)) ((0<=IntKind.i64.wrap (n17 - 1)/\IntKind.i64.wrap (n17 - 1)<(m0:Int)/\(0+(IntKind.i64.wrap (n17 - 1)).toNat:Nat) <
 r0.length)/\(0+(IntKind.i64.wrap (n17 - 1)).toNat:Nat)<r0.length/\(0<=n17/\n17<(m0:Int)/\(0+n17.toNat:Nat)<r0.length)/\(0+n17.toNat :
 Nat)<r0.length/\(0<=n17/\n17<(m0:Int)/\(0+n17.toNat:Nat)<r0.length)/\(0+n17.toNat:Nat)<r0.length/\(0<=IntKind.i64.wrap (n17 - 1) /\
 IntKind.i64.wrap (n17 - 1)<(m0:Int)/\(0+(IntKind.i64.wrap (n17 - 1)).toNat:Nat)<(List.set r0 (0+n17.toNat:Nat) (List.getD r0 (0 +
 (IntKind.i64.wrap (n17 - 1)).toNat:Nat) default)).length)/\(0+(IntKind.i64.wrap (n17 - 1)).toNat:Nat)<(List.set r0 (0+n17.toNat:Nat) (List.getD r0
 (0+(IntKind.i64.wrap (n17 - 1)).toNat:Nat) default)).length/\zg E Q N0 nX cX m0 c0 n14 (IntKind.i64.wrap (n17 - 1)) (List.set
 (List.set r0 (0+n17.toNat:Nat) (List.getD r0 (0+(IntKind.i64.wrap (n17 - 1)).toNat:Nat) default)) (0+(IntKind.i64.wrap (n17 - 1)).toNat:Nat)
 (List.getD r0 (0+n17.toNat:Nat) default)) q0 N) (zGv E/\(r0.length=nX/\q0=cX)/\uP N (Q none r0 cX))):zg E Q N0 nX cX m0 c0 n14 n17 r0 q0 N:=
  hE zG h
theorem uj (N:Nat) (O c0:Nat) (n1 n2 n3:Int) (I:List D) (J:Nat) (Q:QT [(Sh.sl 9)]) (h:∀ E:Env,
Bel N (D.sl none 9 I J)->zZ E Q N I.length J O c0 n2 (IntKind.i64.wrap (n2 - n1)) (IntKind.i64.wrap (n3 -
 n2)) I J N):XCalls prog 177 [(Sh.sl 9)] [.sb 0 9 0 O c0,.int .i64 n1,.int .i64 n2,.int .i64 n3,.fn 64 []] [.arr 36 9 I J] N Q:=
  xE wU h
theorem uK (E:Env) (Q:QT [(Sh.sl 9)]) (N0:Nat) (nX cX:Nat) (m0 c0:Nat) (n1 n3 n18 n20 n24:Int) (r0:List D) (q0:Nat) (N:Nat) (h :
Br (decide (n1<n20)) (Br (decide (n20<n18)) (∀ b,N<=b->XCalls prog 145 [.sl 9] [.sb 0 9 0 m0 c0,.j n1,.j n20,.j n18,.fn 64 []] [Bx.arr 36 9 r0
 q0] b (fun _ a _ c=>b<=c->Bel c (D.ag a)->a.length=r0.length->zR E Q N0 nX cX m0 c0 n3 n18 n24 a q0 c))
 (zR E Q N0 nX cX m0 c0 n3 n18 n24 r0 q0 N)) (zR E Q N0 nX cX m0 c0 n3 n18 n24 r0 q0 N)):zS E Q N0 nX cX m0 c0 n1 n3 n18 n20 n24 r0 q0 N:=
  hE zG h
theorem uz (E:Env) (Q:QT [(Sh.sl 9)]) (N0:Nat) (nX cX:Nat) (O c0:Nat) (n2 n10 I:Int) (r0:List D) (J:Nat) (N:Nat) (h :
Br (bne n10 I) (Br (decide (n10>I)) (∀ b,N<=b->XCalls prog 208 [.sl 9] [.sb 0 9 0 O c0,.j (IntKind.i64.wrap (n2 - n10)),.j n2,.j I,.fn 64
 []] [Bx.arr 36 9 r0 J] b (λ_ a _ c=>b<=c->Bel c (D.ag a)->a.length=r0.length->zZ E Q N0 nX cX O c0 n2
 (IntKind.i64.wrap (n10 - I)) I a J c)) (∀ a,N<=a->XCalls prog 208 [.sl 9] [.sb 0 9 0 O c0,.j (IntKind.i64.wrap (n2 - n10)),.j (IntKind.i64.wrap
 (IntKind.i64.wrap (n2+I) - n10)),.j n10,.fn 64 []] [Bx.arr 36 9 r0 J] a (λ_ b _ c=>a<=c->Bel c (D.ag b)->b.length=r0.length ->
 zZ E Q N0 nX cX O c0 n2 n10 (IntKind.i64.wrap (I - n10)) b J c))) (∀ a,N<=a->XCalls prog 208 [.sl 9] [.sb 0 9 0 O c0,
 .j (IntKind.i64.wrap (n2 - n10)),.j n2,.j n10,.fn 64 []] [Bx.arr 36 9 r0 J] a (λ_ b _ c=>a<=c->Bel c (D.ag b)->b.length =
 r0.length->zGv E/\(b.length=nX/\J=cX)/\uP c (Q none b cX)))):zZ E Q N0 nX cX O c0 n2 n10 I r0 J N:=
  hE wU h
theorem uJ (E:Env) (Q:QT [(Sh.sl 9)]) (N0:Nat) (nX cX:Nat) (m0 c0:Nat) (n3 n18 n24:Int) (r0:List D) (q0:Nat) (N:Nat) (h :
Br (decide (n18<n24)) (Br (decide (n24<n3)) (∀ b,N<=b->XCalls prog 145 [.sl 9] [.sb 0 9 0 m0 c0,.j n18,.j n24,.j n3,.fn 64 []] [Bx.arr 36 9 r0
 q0] b (fun _ a _ c=>b<=c->Bel c (D.ag a)->a.length=r0.length->zGv E/\(a.length=nX/\q0=cX)/\uP c (Q none a cX))) (zGv E /\
 (r0.length=nX/\q0=cX)/\uP N (Q none r0 cX))) (zGv E/\(r0.length=nX/\q0=cX)/\uP N (Q none r0 cX))):zR E Q N0 nX cX m0 c0 n3 n18 n24 r0 q0 N:=
  hE zG h
theorem vY (N:Nat) (O c0:Nat) (n1 n2 n3:Int) (I:List D) (J:Nat) (Q:QT [(Sh.sl 9)]) (h:∀ E:Env,
Bel N (D.sl none 9 I J)->zf E Q N I.length J O c0 n1 n2 n3 0 I J N):XCalls prog 208 [(Sh.sl 9)] [.sb 0 9 0 O c0,.int .i64 n1,.int .i64 n2,.int .i64 n3,.fn 64 []] [.arr 36 9 I J] N Q:=
 xE xY h
theorem y9 (E:Env) (Q:QT [(Sh.sl 9)]) (N0:Nat) (nX cX:Nat) (m0 c0:Nat) (n1 n2 n3 n10:Int) (r0:List D) (q0:Nat) (N:Nat) (h :
Br (decide (n10<n3)) ((0<=IntKind.i64.wrap (n2+n10)/\IntKind.i64.wrap (n2+n10)<(m0:Int)/\(0+(IntKind.i64.wrap (n2+n10)).toNat:Nat) <
 r0.length)/\(0+(IntKind.i64.wrap (n2+n10)).toNat:Nat)<r0.length/\(0<=IntKind.i64.wrap (n1+n10)/\IntKind.i64.wrap (n1+n10)<(m0:Int)/\(0 +
 (IntKind.i64.wrap (n1+n10)).toNat:Nat)<r0.length)/\(0+(IntKind.i64.wrap (n1+n10)).toNat:Nat)<r0.length/\(0<=IntKind.i64.wrap (n1+n10) /\
 IntKind.i64.wrap (n1+n10)<(m0:Int)/\(0+(IntKind.i64.wrap (n1+n10)).toNat:Nat)<r0.length)/\(0+(IntKind.i64.wrap (n1+n10)).toNat:Nat) <
 r0.length/\(0<=IntKind.i64.wrap (n2+n10)/\IntKind.i64.wrap (n2+n10)<(m0:Int)/\(0+(IntKind.i64.wrap (n2+n10)).toNat:Nat)<(List.set r0 (0 +
 (IntKind.i64.wrap (n1+n10)).toNat:Nat) (List.getD r0 (0+(IntKind.i64.wrap (n2+n10)).toNat:Nat) default)).length)/\(0+(IntKind.i64.wrap (n2 +
 n10)).toNat:Nat)<(List.set r0 (0+(IntKind.i64.wrap (n1+n10)).toNat:Nat) (List.getD r0 (0+(IntKind.i64.wrap (n2+n10)).toNat:Nat) default)).length
 /\ zf E Q N0 nX cX m0 c0 n1 n2 n3 (IntKind.i64.wrap (n10+1)) (List.set (List.set r0 (0+(IntKind.i64.wrap (n1+n10)).toNat :
 Nat) (List.getD r0 (0+(IntKind.i64.wrap (n2+n10)).toNat:Nat) default)) (0+(IntKind.i64.wrap (n2+n10)).toNat:Nat) (List.getD r0 (0 +
 (IntKind.i64.wrap (n1+n10)).toNat:Nat) default)) q0 N) (zGv E/\(r0.length=nX/\q0=cX)/\uP N (Q none r0 cX))):zf E Q N0 nX cX m0 c0 n1 n2 n3 n10 r0 q0 N:=
  hE xY h
end Go.Proofs.YtlahkdflngobiaaGreatDoor
set_option maxRecDepth 100000
namespace Go.Proofs.YtlahkdflngobiaaGreatDoor
open Go Go.Proofs Go.Proofs.Tryz
def pq:Hint:=⟨[hc 3 [0,3,4] [(3,9,0)]],[],[]⟩
def zA7:Hint:=⟨[hc 3 [1,2,7,8]],[],[(1,hs 3 [ec 1 [9]])]⟩
def qo:Hint:=⟨[hc 5 [1,2,3,7,8] [(7,36,9)]],[],[(2,hs 19 [ec 10 [19],ec 17 [24]]),(7,[en 0,en 1,en 2,en 3,en 4,en 5,en 6,en 7,en 8,en 9,ec 10 [47],ec 11 [45],eh 12,eh 13])]⟩
def qW:Hint:=⟨[hc 4 [2,3,5]],[],[(1,hs 51 [ec 31 [34,36],ec 39 [42,44]]),(6,[en 0,en 1,en 2,en 3,en 4,en 5,en 6,en 7,en 8,en 9,ec 10 [68,73],en 11])]⟩
def xQ:Hint:=⟨[hc 7 [5,8,9],hc 12 [5,8,9,10,11,12],hc 19 [5,8,9,13]],[hc 21 [5,8,9,13]],[(2,hs 9 [ec 2 [18]]),(5,[en 0,en 1,en 3,eh 2,ec 4 [25],en 5]),(14,[en 0,en 1,en 2,en 3,en 4,en 5,en 6,en 7,ec 8 [46,50]]),(19,[en 0,en 1,en 2,en 3,en 4,en 5,en 6,en 7,en 8,en 10,en 11,en 12,en 13,ec 9 [72],ec 14 [77],en 15,en 16]),(21,hs 6 [{ i:=4,hard:=true,tr:=true }]),(22,[en 0,en 1,en 3,en 4,en 5,en 6,en 2,en 10,{ i:=7,hard:=true,cl:=[94],fs:=[5,94] },{ i:=8,hard:=true,cl:=[95],fs:=[5,95] },{ i:=9,hard:=true,tr:=true },{ i:=11,hard:=true,tr:=true },eh 12])]⟩
def zGx:Hint:=⟨[],[],[(1,hs 13 [ec 10 [16]]),(3,hs 6 [ec 1 [20]])]⟩
def zLg:Hint:=⟨[],[],[(2,[en 0,en 2,en 3,en 4,eh 1,eh 5,en 6])]⟩
def pQ:Hint:=⟨[hc 5 [0,1,5,7,21,22,23] [(7,36,9)]],[],[(2,hs 4 [{ i:=3,hard:=true,cl:=[13],fs:=[7,13] }]),(3,hs 6 [{ i:=2,hard:=true,cl:=[16],fs:=[7,16] },{ i:=3,hard:=true,cl:=[17],fs:=[7,17] }]),(7,[en 0,en 1,en 2,en 3,en 4,en 6,{ i:=5,hard:=true,cl:=[31],fs:=[7,31] },{ i:=7,hard:=true,cl:=[34],fs:=[7,34] },eh 8,eh 9])]⟩
def vX:Hint:=⟨[hc 4 [1,2,15,16,17]],[],[(7,hs 5 [ec 3 [27,28]])]⟩
def zEX:Hint:=⟨[],[],[(1,hs 48 [ec 31 [33,35],ec 38 [40,42]])]⟩
def vQ:Hint:=⟨[hc 2 [0,1,7,8]],[],[]⟩
def wc (Q:QT [.sl 0]) (N0:Nat) (a0:Option Addr) (e0:List D) (I J O:Nat) (n4:Int) (r0:List D) (q0:Nat) (N:Nat):Prop:=AT prog 37 [.sl 0] Q N0 .ord (zD prog 37 3) ⟨.sv a0 4 e0 I::an 2 (.sb 0 0 0 J O::.int .i64 n4::an 16 []),[.arr 9 0 r0 q0],N,none⟩
def vD (Q:QT [.bool]) (N0:Nat) (a1:Option Addr) (e1:List D) (c1:Nat) (a2:Option Addr) (I:List D) (J:Nat) (O:Option Addr) (e7:List D) (c7:Nat) (n8:Int) (N:Nat):Prop:=AT prog 80 [.bool] Q N0 .ord (zD prog 80 3) ⟨an 1 (.sv a1 0 e1 c1::.sv a2 0 I J::an 4 (.sv O 0 e7 c7::.int .i64 n8::an 24 [])),[],N,none⟩
def zI (Q:QT [.sl 9]) (N0:Nat) (a1:Option Addr) (e1:List D) (c1:Nat) (a2:Option Addr) (I:List D) (J O c7:Nat) (n8:Int) (y0:D) (r1:List D) (q1:Nat) (N:Nat):Prop:=AT prog 70 [.sl 9] Q N0 .ord (zD prog 70 5) ⟨an 1 (.sv a1 0 e1 c1::.sv a2 0 I J::.pb 0 0 0 0::an 3 (.sb 1 9 0 O c7::.int .i64 n8::an 45 [])),[.vd y0 9,.arr 36 9 r1 q1],N,none⟩
def yu (Q:QT [.bool]) (N0:Nat) (I:Int) (J O:D) (N:Nat):Prop:=AT prog 22 [.bool] Q N0 .ord (zD prog 22 4) ⟨an 2 (.pb 0 0 0 0::.pb 1 0 0 0::an 1 (.int .i64 I::an 70 [])),[.vd J 9,.vd O 9],N,none⟩
def zQ (Q:QT [.sl 9]) (N0:Nat) (I J:Nat) (O:Option Addr) (e8:List D) (c8:Nat) (n9:Int) (r0:List D) (q0:Nat) (N:Nat):Prop:=AT prog 25 [.sl 9] Q N0 .ord (zD prog 25 7) ⟨an 5 (.sb 0 9 0 I J::an 2 (.sv O 9 e8 c8::.int .i64 n9::an 91 [])),[.arr 36 9 r0 q0],N,none⟩
def xN (Q:QT [.sl 9]) (N0:Nat) (a0:Option Addr) (e0:List D) (c0:Nat) (a1:Option Addr) (e1:List D) (c1 m7 c7:Nat) (I:Option Addr) (J:List D) (O:Nat) (aa ab:Int) (y0:D) (r1:List D) (q1:Nat) (N:Nat):Prop:=AT prog 59 [.sl 9] Q N0 .ord (zD prog 59 5) ⟨.sv a0 0 e0 c0::.sv a1 0 e1 c1::an 3 (.pb 0 0 0 0::an 1 (.sb 1 9 0 m7 c7::an 13 (.sv I 9 J O::.int .i64 aa::.int .i64 ab::an 15 []))),[.vd y0 9,.arr 36 9 r1 q1],N,none⟩
def yB (Q:QT [.sl 9]) (N0:Nat) (O c5:Nat) (a8:Option Addr) (e8:List D) (c8:Nat) (n9 n10 I J:Int) (r0:List D) (q0:Nat) (N:Nat):Prop:=AT prog 25 [.sl 9] Q N0 .ord (zD prog 25 12) ⟨an 5 (.sb 0 9 0 O c5::an 2 (.sv a8 9 e8 c8::.int .i64 n9::.int .i64 n10::.int .i64 I::.int .i64 J::an 88 [])),[.arr 36 9 r0 q0],N,none⟩
def yN (Q:QT [.bool]) (N0:Nat) (a1:Option Addr) (e1:List D) (c1:Nat) (I:Option Addr) (J:List D) (O:Nat) (aa ab:Int) (N:Nat):Prop:=AT prog 104 [.bool] Q N0 .ord (zD prog 104 4) ⟨an 1 (.sv a1 9 e1 c1::.fn 61 []::an 12 (.sv I 9 J O::.int .i64 aa::.int .i64 ab::an 14 [])),[],N,none⟩
def yc (Q:QT [.sl 9]) (N0:Nat) (J O:Nat) (a8:Option Addr) (e8:List D) (c8:Nat) (n9 I:Int) (r0:List D) (q0:Nat) (N:Nat):Prop:=AT prog 25 [.sl 9] Q N0 .ord (zD prog 25 19) ⟨an 5 (.sb 0 9 0 J O::an 2 (.sv a8 9 e8 c8::.int .i64 n9::an 3 (.int .i64 I::an 87 []))),[.arr 36 9 r0 q0],N,none⟩
def yI (Q:QT [.int .i64]) (N0:Nat) (a0:Option Addr) (e0:List D) (c0:Nat) (O:Addr) (I:D) (aa:Addr) (J:D) (n7 n8:Int) (N:Nat):Prop:=AT prog 162 [.int .i64] Q N0 .ord (zD prog 162 2) ⟨.sv a0 0 e0 c0::.fn 125 [.pd O 0 I,.pd aa 0 J]::an 5 (.int .i64 n7::.int .i64 n8::an 10 []),[],N,none⟩
def xD (Q:QT [.sl 9]) (N0:Nat) (J O:Nat) (a8:Option Addr) (e8:List D) (c8:Nat) (n9 I:Int) (r0:List D) (q0:Nat) (N:Nat):Prop:=AT prog 25 [.sl 9] Q N0 .ord (qI prog 25 21) ⟨an 5 (.sb 0 9 0 J O::an 2 (.sv a8 9 e8 c8::.int .i64 n9::an 3 (.int .i64 I::an 87 []))),[.arr 36 9 r0 q0],N,none⟩
theorem zFB (N:Nat) (a0:Option Addr) (e0:List D) (I:Nat) (Q:QT [.sl 0]) (h :
Bel N (D.sl a0 4 e0 I)->wc Q N a0 e0 I 0 0 0 [] 0 N):ACalls prog 37 [.sl 0] [PV.sv a0 4 e0 I] N Q:=
 eE pq h
theorem zGj (N:Nat) (I:D) (a1:Option Addr) (e1:List D) (c1:Nat) (a2:Option Addr) (J:List D) (O:Nat) (Q:QT [.bool]) (h :
Bel N I->Bel N (D.sl a1 0 e1 c1)->Bel N (D.sl a2 0 J O)->kL 0 81 [.dg 9 I] N (λa b c d=>vD Q N a1 e1 c1 a2 J O a b c 0 d)):ACalls prog 80 [.bool] [PV.dg 9 I,PV.sv a1 0 e1 c1,PV.sv a2 0 J O] N Q:=
 eE zA7 h
theorem zFx (N:Nat) (O:D) (n1:Int) (a2:Option Addr) (I:List D) (J:Nat) (Q:QT [.sl 0]) (h :
Bel N O->Bel N (D.sl a2 0 I J)->∃ n:Int,(O.cell 0)=D.j n/\Br (n==8) (Br (n1==1) (∃ s,(O.cell 1)=D.t s/\(1=([D.t s]).length/\1=1)
 /\ ∀ a,ApA a [D.t s]->Off [a] (D.sl a2 0 I J)->∀ b,N<=b->wa b [a]->ACalls prog 36 [.row 9 0] [.sv a2 0 I J,.sv a 0 [D.t s] 1] b (λc d e=>
 b<=e->Off [a] (D.ag c)/\(Bel e (D.ag c)->w2 (c.length=c.length/\d=d) (∀ a b,e<=b->Fresh N b a [D.ag c]->uP b (Q a c d))))) (uP
 N (Q a2 I J))) (uP N (Q a2 I J))):ACalls prog 83 [.sl 0] [PV.dg 9 O,PV.int .i64 n1,PV.sv a2 0 I J] N Q:=
  eE H0 h
theorem zGR (N:Nat) (I:D) (a1:Option Addr) (e1:List D) (c1:Nat) (a2:Option Addr) (J:List D) (O:Nat) (Q:QT [.sl 9]) (h :
Bel N I->Bel N (D.sl a1 0 e1 c1)->Bel N (D.sl a2 0 J O)->∃ n:Int,(I.cell 0)=D.j n/\Br (n==4) (∀ a,N<=a->ACalls prog 29 [.i] [.dg 9 I]
 a (λd e=>a<=e->Br (decide (d≥3)) (kB 80 [.dg 9 I,.sv a1 0 e1 c1,.sv a2 0 J O] e (λb a=>Br b ((0=0/\0=0)/\zB [] [I] 136
 /\ ∀ (c:Nat),zI Q N a1 e1 c1 a2 J O ([]++[I]).length c 0 I ([]++[I]) c a) (zI Q N a1 e1 c1 a2 J O 0 0 0 I [] 0
 a))) (zI Q N a1 e1 c1 a2 J O 0 0 0 I [] 0 e))) (∃ a:Int,(I.cell 0)=D.j a/\Br (a==5) (∀ a,N<=a->ACalls prog 29 [.i] [.dg
 9 I] a (λb c=>a<=c->Br (decide (b≥3)) (kB 80 [.dg 9 I,.sv a1 0 e1 c1,.sv a2 0 J O] c (λa b=>Br a ((0=0/\0=0)/\zB []
 [I] 136/\∀ (a:Nat),zI Q N a1 e1 c1 a2 J O ([]++[I]).length a 0 I ([]++[I]) a b) (zI Q N a1 e1 c1 a2 J O 0 0
 0 I [] 0 b))) (zI Q N a1 e1 c1 a2 J O 0 0 0 I [] 0 c))) (zI Q N a1 e1 c1 a2 J O 0 0 0 I [] 0 N))):ACalls prog 70 [.sl 9] [PV.dg 9 I,PV.sv a1 0 e1 c1,PV.sv a2 0 J O] N Q:=
  eE qo h
theorem zEe (N:Nat) (I J:D) (Q:QT [.bool]) (h :
Bel N I->Bel N J->∃ n:Int,(I.cell 0)=D.j n/\∃ d:Int,(J.cell 0)=D.j d/\Br (bne n d) (uP N (Q false)) (∃ s,(I.cell 1)=D.t s/\∃
 d,(J.cell 1)=D.t d/\Br (!(ByteArray.toList s==ByteArray.toList d)) (uP N (Q false)) (∃ d,(I.cell 2)=D.t d/\∃ e,(J.cell 2)=D.t e /\
 Br (!(ByteArray.toList d==ByteArray.toList e)) (uP N (Q false)) (∃ d:Int,(I.cell 3)=D.j d/\∃ e:Int,(J.cell 3)=D.j e/\Br (bne d
 e) (uP N (Q false)) (kB 68 [.dg 2 (D.sub I 4 2),.dg 2 (D.sub J 4 2)] N (λb d=>Br (!b) (uP d (Q false)) (kB 68 [.dg 2 (D.sub I 6 2),.dg 2 (D.sub J
 6 2)] d (λb d=>Br (!b) (uP d (Q false)) (∃ a b,∃ c:Nat,(I.cell 8)=D.sl a 9 b c/\∃ a c,∃ e:Nat,(J.cell 8)=D.sl a 9 c e
 /\ Br (bne (b.length:Int) (c.length:Int)) (uP d (Q false)) (yu Q N 0 I J d)))))))))):ACalls prog 22 [.bool] [PV.dg 9 I,PV.dg 9 J] N Q:=
  eE qW h
theorem zKC (N:Nat) (n0 n1:Int) (Q:QT [.int .i64]) (h :
Br (decide (n0<n1)) (uP N (Q n0)) (uP N (Q n1))):ACalls prog 71 [.int .i64] [PV.int .i64 n0,PV.int .i64 n1] N Q:=
 eE H0 h
theorem zDU (N:Nat) (a0:Option Addr) (e0:List D) (J:Nat) (I:D) (Q:QT [.sl 9]) (h :
Bel N (D.sl a0 4 e0 J)->Bel N I->kAB 2 69 [.sv a0 4 e0 J,.dg 9 I] N (λ_ b d=>Br (!b) (w4 (0=0/\0=0) (∀ a b,d<=b->Fresh N b a [D.ag
 []]->uP b (Q a [] 0))) (kL 0 37 [.sv a0 4 e0 J] d (λa b c d=>(0=0/\0=0)/\∀ e,ApA e []->Off [e] I->Off [e] (D.sl a 0 b c)->∀
 f,d<=f->wa f [e]->ACalls prog 70 [.sl 9] [.dg 9 I,.sv a 0 b c,.sv e 0 [] 0] f (λa b c d=>f<=d->Off [e] (D.sl a 9 b
 c)/\(Bel d (D.sl a 9 b c)->zQ Q N 0 0 a b c 0 [] 0 d)))))):ACalls prog 25 [.sl 9] [PV.sv a0 4 e0 J,PV.dg 9 I] N Q:=
  eE xQ h
theorem zG6 (N:Nat) (a0:Option Addr) (e0:List D) (J:Nat) (a1:Option Addr) (e1:List D) (c1:Nat) (I:D) (Q:QT [.bool]) (h :
Bel N (D.sl a0 0 e0 J)->Bel N (D.sl a1 0 e1 c1)->Bel N I->∃ n:Int,(I.cell 0)=D.j n/\Br (bne n 4) (∃ d:Int,(I.cell 0)=D.j d/\Br (bne
 d 5) (uP N (Q false)) (∀ d,N<=d->ACalls prog 65 [.i] [.dg 9 I] d (λe f=>d<=f->Br (decide (e<3)) (uP f (Q false)) (∀ d,f<=d ->
 ACalls prog 124 [.row 9 0] [.dg 9 I] d (λc e f=>d<=f->Bel f (D.ag c)->(c.length=c.length/\e=e)/\∀ a,ApA a c->∀ d,ApA (Option.some
 d) [D.sl a0 0 e0 J]->∀ g,ApA (Option.some g) [D.sl a1 0 e1 c1]->∀ h,f<=h->wa h [a,Option.some d,Option.some g]->ACalls prog 123
 [.bool] [.sv a 0 c e,.fn 125 [.pd d 0 (D.sl a0 0 e0 J),.pd g 0 (D.sl a1 0 e1 c1)]] h (λb a=>h<=a->uP a (Q (!b)))))))) (∀ a,N<=a ->
 ACalls prog 65 [.i] [.dg 9 I] a (λb c=>a<=c->Br (decide (b<3)) (uP c (Q false)) (∀ a,c<=a->ACalls prog 124 [.row 9 0] [.dg 9
 I] a (λb c d=>a<=d->Bel d (D.ag b)->(b.length=b.length/\c=c)/\∀ a,ApA a b->∀ e,ApA (Option.some e)
 [D.sl a0 0 e0 J]->∀ f,ApA (Option.some f) [D.sl a1 0 e1 c1]->∀ g,d<=g->wa g [a,Option.some e,Option.some f]->ACalls prog 123
 [.bool] [.sv a 0 b c,.fn 125 [.pd e 0 (D.sl a0 0 e0 J),.pd f 0 (D.sl a1 0 e1 c1)]] g (λa b=>g<=b->uP b (Q (!a)))))))):ACalls prog 88 [.bool] [PV.sv a0 0 e0 J,PV.sv a1 0 e1 c1,PV.dg 9 I] N Q:=
  eE zGx h
theorem zKq (N:Nat) (a0:Option Addr) (e0:List D) (I:Nat) (J:D) (n2:Int) (Q:QT [.sl 0]) (h :
Bel N (D.sl a0 0 e0 I)->Bel N J->∃ n:Int,(J.cell 0)=D.j n/\Br (n==8) (Br (n2==1) (∃ s,(J.cell 1)=D.t s/\∀ b,N<=b->ACalls prog 126
 [.row 9 0] [.sv a0 0 e0 I] b (λc d e=>b<=e->Bel e (D.ag c)->(c.length=c.length/\d=d)/\zB c [D.t s] 16/\∀ (b:Nat),w2 ((c ++
 [D.t s]).length=(c++[D.t s]).length/\b=b) (∀ a d,e<=d->Fresh N d a [D.ag (c++[D.t s])]->uP d (Q a (c++[D.t s]) b)))) (uP N (Q a0 e0
 I))) (uP N (Q a0 e0 I))):ACalls prog 90 [.sl 0] [PV.sv a0 0 e0 I,PV.dg 9 J,PV.int .i64 n2] N Q:=
  eE zLg h
theorem zFv (N:Nat) (a0:Option Addr) (e0:List D) (J:Nat) (a1:Option Addr) (e1:List D) (c1:Nat) (I:D) (Q:QT [.sl 9]) (h :
Bel N (D.sl a0 0 e0 J)->Bel N (D.sl a1 0 e1 c1)->Bel N I->kB 88 [.sv a0 0 e0 J,.sv a1 0 e1 c1,.dg 9 I] N (λb d=>Br b (∀ b,d<=b->ACalls
 prog 43 [.pk,.i,.str,.str,.i,.dc,.dc,.dc,.dc,.row 36 9] [.dg 9 I] b (λn s c d x e f g h i j=>b<=j->Bel j (D.ag h)->(h.length
 = h.length/\i=i)/\∀ a b,j<=b->Fresh N b a [D.ag h,x,e,f,g,D.ag []]->(0=0/\0=0)/\zB [] [D.ag [D.j n,D.t s,D.t c,D.j d,
 x,e,f,g,D.sl a 9 h i]] 136/\∀ (j:Nat),∃ k l,∃ m:Nat,(I.cell 8)=D.sl k 9 l m/\xN Q N a0 e0 J a1 e1 c1 ([]
 ++ [D.ag [D.j n,D.t s,D.t c,D.j d,x,e,f,g,D.sl a 9 h i]]).length j k l m (l.length:Int) 0 I ([]++[D.ag [D.j n,D.t s,D.t
 c,D.j d,x,e,f,g,D.sl a 9 h i]]) j b)) (∃ a b,∃ c:Nat,(I.cell 8)=D.sl a 9 b c/\xN Q N a0 e0 J a1 e1 c1
 0 0 a b c (b.length:Int) 0 I [] 0 d))):ACalls prog 59 [.sl 9] [PV.sv a0 0 e0 J,PV.sv a1 0 e1 c1,PV.dg 9 I] N Q:=
  eE pQ h
theorem zEb (N:Nat) (I J:D) (Q:QT [.bool]) (h :
Bel N I->Bel N J->∃ n:Int,(I.cell 0)=D.j n/\∃ d:Int,(J.cell 0)=D.j d/\Br (n==d) (∃ s,(I.cell 1)=D.t s/\∃ d,(J.cell 1) =
 D.t d/\Br (ByteArray.toList s==ByteArray.toList d) (∃ d,(I.cell 2)=D.t d/\∃ e,(J.cell 2)=D.t e/\Br (ByteArray.toList d ==
 ByteArray.toList e) (∃ d:Int,(I.cell 3)=D.j d/\∃ e:Int,(J.cell 3)=D.j e/\Br (d==e) (kB 103 [.dg 2 (D.sub I 4 2),.dg 2 (D.sub J
 4 2)] N (λb d=>Br b (kB 103 [.dg 2 (D.sub I 6 2),.dg 2 (D.sub J 6 2)] d (λb d=>Br b (∃ a b,∃ c:Nat,(I.cell 8)=D.sl a 9 b c/\∃ e
 f,∃ g:Nat,(J.cell 8)=D.sl e 9 f g/\kB 104 [.sv a 9 b c,.sv e 9 f g,.fn 61 []] d (λa b=>uP b (Q a))) (uP d (Q
 false)))) (uP d (Q false)))) (uP N (Q false))) (uP N (Q false))) (uP N (Q false))) (uP N (Q false))):ACalls prog 61 [.bool] [PV.dg 9 I,PV.dg 9 J] N Q:=
  eE zEX h
theorem zBR (N:Nat) (a0:Option Addr) (e0:List D) (I:Nat) (Q:QT [.row 9 0]) (h :
Bel N (D.sl a0 0 e0 I)->Br (Option.isNone a0) (uP N (Q [] 0)) ((0=0/\0=0)/\zB [] e0 16/\∀ (c:Nat),(([]++e0).length=([]++e0).length /\
 c=c)/\uP N (Q ([]++e0) c))):ACalls prog 126 [.row 9 0] [PV.sv a0 0 e0 I] N Q:=
  eE H0 h
theorem s9 (Q:QT [.sl 0]) (N0:Nat) (a0:Option Addr) (e0:List D) (c0 O c3:Nat) (I:Int) (r0:List D) (J:Nat) (N:Nat) (h :
Br (decide (I<(e0.length:Int))) ((0<=I/\I<(e0.length:Int))/\∃ s,(if 0=0 then D.cell (List.getD e0 I.toNat default) 0 else D.sub
 (List.getD e0 I.toNat default) 0 0)=D.t s/\(O=r0.length/\c3=J)/\zB r0 [D.t s] 16/\∀ (c:Nat),wc Q N0 a0 e0 c0 (r0++[D.t
 s]).length c (IntKind.i64.wrap (I+1)) (r0++[D.t s]) c N) (w3 (O=r0.length/\c3=J) (∀ a b,N<=b->Fresh N0 b a [D.ag r0]->uP b (Q a r0 J)))):wc Q N0 a0 e0 c0 O c3 I r0 J N:=
  hE pq h
theorem qH (Q:QT [.bool]) (N0:Nat) (a1:Option Addr) (e1:List D) (c1:Nat) (a2:Option Addr) (e2:List D) (c2:Nat) (a7:Option Addr) (e7:List D) (c7:Nat) (n8:Int) (N:Nat) (h :
Br (decide (n8<(e7.length:Int))) ((0<=n8/\n8<(e7.length:Int))/\∃ s,List.getD e7 n8.toNat default=D.t s/\∀ a,N<=a->ACalls prog 78 [.i]
 [.sv a2 0 e2 c2,.str s] a (fun n b=>a<=b->Br (decide (n≥0)) (uP b (Q false)) ((0<=n8/\n8<(e7.length:Int))/\∃ a,List.getD e7 n8.toNat
 default=D.t a/\∀ c,b<=c->ACalls prog 78 [.i] [.sv a1 0 e1 c1,.str a] c (fun a b=>c<=b->Br (decide (a<0)) (uP b (Q false))
 (vD Q N0 a1 e1 c1 a2 e2 c2 a7 e7 c7 (IntKind.i64.wrap (n8+1)) b))))) (uP N (Q true))):vD Q N0 a1 e1 c1 a2 e2 c2 a7 e7 c7 n8 N:=
  hE zA7 h
theorem s5 (Q:QT [.sl 9]) (N0:Nat) (a1:Option Addr) (e1:List D) (c1:Nat) (a2:Option Addr) (e2:List D) (c2 m7 c7:Nat) (I:Int) (J:D) (r1:List D) (O:Nat) (N:Nat) (h :
∃ a b,∃ c:Nat,(J.cell 8)=D.sl a 9 b c/\Br (decide (I<(b.length:Int))) (∃ a b,∃ c:Nat,(J.cell 8)=D.sl a 9 b c/\(0<=I
 /\ I<(b.length:Int))/\kL 0 83 [.dg 9 J,.j I,.sv a2 0 e2 c2] N (λa c d e=>kL 9 70 [.dg 9 (List.getD b I.toNat default),.sv a1 0 e1
 c1,.sv a 0 c d] e (λ_ a _ b=>(m7=r1.length/\c7=O)/\zB r1 a 136/\∀ (c:Nat),zI Q N0 a1 e1 c1 a2 e2 c2
 (r1++a).length c (IntKind.i64.wrap (I+1)) J (r1++a) c b))) (w3 (m7=r1.length/\c7=O) (∀ a b,N<=b->Fresh N0 b a [D.ag r1]->uP
 b (Q a r1 O)))):zI Q N0 a1 e1 c1 a2 e2 c2 m7 c7 I J r1 O N:=
  hE qo h
theorem sX (Q:QT [.bool]) (N0:Nat) (I:Int) (J O:D) (N:Nat) (h :
∃ a d,∃ c:Nat,(J.cell 8)=D.sl a 9 d c/\Br (decide (I<(d.length:Int))) (∃ a c,∃ d:Nat,(J.cell 8)=D.sl a 9 c d/\(0<=I
 /\ I<(c.length:Int))/\∃ a d,∃ e:Nat,(O.cell 8)=D.sl a 9 d e/\(0<=I/\I<(d.length:Int))/\kB 22 [.dg 9 (List.getD c
 I.toNat default),.dg 9 (List.getD d I.toNat default)] N (λb a=>Br (!b) (uP a (Q false)) (yu Q N0 (IntKind.i64.wrap (I+1)) J O
 a))) (uP N (Q true))):yu Q N0 I J O N:=
  hE qW h
theorem tn (Q:QT [.sl 9]) (N0:Nat) (O c5:Nat) (a8:Option Addr) (e8:List D) (c8:Nat) (I:Int) (r0:List D) (J:Nat) (N:Nat) (h :
Br (decide (I<(e8.length:Int))) (yB Q N0 O c5 a8 e8 c8 I 0 I 0 r0 J N) (w3 (O=r0.length/\c5=J) (∀ a b,N<=b->Fresh N0
 b a [D.ag r0]->uP b (Q a r0 J)))):zQ Q N0 O c5 a8 e8 c8 I r0 J N:=
  hE xQ h
theorem uy (N:Nat) (a0:Option Addr) (e0:List D) (c0:Nat) (O:Addr) (I:D) (aa:Addr) (J:D) (Q:QT [.bool]) (h :
Bel N (D.sl a0 0 e0 c0)->kI 162 [.sv a0 0 e0 c0,.fn 125 [.pd O 0 I,.pd aa 0 J]] N (λn a=>uP a (Q (decide (n≥0))))):ACalls prog 123 [.bool] [.sv a0 0 e0 c0,.fn 125 [.pd O 0 I,.pd aa 0 J]] N Q:=
 eE H0 h
theorem rP (Q:QT [.sl 9]) (N0:Nat) (a0:Option Addr) (e0:List D) (c0:Nat) (a1:Option Addr) (e1:List D) (c1 m7 c7:Nat) (aa:Option Addr) (J:List D) (ab:Nat) (O I:Int) (y0:D) (r1:List D) (q1:Nat) (N:Nat) (h :
Br (decide (I<O)) ((0<=I/\I<(J.length:Int))/\kL 0 90 [.sv a1 0 e1 c1,.dg 9 y0,.j I] N (λa b c d=>kL 9 59 [.sv a0 0 e0 c0,.sv
 a 0 b c,.dg 9 (List.getD J I.toNat default)] d (λ_ a _ b=>(m7=r1.length/\c7=q1)/\zB r1 a 136/\∀ (c:Nat),
 xN Q N0 a0 e0 c0 a1 e1 c1 (r1++a).length c aa J ab O (IntKind.i64.wrap (I+1)) y0 (r1++a) c b))) (w3 (m7=r1.length/\c7
 = q1) (∀ a b,N<=b->Fresh N0 b a [D.ag r1]->uP b (Q a r1 q1)))):xN Q N0 a0 e0 c0 a1 e1 c1 m7 c7 aa J ab O I y0 r1 q1 N:=
  hE pQ h
theorem t8 (N:Nat) (a0:Option Addr) (e0:List D) (I:Nat) (a1:Option Addr) (e1:List D) (c1:Nat) (Q:QT [.bool]) (h :
Bel N (D.sl a0 9 e0 I)->Bel N (D.sl a1 9 e1 c1)->Br (bne (e0.length:Int) (e1.length:Int)) (uP N (Q false)) (yN Q N a1 e1 c1
 a0 e0 I (e0.length:Int) 0 N)):ACalls prog 104 [.bool] [.sv a0 9 e0 I,.sv a1 9 e1 c1,.fn 61 []] N Q:=
  eE vX h
theorem tB (Q:QT [.sl 9]) (N0:Nat) (m5 c5:Nat) (a8:Option Addr) (J:List D) (c8:Nat) (O n10 aa I:Int) (r0:List D) (q0:Nat) (N:Nat) (h :
Br (decide (I<(J.length:Int))) ((0<=I/\I<(J.length:Int))/\(0<=O/\O<(J.length:Int))/\kB 22 [.dg 9 (List.getD J I.toNat
 default),.dg 9 (List.getD J O.toNat default)] N (λb a=>Br b (kI 71 [.j aa,.j I] a (λn a=>yB Q N0 m5 c5 a8 J c8 O
 (IntKind.i64.wrap (n10+1)) n (IntKind.i64.wrap (I+1)) r0 q0 a)) (yB Q N0 m5 c5 a8 J c8 O n10 aa (IntKind.i64.wrap (I+1)) r0 q0
 a))) (Br (decide (n10<2)) (zQ Q N0 m5 c5 a8 J c8 (IntKind.i64.wrap (O+1)) r0 q0 N) (Br (bne aa O) (zQ Q N0 m5 c5 a8
 J c8 (IntKind.i64.wrap (O+1)) r0 q0 N) (yc Q N0 m5 c5 a8 J c8 O 0 r0 q0 N)))):yB Q N0 m5 c5 a8 J c8 O n10 aa I r0 q0 N:=
  hE xQ h
theorem tj (N:Nat) (a0:Option Addr) (e0:List D) (c0:Nat) (O:Addr) (I:D) (aa:Addr) (J:D) (Q:QT [.int .i64]) (h :
Bel N (D.sl a0 0 e0 c0)->yI Q N a0 e0 c0 O I aa J (e0.length:Int) 0 N):ACalls prog 162 [.int .i64] [.sv a0 0 e0 c0,.fn 125 [.pd O 0 I,.pd aa 0 J]] N Q:=
 eE vQ h
theorem wt (Q:QT [.bool]) (N0:Nat) (a1:Option Addr) (e1:List D) (c1:Nat) (aa:Option Addr) (J:List D) (ab:Nat) (O I:Int) (N:Nat) (h :
Br (decide (I<O)) ((0<=I/\I<(J.length:Int))/\(0<=I/\I<(e1.length:Int))/\kB 61 [.dg 9 (List.getD J I.toNat default),.dg 9
 (List.getD e1 I.toNat default)] N (λb a=>Br (!b) (uP a (Q false)) (yN Q N0 a1 e1 c1 aa J ab O (IntKind.i64.wrap (I+1))
 a))) (uP N (Q true))):yN Q N0 a1 e1 c1 aa J ab O I N:=
  hE vX h
theorem u5 (Q:QT [.sl 9]) (N0:Nat) (m5 c5:Nat) (a8:Option Addr) (e8:List D) (c8:Nat) (n9 n13:Int) (r0:List D) (q0:Nat) (N:Nat) (h :
Br (decide (n13<(m5:Int))) ((0<=n13/\n13<(m5:Int)/\(0+n13.toNat:Nat)<r0.length)/\(0+n13.toNat:Nat)<r0.length/\(0<=n9/\n9 <
 (e8.length:Int))/\∀ a,N<=a->ACalls prog 29 [.i] [.dg 9 (List.getD r0 (0+n13.toNat:Nat) default)] a (fun n b=>a<=b->∀ a,b<=a->ACalls
 prog 29 [.i] [.dg 9 (List.getD e8 n9.toNat default)] a (fun b c=>a<=c->Br (decide (n≥b)) (yc Q N0 m5 c5 a8 e8 c8 n9
 (IntKind.i64.wrap (n13+1)) r0 q0 c) (xD Q N0 m5 c5 a8 e8 c8 n9 n13 r0 q0 c)))) (xD Q N0 m5 c5 a8 e8 c8 n9 n13 r0 q0 N)):yc Q N0 m5 c5 a8 e8 c8 n9 n13 r0 q0 N:=
  hE xQ h
theorem wj (Q:QT [.int .i64]) (N0:Nat) (a0:Option Addr) (e0:List D) (c0:Nat) (O:Addr) (I:D) (aa:Addr) (J:D) (n7 n8:Int) (N:Nat) (h :
Br (decide (n8<n7)) ((0<=n8/\n8<(e0.length:Int))/\∃ s,List.getD e0 n8.toNat default=D.t s/\kB 125 [.str s,.pd O 0 I,.pd aa 0 J]
 N (λb a=>Br b (uP a (Q n8)) (yI Q N0 a0 e0 c0 O I aa J n7 (IntKind.i64.wrap (n8+1)) a))) (uP N (Q (-1)))):yI Q N0 a0 e0 c0 O I aa J n7 n8 N:=
  hE vQ h
theorem zAc (Q:QT [.sl 9]) (N0:Nat) (m5 c5:Nat) (a8:Option Addr) (e8:List D) (c8:Nat) (n9 n13:Int) (r0:List D) (q0:Nat) (N:Nat) (h :
(0<=n13/\n13<=(m5:Int)/\(m5:Int)<=(c5:Int)/\True)/\0<=0/\((0+loN 9 c5 n13:Nat)+(((m5:Int)).toNat - n13.toNat:Nat):Nat) <=
 r0.length/\(0=0/\0=0)/\zB (List.take 0 []) (List.take (((m5:Int)).toNat - n13.toNat:Nat) (List.drop (0+loN 9 c5 n13:Nat) r0)) 136/\∀ (c :
 Nat),(List.take 0 []++List.take (((m5:Int)).toNat - n13.toNat:Nat) (List.drop (0+loN 9 c5 n13:Nat) r0)).length<=c->(0<=n9/\n9<(e8.length :
 Int))/\(0<=n13/\n13<=(c5:Int))/\∀ b,N<=b->ACalls prog 34 [.pk,.i,.str,.str,.i,.dc,.dc,.dc,.dc,.row 36 9] [.dg 9 (List.getD e8 n9.toNat
 default)] b (fun n s c d x e f g h i j=>b<=j->Bel j (D.ag h)->(h.length=h.length/\i=i)/\∀ a b,j<=b->Fresh N0 b a
 [D.ag h,x,e,f,g,D.ag r0]->n13.toNat<=r0.length/\1<=([D.ag [D.j n,D.t s,D.t c,D.j d,x,e,f,g,D.sl a 9 h i]]).length /\
 (n13.toNat=(List.take n13.toNat r0).length/\c5=q0)/\zB (List.take n13.toNat r0) (List.take 1 (List.drop 0 [D.ag [D.j n,D.t s,D.t c,D.j d,x,
 e,f,g,D.sl a 9 h i]])) 136/\∀ (j:Nat),(List.take n13.toNat r0++List.take 1 (List.drop 0 [D.ag [D.j n,D.t s,D.t c,D.j d,x,e,f,
 g,D.sl a 9 h i]])).length<=j->(List.take n13.toNat r0++List.take 1 (List.drop 0 [D.ag [D.j n,D.t s,D.t c,D.j d,x,e,f,g,D.sl a 9 h
 i]])).length<=(List.take n13.toNat r0++List.take 1 (List.drop 0 [D.ag [D.j n,D.t s,D.t c,D.j d,x,e,f,g,D.sl a 9 h i]])).length/\(0 +
 (List.take 0 []++List.take (((m5:Int)).toNat - n13.toNat:Nat) (List.drop (0+loN 9 c5 n13:Nat) r0)).length:Nat)<=(List.take 0 []++List.take (((m5
 : Int)).toNat - n13.toNat:Nat) (List.drop (0+loN 9 c5 n13:Nat) r0)).length/\((List.take n13.toNat r0++List.take 1 (List.drop 0 [D.ag [D.j n,D.t s,D.t
 c,D.j d,x,e,f,g,D.sl a 9 h i]])).length=(List.take (List.take n13.toNat r0++List.take 1 (List.drop 0 [D.ag [D.j n,D.t s,D.t c,D.j
 d,x,e,f,g,D.sl a 9 h i]])).length (List.take n13.toNat r0++List.take 1 (List.drop 0 [D.ag [D.j n,D.t s,D.t c,D.j d,x,e,f,g,
 D.sl a 9 h i]]))).length/\j=j)/\zB (List.take (List.take n13.toNat r0++List.take 1 (List.drop 0 [D.ag [D.j n,D.t s,D.t c,D.j d,x,e,
 f,g,D.sl a 9 h i]])).length (List.take n13.toNat r0++List.take 1 (List.drop 0 [D.ag [D.j n,D.t s,D.t c,D.j d,x,e,f,g,D.sl a 9 h
 i]]))) (List.take (List.take 0 []++List.take (((m5:Int)).toNat - n13.toNat:Nat) (List.drop (0+loN 9 c5 n13:Nat) r0)).length (List.drop 0 (List.take
 0 []++List.take (((m5:Int)).toNat - n13.toNat:Nat) (List.drop (0+loN 9 c5 n13:Nat) r0)))) 136/\∀ (j:Nat),(List.take (List.take n13.toNat r0 ++
 List.take 1 (List.drop 0 [D.ag [D.j n,D.t s,D.t c,D.j d,x,e,f,g,D.sl a 9 h i]])).length (List.take n13.toNat r0++List.take 1 (List.drop 0
 [D.ag [D.j n,D.t s,D.t c,D.j d,x,e,f,g,D.sl a 9 h i]]))++List.take (List.take 0 []++List.take (((m5:Int)).toNat - n13.toNat:Nat)
 (List.drop (0+loN 9 c5 n13:Nat) r0)).length (List.drop 0 (List.take 0 []++List.take (((m5:Int)).toNat - n13.toNat:Nat) (List.drop (0+loN 9 c5 n13 :
 Nat) r0)))).length<=j->zQ Q N0 (List.take (List.take n13.toNat r0++List.take 1 (List.drop 0 [D.ag [D.j n,D.t s,D.t c,D.j d,x,
 e,f,g,D.sl a 9 h i]])).length (List.take n13.toNat r0++List.take 1 (List.drop 0 [D.ag [D.j n,D.t s,D.t c,D.j d,x,e,f,g,D.sl a 9
 h i]]))++List.take (List.take 0 []++List.take (((m5:Int)).toNat - n13.toNat:Nat) (List.drop (0+loN 9 c5 n13:Nat) r0)).length (List.drop 0
 (List.take 0 []++List.take (((m5:Int)).toNat - n13.toNat:Nat) (List.drop (0+loN 9 c5 n13:Nat) r0)))).length j a8 e8 c8 (IntKind.i64.wrap (n9+1))
 (List.take (List.take n13.toNat r0++List.take 1 (List.drop 0 [D.ag [D.j n,D.t s,D.t c,D.j d,x,e,f,g,D.sl a 9 h i]])).length (List.take
 n13.toNat r0++List.take 1 (List.drop 0 [D.ag [D.j n,D.t s,D.t c,D.j d,x,e,f,g,D.sl a 9 h i]]))++List.take (List.take 0 []++List.take
 (((m5:Int)).toNat - n13.toNat:Nat) (List.drop (0+loN 9 c5 n13:Nat) r0)).length (List.drop 0 (List.take 0 []++List.take (((m5:Int)).toNat - n13.toNat
 : Nat) (List.drop (0+loN 9 c5 n13:Nat) r0)))) j b) ):xD Q N0 m5 c5 a8 e8 c8 n9 n13 r0 q0 N:=
  hE xQ h
theorem zBV (N:Nat) (s0:ByteArray) (a1:Addr) (I:D) (a2:Addr) (J:D) (Q:QT [.bool]) (h :
∃ a d,∃ c:Nat,I=D.sl a 0 d c/\kB 117 [.sv a 0 d c,.str s0] N (λb a=>Br (!b) (uP a (Q true)) (∃ b c,∃ d:Nat,J=D.sl b 0
 c d/\kB 117 [.sv b 0 c d,.str s0] a (λa b=>uP b (Q a))))):ACalls prog 125 [.bool] [.str s0,.pd a1 0 I,.pd a2 0 J] N Q:=
  eE H0 h
end Go.Proofs.YtlahkdflngobiaaGreatDoor
