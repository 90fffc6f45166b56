/- Printed by gen.py: what the functions come to. -/
import Derived.Test.YtkdjhkfiolhkiaaGreatJh
set_option linter.unusedVariables false
set_option maxRecDepth 100000
namespace Go.Proofs.YtkdjhkfiolhkiaaGreat
open Go Go.Proofs Go.Proofs.Tryz
def zAd:Hint:=⟨[hc 3 [0,3,4]],[],[]⟩
def zE8:Hint:=⟨[],[],[(2,[en 0,en 1,en 2,en 3,en 4,en 5,en 6,en 7,en 8,en 9,en 10,en 11,en 12]),(3,[en 0,en 1,en 2,en 3,en 4,en 5,en 6,en 7,en 8,en 9]),(4,[en 0,en 1,en 2,en 3,en 4,en 5,en 6,en 7,en 8,en 9,en 10,en 11,en 12,en 13,eh 14])]⟩
def zD4:Hint:=⟨[],[],[]⟩
def zFP:Hint:=⟨[],[],[]⟩
def zGL:Hint:=⟨[],[],[]⟩
def zA8:Hint:=⟨[],[],[]⟩
def rY:Hint:=⟨[hc 3 [0,1,3,6,8,10,11] [(10,30,9)]],[],[(5,[en 0,en 1,en 2,en 3,en 4,en 5,en 6,en 7,en 8,en 9,en 10,en 11,en 12,en 13,ec 14 [31,32],en 15,en 16,en 17,en 18,en 19,en 20,en 21,en 22,en 24,eh 23,en 25,en 26])]⟩
def zD8:Hint:=⟨[],[],[(7,[en 0,en 1,en 2,en 3,en 4,en 5,en 6,en 7,en 8,en 9,eh 10,ec 11 [24,31],eh 12])]⟩
def zIR:Hint:=⟨[],[],[]⟩
def wh (Q:QT [.cu]) (N0:Nat) (a0:Option Addr) (e0:List D) (c0:Nat) (n3 n4:Int) (N:Nat):Prop:=AT prog 58 [.cu] Q N0 .ord (zF prog 58 3) ⟨.sv a0 0 e0 c0::an 2 (.int .i64 n3::.int .i64 n4::an 27 []),[],N,none⟩
def ze (E:Env) (Q:QT [(Sh.ag 9),Sh.bool,(Sh.sl 0),(Sh.int IntKind.i64),(Sh.int IntKind.i64)]) (N0:Nat) (a1:Option Addr) (e1:List D) (c1:Nat) (n3:Int) (m10 c10:Nat) (n11:Int) (a0_0:Option Addr) (e0_0:List D) (c0_0:Nat) (n0_1 n0_2:Int) (y1:D) (n2_0:Int) (s2_1 s2_2:ByteArray) (n2_3 n2_4:Int) (a2_5:Option Addr) (e2_5:List D) (c2_5:Nat) (n2_6:Int) (a2_7:Option Addr) (e2_7:List D) (c2_7:Nat) (a2_8:Option Addr) (e2_8:List D) (c2_8:Nat) (r3:List D) (q3:Nat) (N:Nat):Prop:=AT prog 157 [(Sh.ag 9),Sh.bool,(Sh.sl 0),(Sh.int IntKind.i64),(Sh.int IntKind.i64)] Q N0 (.io E [.var [.sv none 0 [] 0,.int .i64 0,.int .i64 0]]) (zF prog 157 3) ⟨.pb 0 0 0 0::.sv a1 4 e1 c1::an 1 (.int .i64 n3::an 2 (.pb 1 0 0 0::an 1 (.pb 2 0 0 0::an 1 (.sb 3 9 0 m10 c10::.int .i64 n11::an 54 [])))),[.var [.sv a0_0 0 e0_0 c0_0,.int .i64 n0_1,.int .i64 n0_2],.vd y1 2,.var [.int .i64 n2_0,.str s2_1,.str s2_2,.int .i64 n2_3,.int .i64 n2_4,.sv a2_5 2 e2_5 c2_5,.int .i64 n2_6,.sv a2_7 2 e2_7 c2_7,.sv a2_8 9 e2_8 c2_8],.arr 30 9 r3 q3],N,some (yj E 0 [.var [.sv none 0 [] 0,.int .i64 0,.int .i64 0]],[])⟩
theorem zHP (N:Nat) (a0:Option Addr) (e0:List D) (c0:Nat) (Q:QT [.cu]) (h :
Bel N (D.sl a0 0 e0 c0)->wh Q N a0 e0 c0 (IntKind.i64.wrap (26583+(e0.length:Int))) 0 N):ACalls prog 58 [.cu] [PV.sv a0 0 e0 c0] N Q:=
 eE (H:=zAd) (by kernel_rfl) (by kernel_rfl) h
theorem zII (N:Nat) (s0:ByteArray) (a1:Option Addr) (e1:List D) (c1:Nat) (Q:QT [.ag 9]) (h :
Bel N (D.sl a1 9 e1 c1)->∀ a,N<=a->ACalls prog 123 [.ag 9] [.int .i64 4,.sv a1 9 e1 c1] a (fun x b=>a<=b->Bel b x->∀ a,b<=a->Q (D.ag
 [(x.cell 0),D.lit (.string s0),(x.cell 2),(x.cell 3),(x.cell 4),(x.cell 5),(x.cell 6),(x.cell 7),(x.cell 8)]) a)):ACalls prog 187 [.ag 9] [PV.str s0,PV.sv a1 9 e1 c1] N Q:=
  eE (H:=zIR) (by kernel_rfl) (by kernel_rfl) h
theorem rV (Q:QT [.cu]) (N0:Nat) (a0:Option Addr) (e0:List D) (c0:Nat) (n3 n4:Int) (N:Nat) (h :
Br (decide (n4<(e0.length:Int))) (Br (decide (n4<4000)) ((0<=n4/\n4<(e0.length:Int))/\∃ n:Int,List.getD e0 n4.toNat default=D.lit (.int IntKind.u8
 n)/\wh Q N0 a0 e0 c0 (IntKind.i64.wrap (BitVec.toNat (HAnd.hAnd (BitVec.ofInt 64 (IntKind.i64.wrap (IntKind.i64.wrap (IntKind.i64.wrap (n3*131) +
 IntKind.i64.wrap n)+7))) (BitVec.ofInt 64 1073741823)):Int)) (IntKind.i64.wrap (n4+1)) N) (∀ a,N<=a->Q a0 e0 c0 0 n3 a)) (∀ a,N<=a->Q a0 e0
 c0 0 n3 a)):wh Q N0 a0 e0 c0 n3 n4 N:=
  hE (H:=zAd) (by kernel_rfl) h
theorem zBD (N:Nat) (n1:Int) (aB0_0:Option Addr) (eB0_0:List D) (cB0_0:Nat) (nB0_1 nB0_2:Int) (Q:QT [Sh.bool,(Sh.sl 0),(Sh.int IntKind.i64),(Sh.int IntKind.i64)]) (h:∀ E:Env,
Bel N (D.sl aB0_0 0 eB0_0 cB0_0)->∀ b,N<=b->BCalls prog 61 [.int .i64,.sl 0,.int .i64,.int .i64] [.pb 0 0 0 0,.int .i64 n1] [Bx.var [.sv aB0_0 0 eB0_0
 cB0_0,.int .i64 nB0_1,.int .i64 nB0_2]] b (fun n a c d e f g=>b<=g->Bel g (D.sl a 0 c d)->zO E [.var [.sv none 0 [] 0,.int .i64 0,.int
 .i64 0]]/\∀ b,g<=b->Q (n==0) a c d e f b)):BCalls prog 81 [Sh.bool,(Sh.sl 0),(Sh.int IntKind.i64),(Sh.int IntKind.i64)] [.pb 0 0 0 0,.int .i64 n1] [.var [.sv aB0_0 0 eB0_0 cB0_0,.int .i64 nB0_1,.int .i64 nB0_2]] N Q:=
  bE (H:=zFP) (by kernel_rfl) (fun E=>by kernel_rfl) h
theorem pp (N:Nat) (n1:Int) (aB0_0:Option Addr) (eB0_0:List D) (cB0_0:Nat) (nB0_1 nB0_2:Int) (Q:QT [(Sh.int IntKind.i64),(Sh.sl 0),(Sh.int IntKind.i64),(Sh.int IntKind.i64)]) (h:∀ E:Env,
Bel N (D.sl aB0_0 0 eB0_0 cB0_0)->Br (decide (n1<=0)) (zO E [.var [.sv none 0 [] 0,.int .i64 0,.int .i64 0]]/\∀ a,N<=a->Q 0 aB0_0 eB0_0 cB0_0 nB0_1
 nB0_2 a) (Br (decide (n1<=256)) (∀ b,N<=b->BCalls prog 131 [.int .i64,.sl 0,.int .i64,.int .i64] [.pb 0 0 0 0] [Bx.var [.sv aB0_0 0 eB0_0 cB0_0,.int
 .i64 nB0_1,.int .i64 nB0_2]] b (fun n a c d e f g=>b<=g->Bel g (D.sl a 0 c d)->n1≠0/\zO E [.var [.sv none 0 [] 0,.int .i64 0,.int .i64
 0]]/\∀ b,g<=b->Q (Int.tmod n n1) a c d e f b)) (∀ a,N<=a->BCalls prog 131 [.int .i64,.sl 0,.int .i64,.int .i64] [.pb 0 0 0 0] [Bx.var
 [.sv aB0_0 0 eB0_0 cB0_0,.int .i64 nB0_1,.int .i64 nB0_2]] a (fun b c d e f g h=>a<=h->Bel h (D.sl c 0 d e)->∀ a,h<=a
 -> BCalls prog 131 [.int .i64,.sl 0,.int .i64,.int .i64] [.pb 0 0 0 0] [Bx.var [.sv c 0 d e,.int .i64 f,.int .i64 g]] a (fun c d e f g
 h i=>a<=i->Bel i (D.sl d 0 e f)->∀ a,i<=a->BCalls prog 131 [.int .i64,.sl 0,.int .i64,.int .i64] [.pb 0 0 0 0] [Bx.var [.sv d
 0 e f,.int .i64 g,.int .i64 h]] a (fun d e f g h i j=>a<=j->Bel j (D.sl e 0 f g)->∀ a,j<=a->BCalls
 prog 131 [.int .i64,.sl 0,.int .i64,.int .i64] [.pb 0 0 0 0] [Bx.var [.sv e 0 f g,.int .i64 h,.int .i64 i]] a (fun e f g h i j
 k=>a<=k->Bel k (D.sl f 0 g h)->n1≠0/\zO E [.var [.sv none 0 [] 0,.int .i64 0,.int .i64 0]]/\∀ a,k<=a->Q (Int.tmod (IntKind.i64.wrap
 (IntKind.i64.wrap (IntKind.i64.wrap (IntKind.i64.wrap (b*16777216)+IntKind.i64.wrap (c*65536))+IntKind.i64.wrap (d*256))+e)) n1) f g h
 i j a))))))):BCalls prog 61 [(Sh.int IntKind.i64),(Sh.sl 0),(Sh.int IntKind.i64),(Sh.int IntKind.i64)] [.pb 0 0 0 0,.int .i64 n1] [.var [.sv aB0_0 0 eB0_0 cB0_0,.int .i64 nB0_1,.int .i64 nB0_2]] N Q:=
  bE (H:=zD4) (by kernel_rfl) (fun E=>by kernel_rfl) h
theorem zAv (N:Nat) (aB0_0:Option Addr) (eB0_0:List D) (cB0_0:Nat) (nB0_1 nB0_2:Int) (Q:QT [(Sh.int IntKind.i64),(Sh.sl 0),(Sh.int IntKind.i64),(Sh.int IntKind.i64)]) (h:∀ E:Env,
Bel N (D.sl aB0_0 0 eB0_0 cB0_0)->(0:Int)<=(33:Int)/\(0:Int)<=(45:Int)/\Br (decide (nB0_1<(eB0_0.length:Int))) ((0<=nB0_1/\nB0_1<(eB0_0.length
 : Int))/\∃ n:Int,List.getD eB0_0 nB0_1.toNat default=D.lit (.int IntKind.u8 n)/\zO E [.var [.sv none 0 [] 0,.int .i64 0,.int .i64 0]]/\∀ a,N<=a
 -> Q (IntKind.i64.wrap (BitVec.toNat (HAnd.hAnd (BitVec.ofInt 64 (IntKind.i64.wrap (IntKind.i64.wrap (BitVec.toNat (HAnd.hAnd (BitVec.ofInt 64 (IntKind.i64.wrap (BitVec.toNat
 (HXor.hXor (BitVec.ofInt 64 (Int.fdiv (IntKind.i64.wrap (IntKind.i64.wrap (nB0_2*6364136223846793005)+1442695040888963407)) 8589934592)) (BitVec.ofInt 64 (Int.fdiv
 (IntKind.i64.wrap (IntKind.i64.wrap (nB0_2*6364136223846793005)+1442695040888963407)) 35184372088832))):Int))) (BitVec.ofInt 64 255)):Int)+IntKind.i64.wrap
 n))) (BitVec.ofInt 64 255)):Int)) aB0_0 eB0_0 cB0_0 (IntKind.i64.wrap (nB0_1+1)) (IntKind.i64.wrap (IntKind.i64.wrap (nB0_2*6364136223846793005)+1442695040888963407))
 a) (zO E [.var [.sv none 0 [] 0,.int .i64 0,.int .i64 0]]/\∀ a,N<=a->Q (IntKind.i64.wrap (BitVec.toNat (HAnd.hAnd (BitVec.ofInt 64 (IntKind.i64.wrap
 (BitVec.toNat (HXor.hXor (BitVec.ofInt 64 (Int.fdiv (IntKind.i64.wrap (IntKind.i64.wrap (nB0_2*6364136223846793005)+1442695040888963407)) 8589934592)) (BitVec.ofInt
 64 (Int.fdiv (IntKind.i64.wrap (IntKind.i64.wrap (nB0_2*6364136223846793005)+1442695040888963407)) 35184372088832))):Int))) (BitVec.ofInt 64 255)):Int))
 aB0_0 eB0_0 cB0_0 nB0_1 (IntKind.i64.wrap (IntKind.i64.wrap (nB0_2*6364136223846793005)+1442695040888963407)) a)):BCalls prog 131 [(Sh.int IntKind.i64),(Sh.sl 0),(Sh.int IntKind.i64),(Sh.int IntKind.i64)] [.pb 0 0 0 0] [.var [.sv aB0_0 0 eB0_0 cB0_0,.int .i64 nB0_1,.int .i64 nB0_2]] N Q:=
  bE (H:=zE8) (by kernel_rfl) (fun E=>by kernel_rfl) h
theorem pq (N:Nat) (a1:Option Addr) (e1:List D) (c1:Nat) (x2:D) (n3:Int) (aB0_0:Option Addr) (eB0_0:List D) (cB0_0:Nat) (nB0_1 nB0_2:Int) (Q:QT [(Sh.ag 9),Sh.bool,(Sh.sl 0),(Sh.int IntKind.i64),(Sh.int IntKind.i64)]) (h:∀ E:Env,
Bel N (D.sl a1 4 e1 c1)->Bel N x2->Bel N (D.sl aB0_0 0 eB0_0 cB0_0)->ze E Q N a1 e1 c1 n3 0 0 0 aB0_0 eB0_0 cB0_0 nB0_1 nB0_2 x2 0 (bytes []) (bytes
 []) 0 0 Option.none [] 0 0 Option.none [] 0 Option.none [] 0 [] 0 N):BCalls prog 157 [(Sh.ag 9),Sh.bool,(Sh.sl 0),(Sh.int IntKind.i64),(Sh.int IntKind.i64)] [.pb 0 0 0 0,.sv a1 4 e1 c1,.dg 2 x2,.int .i64 n3] [.var [.sv aB0_0 0 eB0_0 cB0_0,.int .i64 nB0_1,.int .i64 nB0_2]] N Q:=
  bE (H:=rY) (by kernel_rfl) (fun E=>by kernel_rfl) h
theorem rj (N:Nat) (m1 c1:Nat) (aB0_0:Option Addr) (eB0_0:List D) (cB0_0:Nat) (nB0_1 nB0_2:Int) (rB1:List D) (qB1:Nat) (Q:QT [(Sh.int IntKind.i64),(Sh.sl 0),(Sh.int IntKind.i64),(Sh.int IntKind.i64),(Sh.sl 0)]) (h:∀ E:Env,
Bel N (D.sl aB0_0 0 eB0_0 cB0_0)->Bel N (D.sl Option.none 0 rB1 qB1)->∀ b,N<=b->BCalls prog 61 [.int .i64,.sl 0,.int .i64,.int .i64] [.pb 0 0 0 0,.int
 .i64 (m1:Int)] [Bx.var [.sv aB0_0 0 eB0_0 cB0_0,.int .i64 nB0_1,.int .i64 nB0_2]] b (fun n a c d e f g=>b<=g->Bel g (D.sl a 0 c d)->(0 <=
 n/\n<(m1:Int)/\(0+n.toNat:Nat)<rB1.length)/\(0+n.toNat:Nat)<rB1.length/\∃ b:Int,List.getD rB1 (0+n.toNat:Nat) default=D.lit (.int
 .i64 b)/\zO E [.var [.sv none 0 [] 0,.int .i64 0,.int .i64 0],.arr 3 0 [] 0]/\∀ h,g<=h->Q b a c d e f Option.none rB1 qB1 h)):BCalls prog 63 [(Sh.int IntKind.i64),(Sh.sl 0),(Sh.int IntKind.i64),(Sh.int IntKind.i64),(Sh.sl 0)] [.pb 0 0 0 0,.sb 1 0 0 m1 c1] [.var [.sv aB0_0 0 eB0_0 cB0_0,.int .i64 nB0_1,.int .i64 nB0_2],.arr 3 0 rB1 qB1] N Q:=
  bE (H:=zA8) (by kernel_rfl) (fun E=>by kernel_rfl) h
theorem tE (E:Env) (Q:QT [(Sh.ag 9),Sh.bool,(Sh.sl 0),(Sh.int IntKind.i64),(Sh.int IntKind.i64)]) (N0:Nat) (a1:Option Addr) (e1:List D) (c1:Nat) (n3:Int) (m10 c10:Nat) (n11:Int) (a0_0:Option Addr) (e0_0:List D) (c0_0:Nat) (n0_1 n0_2:Int) (y1:D) (n2_0:Int) (s2_1 s2_2:ByteArray) (n2_3 n2_4:Int) (a2_5:Option Addr) (e2_5:List D) (c2_5:Nat) (n2_6:Int) (a2_7:Option Addr) (e2_7:List D) (c2_7:Nat) (a2_8:Option Addr) (e2_8:List D) (c2_8:Nat) (r3:List D) (q3:Nat) (N:Nat) (h :
Br (decide (n11<(e1.length:Int))) ((0<=n11/\n11<(e1.length:Int))/\∃ n:Int,(if 0=0 then D.cell (List.getD e1 n11.toNat default) 3 else D.sub (List.getD
 e1 n11.toNat default) 3 0)=D.lit (.int .i64 n)/\Br (n==n3) ((0<=n11/\n11<(e1.length:Int))/\∀ a,N<=a->ACalls prog 107 [.bool] [.dg 2 (if 2=0
 then D.cell (List.getD e1 n11.toNat default) 1 else D.sub (List.getD e1 n11.toNat default) 1 2),.dg 2 y1] a (fun b d=>a<=d->Br b ((0<=n11/\n11<(e1.length
 : Int))/\∃ s,(if 0=0 then D.cell (List.getD e1 n11.toNat default) 0 else D.sub (List.getD e1 n11.toNat default) 0 0)=D.lit (.string s)/\∀ a,d<=a ->
 ACalls prog 109 [.int .i64] [.sv a1 4 e1 c1,.str s] a (fun b d=>a<=d->Br (b==n11) ((0<=n11/\n11<(e1.length:Int))/\∃ a,(if 0=0 then
 D.cell (List.getD e1 n11.toNat default) 0 else D.sub (List.getD e1 n11.toNat default) 0 0)=D.lit (.string a)/\∀ b,d<=b->ACalls prog 155 [.ag 9] [.str
 a] b (fun x a=>b<=a->Bel a x->(m10=r3.length/\c10=q3)/\zB r3 [x] 136/\∀ (c:Nat),ze E Q N0 a1 e1 c1 n3 (r3++[x]).length
 c (IntKind.i64.wrap (n11+1)) a0_0 e0_0 c0_0 n0_1 n0_2 y1 n2_0 s2_1 s2_2 n2_3 n2_4 a2_5 e2_5 c2_5 n2_6 a2_7 e2_7 c2_7 a2_8 e2_8 c2_8 (r3++[x]) c a)) (ze
 E Q N0 a1 e1 c1 n3 m10 c10 (IntKind.i64.wrap (n11+1)) a0_0 e0_0 c0_0 n0_1 n0_2 y1 n2_0 s2_1 s2_2 n2_3 n2_4 a2_5 e2_5 c2_5 n2_6 a2_7 e2_7 c2_7 a2_8 e2_8 c2_8 r3
 q3 d))) (ze E Q N0 a1 e1 c1 n3 m10 c10 (IntKind.i64.wrap (n11+1)) a0_0 e0_0 c0_0 n0_1 n0_2 y1 n2_0 s2_1 s2_2 n2_3 n2_4 a2_5 e2_5 c2_5 n2_6 a2_7
 e2_7 c2_7 a2_8 e2_8 c2_8 r3 q3 d))) (ze E Q N0 a1 e1 c1 n3 m10 c10 (IntKind.i64.wrap (n11+1)) a0_0 e0_0 c0_0 n0_1 n0_2 y1 n2_0 s2_1 s2_2 n2_3 n2_4
 a2_5 e2_5 c2_5 n2_6 a2_7 e2_7 c2_7 a2_8 e2_8 c2_8 r3 q3 N)) (Br ((m10:Int)==0) (zO E [.var [.sv none 0 [] 0,.int .i64 0,.int .i64 0]]/\∀ a,N<=a ->
 Q (D.ag [D.lit (.int .i64 0),D.lit (.string (bytes [])),D.lit (.string (bytes [])),D.lit (.int .i64 0),D.lit (.int .i64 0),D.sl Option.none 2 [] 0,D.lit (.int
 .i64 0),D.sl Option.none 2 [] 0,D.sl Option.none 9 [] 0]) false a0_0 e0_0 c0_0 n0_1 n0_2 a) (∀ b,N<=b->BCalls prog 61 [.int .i64,.sl 0,.int .i64,.int
 .i64] [.pb 0 0 0 0,.int .i64 (m10:Int)] [Bx.var [.sv a0_0 0 e0_0 c0_0,.int .i64 n0_1,.int .i64 n0_2]] b (fun a c d e f g h=>b<=h->Bel h
 (D.sl c 0 d e)->(0<=a/\a<(m10:Int)/\(0+a.toNat:Nat)<r3.length)/\(0+a.toNat:Nat)<r3.length/\zO E [.var [.sv none 0 [] 0,.int .i64
 0,.int .i64 0]]/\∀ b,h<=b->Q (List.getD r3 (0+a.toNat:Nat) default) true c d e f g b)))):ze E Q N0 a1 e1 c1 n3 m10 c10 n11 a0_0 e0_0 c0_0 n0_1 n0_2 y1 n2_0 s2_1 s2_2 n2_3 n2_4 a2_5 e2_5 c2_5 n2_6 a2_7 e2_7 c2_7 a2_8 e2_8 c2_8 r3 q3 N:=
  hE (H:=rY) (by kernel_rfl) h
theorem xD (N:Nat) (x1:D) (n2:Int) (aB0_0:Option Addr) (eB0_0:List D) (cB0_0:Nat) (nB0_1 nB0_2:Int) (Q:QT [(Sh.ag 9),(Sh.sl 0),(Sh.int IntKind.i64),(Sh.int IntKind.i64)]) (h:∀ E:Env,
Bel N x1->Bel N (D.sl aB0_0 0 eB0_0 cB0_0)->∃ n:Int,(x1.cell 0)=D.lit (.int .i64 n)/\Br (n==1) (∀ b,N<=b->BCalls prog 61 [.int .i64,.sl 0,.int
 .i64,.int .i64] [.pb 0 0 0 0,.int .i64 4] [Bx.var [.sv aB0_0 0 eB0_0 cB0_0,.int .i64 nB0_1,.int .i64 nB0_2]] b (fun a c d e f g h=>b<=h->Bel
 h (D.sl c 0 d e)->∀ b,h<=b->ACalls prog 204 [.ag 9] [.int .i64 a] b (fun x a=>b<=a->Bel a x->zO E [.var [.sv none 0 [] 0,.int .i64
 0,.int .i64 0]]/\∀ b,a<=b->Q x c d e f g b))) (Br (n==2) (∀ a,N<=a->BCalls prog 61 [.int .i64,.sl 0,.int .i64,.int .i64] [.pb 0 0 0
 0,.int .i64 2] [Bx.var [.sv aB0_0 0 eB0_0 cB0_0,.int .i64 nB0_1,.int .i64 nB0_2]] a (fun b c d e f g h=>a<=h->Bel h (D.sl c 0 d
 e)->∀ a,h<=a->ACalls prog 205 [.ag 9] [.int .i64 b] a (fun b h=>a<=h->Bel h b->zO E [.var [.sv none 0 [] 0,.int .i64 0,.int
 .i64 0]]/\∀ a,h<=a->Q b c d e f g a))) (Br (n==3) (∃ a b,∃ c:Nat,(x1.cell 1)=D.sl a 2 b c/\((0:Int)<=(0:Int)
 /\ 0<(b.length:Int))/\∃ a c,∃ d:Nat,(x1.cell 1)=D.sl a 2 c d/\((0:Int)<=(1:Int)/\1<(c.length:Int))/\∀ a,N<=a ->
 BCalls prog 158 [.ag 9,.sl 0,.int .i64,.int .i64] [.pb 0 0 0 0,.dg 2 (List.getD c 1 default),.int .i64 n2] [Bx.var [.sv aB0_0 0 eB0_0 cB0_0,.int .i64 nB0_1,
 .int .i64 nB0_2]] a (fun c d e f g h i=>a<=i->Bel i c->Bel i (D.sl d 0 e f)->∀ a,i<=a->ACalls prog 161
 [.ag 9] [.str (bytes [119]),.dg 2 (List.getD b 0 default),.dg 9 c] a (fun b c=>a<=c->Bel c b->zO E [.var [.sv none 0 [] 0,.int
 .i64 0,.int .i64 0]]/\∀ a,c<=a->Q b d e f g h a))) (∃ a b,∃ c:Nat,(x1.cell 1)=D.sl a 2 b c/\((0:Int)<=(0 :
 Int)/\0<(b.length:Int))/\∀ a,N<=a->BCalls prog 158 [.ag 9,.sl 0,.int .i64,.int .i64] [.pb 0 0 0 0,.dg 2 (List.getD b 0 default),.int .i64
 (IntKind.i64.wrap (n2+1))] [Bx.var [.sv aB0_0 0 eB0_0 cB0_0,.int .i64 nB0_1,.int .i64 nB0_2]] a (fun b c d e f g h=>a<=h->Bel h
 b->Bel h (D.sl c 0 d e)->(1=([b]).length/\1=1)/\(1=([b]).length/\1=1)/\(1=([b]).length/\1=1)/\∀ a i,h<=i->Fresh
 N i a [D.ag [b],D.sl Option.none 2 [] 0,D.sl Option.none 2 [] 0]->zO E [.var [.sv none 0 [] 0,.int .i64 0,.int .i64 0]]/\∀ h,i<=h->Q (D.ag
 [D.lit (.int .i64 10),D.lit (.string (bytes [])),D.lit (.string (bytes [])),D.lit (.int .i64 0),D.lit (.int .i64 0),D.sl Option.none 2 [] 0,D.lit (.int .i64
 0),D.sl Option.none 2 [] 0,D.sl a 9 [b] 1]) c d e f g h))))):BCalls prog 158 [(Sh.ag 9),(Sh.sl 0),(Sh.int IntKind.i64),(Sh.int IntKind.i64)] [.pb 0 0 0 0,.dg 2 x1,.int .i64 n2] [.var [.sv aB0_0 0 eB0_0 cB0_0,.int .i64 nB0_1,.int .i64 nB0_2]] N Q:=
  bE (H:=zD8) (by kernel_rfl) (fun E=>by kernel_rfl) h
theorem zBN (N:Nat) (m1 c1:Nat) (aB0_0:Option Addr) (eB0_0:List D) (cB0_0:Nat) (nB0_1 nB0_2:Int) (rB1:List D) (qB1:Nat) (Q:QT [Sh.str,(Sh.sl 0),(Sh.int IntKind.i64),(Sh.int IntKind.i64),(Sh.sl 0)]) (h:∀ E:Env,
Bel N (D.sl aB0_0 0 eB0_0 cB0_0)->Bel N (D.sl Option.none 0 rB1 qB1)->∀ b,N<=b->BCalls prog 61 [.int .i64,.sl 0,.int .i64,.int .i64] [.pb 0 0 0 0,.int
 .i64 (m1:Int)] [Bx.var [.sv aB0_0 0 eB0_0 cB0_0,.int .i64 nB0_1,.int .i64 nB0_2]] b (fun n a c d e f g=>b<=g->Bel g (D.sl a 0 c d)->(0 <=
 n/\n<(m1:Int)/\(0+n.toNat:Nat)<rB1.length)/\(0+n.toNat:Nat)<rB1.length/\∃ s,List.getD rB1 (0+n.toNat:Nat) default=D.lit (.string s) /\
 zO E [.var [.sv none 0 [] 0,.int .i64 0,.int .i64 0],.arr 9 0 [] 0]/\∀ b,g<=b->Q s a c d e f Option.none rB1 qB1 b)):BCalls prog 132 [Sh.str,(Sh.sl 0),(Sh.int IntKind.i64),(Sh.int IntKind.i64),(Sh.sl 0)] [.pb 0 0 0 0,.sb 1 0 0 m1 c1] [.var [.sv aB0_0 0 eB0_0 cB0_0,.int .i64 nB0_1,.int .i64 nB0_2],.arr 9 0 rB1 qB1] N Q:=
  bE (H:=zGL) (by kernel_rfl) (fun E=>by kernel_rfl) h
end Go.Proofs.YtkdjhkfiolhkiaaGreat
set_option maxRecDepth 100000
namespace Go.Proofs.YtkdjhkfiolhkiaaGreat
open Go Go.Proofs Go.Proofs.Tryz
def zKg:Hint:=⟨[],[],[]⟩
theorem zJx (N:Nat) (a0:Option Addr) (e0:List D) (c0:Nat) (Q:QT [.bool]) (h :
Bel N (D.sl a0 0 e0 c0)->∀ a,N<=a->Q (decide ((e0.length:Int)>1048576)) a):ACalls prog 7 [.bool] [PV.sv a0 0 e0 c0] N Q:=
 eE (H:=zKg) (by kernel_rfl) (by kernel_rfl) h
end Go.Proofs.YtkdjhkfiolhkiaaGreat
set_option maxRecDepth 100000
namespace Go.Proofs.YtkdjhkfiolhkiaaGreat
open Go Go.Proofs Go.Proofs.Tryz
def shA:FuncId->List Sh:=fun f=>match zMA f [(204,[.pk,.int .i64,.str,.str,.int .i64,.dc,.dc,.dc,.dc,.row 30 9]),(205,[.pk,.int .i64,.str,.str,.int .i64,.dc,.dc,.dc,.dc,.row 30 9]),(155,[.pk,.int .i64,.str,.str,.int .i64,.dc,.dc,.dc,.dc,.row 30 9]),(203,[.row 0 1000007,.pk,.int .i64,.str,.str,.int .i64,.dc,.dc,.dc,.dc,.row 30 9]),(154,[.row 0 1000007,.pk,.int .i64,.str,.str,.int .i64,.dc,.dc,.dc,.dc,.row 30 9])] with
 | []=>sh f
 | l=>l
theorem zPW {f:FuncId} {rs:List Sh} {Q:QT rs} {N:Nat} {H:Hint} {args:List PV} {F:Prop} (hc:yb prog f=true) (he:F=zG1 prog shA f rs Q N H 400 args) (h:F):ACalls prog f rs args N Q:=zOd zKA hc he h
theorem zK3 {f:FuncId} {full:List Sh} {Q:QT full} {N:Nat} {H:Hint} {args:List PV} {bx:List Bx} {F:Env->Prop} (hc:yb prog f=true) (he:∀ E,F E=zHB prog shA f full Q N H 400 args bx E) (h:∀ E,F E):BCalls prog f full args bx N Q:=zLP zKA hc he h
theorem zAK {f:FuncId} {rs:List Sh} {Q:QT rs} {N0:Nat} {M:Mode} {H:Hint} {items:List Item} {st:St} {F:Prop} (he:F=zBP st fun st=>W prog shA f rs Q N0 M H 400 true items st) (h:F):AT prog f rs Q N0 M items st:=zQv zKA he h
def zD1:Hint:=⟨[],[],[]⟩
def zBz:Hint:=⟨[],[],[]⟩
def zDw:Hint:=⟨[],[],[]⟩
def zFA:Hint:=⟨[],[],[(4,hs 6 [ec 4 [21]]),(6,[en 0,en 1,en 2,en 3,eh 4,ec 5 [27,31],eh 6])]⟩
def zFU:Hint:=⟨[],[],[]⟩
def zf:Hint:=⟨[hc 18 [0,1,4,5,6,7] [] [(5,8,30,9)]],[hc 11 [0,1,4,5] [] [(5,8,30,9)],hc 13 [0,1,4,5] [] [(5,8,30,9)],hc 16 [0,1,4,5] [] [(5,8,30,9)]],[(20,[en 0,en 1,en 2,en 3,en 4,eh 5,{ i:=6,hard:=true,cl:=[69],fs:=[5,69] },eh 7,en 8,eh 9])]⟩
def uo:Hint:=⟨[hc 10 [2,3,4,5],hc 15 [2,3,6]],[],[(6,[en 0,en 1,eh 2,en 3,eh 4,en 5,eh 6]),(12,hs 3 [ec 1 [34]]),(17,hs 4 [ec 2 [42,43]])]⟩
def zGW:Hint:=⟨[],[],[(10,[en 0,en 1,eh 2,{ i:=3,hard:=true,cl:=[32],fs:=[3,32] },eh 4,en 5,eh 6])]⟩
def zq (E:Env) (Q:QT [Sh.pk,(Sh.int IntKind.i64),Sh.str,Sh.str,(Sh.int IntKind.i64),Sh.dc,Sh.dc,Sh.dc,Sh.dc,(Sh.row (OfNat.ofNat 30) 9),(Sh.sl 0),(Sh.int IntKind.i64),(Sh.int IntKind.i64)]) (N0:Nat) (n1:Int) (a0_0:Option Addr) (e0_0:List D) (c0_0:Nat) (n0_1 n0_2 n1_0:Int) (s1_1 s1_2:ByteArray) (n1_3 n1_4:Int) (a1_5:Option Addr) (e1_5:List D) (c1_5:Nat) (n1_6:Int) (a1_7:Option Addr) (e1_7:List D) (c1_7:Nat) (a1_8:Option Addr) (e1_8:List D) (c1_8:Nat) (n2_0:Int) (s2_1 s2_2:ByteArray) (n2_3 n2_4:Int) (a2_5:Option Addr) (e2_5:List D) (c2_5:Nat) (n2_6:Int) (a2_7:Option Addr) (e2_7:List D) (c2_7 m2_8 c2_8:Nat) (r3:List D) (q3:Nat) (N:Nat):Prop:=AT prog 154 [Sh.pk,(Sh.int IntKind.i64),Sh.str,Sh.str,(Sh.int IntKind.i64),Sh.dc,Sh.dc,Sh.dc,Sh.dc,(Sh.row (OfNat.ofNat 30) 9),(Sh.sl 0),(Sh.int IntKind.i64),(Sh.int IntKind.i64)] Q N0 (.io E [.var [.sv none 0 [] 0,.int .i64 0,.int .i64 0]]) (qT prog 154 11) ⟨.pb 0 0 0 0::.int .i64 n1::an 2 (.pb 1 0 0 0::.pb 2 0 0 0::an 68 []),[.var [.sv a0_0 0 e0_0 c0_0,.int .i64 n0_1,.int .i64 n0_2],.var [.int .i64 n1_0,.str s1_1,.str s1_2,.int .i64 n1_3,.int .i64 n1_4,.sv a1_5 2 e1_5 c1_5,.int .i64 n1_6,.sv a1_7 2 e1_7 c1_7,.sv a1_8 9 e1_8 c1_8],.var [.int .i64 n2_0,.str s2_1,.str s2_2,.int .i64 n2_3,.int .i64 n2_4,.sv a2_5 2 e2_5 c2_5,.int .i64 n2_6,.sv a2_7 2 e2_7 c2_7,.sb 3 9 0 m2_8 c2_8],.arr 30 9 r3 q3],N,some (yj E 0 [.var [.sv none 0 [] 0,.int .i64 0,.int .i64 0]],[])⟩
def xX (E:Env) (Q:QT [(Sh.ag 2),(Sh.sl 0),(Sh.int IntKind.i64),(Sh.int IntKind.i64)]) (N0:Nat) (n4 n5:Int) (a0_0:Option Addr) (e0_0:List D) (c0_0:Nat) (n0_1 n0_2 n1_0:Int) (a1_1:Option Addr) (e1_1:List D) (c1_1:Nat) (y2:D) (N:Nat):Prop:=AT prog 156 [(Sh.ag 2),(Sh.sl 0),(Sh.int IntKind.i64),(Sh.int IntKind.i64)] Q N0 (.io E [.var [.sv none 0 [] 0,.int .i64 0,.int .i64 0]]) (zF prog 156 10) ⟨an 2 (.pb 1 0 0 0::.pb 2 0 0 0::.int .i64 n4::.int .i64 n5::an 40 []),[.var [.sv a0_0 0 e0_0 c0_0,.int .i64 n0_1,.int .i64 n0_2],.var [.int .i64 n1_0,.sv a1_1 2 e1_1 c1_1],.vd y2 2],N,some (yj E 0 [.var [.sv none 0 [] 0,.int .i64 0,.int .i64 0]],[])⟩
def xW (E:Env) (Q:QT [(Sh.ag 2),(Sh.sl 0),(Sh.int IntKind.i64),(Sh.int IntKind.i64)]) (N0:Nat) (n6:Int) (a0_0:Option Addr) (e0_0:List D) (c0_0:Nat) (n0_1 n0_2 n1_0:Int) (a1_1:Option Addr) (e1_1:List D) (c1_1:Nat) (y2:D) (N:Nat):Prop:=AT prog 156 [(Sh.ag 2),(Sh.sl 0),(Sh.int IntKind.i64),(Sh.int IntKind.i64)] Q N0 (.io E [.var [.sv none 0 [] 0,.int .i64 0,.int .i64 0]]) (zF prog 156 15) ⟨an 2 (.pb 1 0 0 0::.pb 2 0 0 0::an 2 (.int .i64 n6::an 39 [])),[.var [.sv a0_0 0 e0_0 c0_0,.int .i64 n0_1,.int .i64 n0_2],.var [.int .i64 n1_0,.sv a1_1 2 e1_1 c1_1],.vd y2 2],N,some (yj E 0 [.var [.sv none 0 [] 0,.int .i64 0,.int .i64 0]],[])⟩
def xl (E:Env) (Q:QT [Sh.pk,(Sh.int IntKind.i64),Sh.str,Sh.str,(Sh.int IntKind.i64),Sh.dc,Sh.dc,Sh.dc,Sh.dc,(Sh.row (OfNat.ofNat 30) 9),(Sh.sl 0),(Sh.int IntKind.i64),(Sh.int IntKind.i64)]) (N0:Nat) (n1:Int) (a0_0:Option Addr) (e0_0:List D) (c0_0:Nat) (n0_1 n0_2 n1_0:Int) (s1_1 s1_2:ByteArray) (n1_3 n1_4:Int) (a1_5:Option Addr) (e1_5:List D) (c1_5:Nat) (n1_6:Int) (a1_7:Option Addr) (e1_7:List D) (c1_7:Nat) (a1_8:Option Addr) (e1_8:List D) (c1_8:Nat) (n2_0:Int) (s2_1 s2_2:ByteArray) (n2_3:Int) (x2_4 x2_5:D) (n2_6:Int) (a2_7:Option Addr) (e2_7:List D) (c2_7 m2_8 c2_8:Nat) (r3:List D) (q3:Nat) (N:Nat):Prop:=AT prog 154 [Sh.pk,(Sh.int IntKind.i64),Sh.str,Sh.str,(Sh.int IntKind.i64),Sh.dc,Sh.dc,Sh.dc,Sh.dc,(Sh.row (OfNat.ofNat 30) 9),(Sh.sl 0),(Sh.int IntKind.i64),(Sh.int IntKind.i64)] Q N0 (.io E [.var [.sv none 0 [] 0,.int .i64 0,.int .i64 0]]) (qT prog 154 13) ⟨.pb 0 0 0 0::.int .i64 n1::an 2 (.pb 1 0 0 0::.pb 2 0 0 0::an 68 []),[.var [.sv a0_0 0 e0_0 c0_0,.int .i64 n0_1,.int .i64 n0_2],.var [.int .i64 n1_0,.str s1_1,.str s1_2,.int .i64 n1_3,.int .i64 n1_4,.sv a1_5 2 e1_5 c1_5,.int .i64 n1_6,.sv a1_7 2 e1_7 c1_7,.sv a1_8 9 e1_8 c1_8],.var [.int .i64 n2_0,.str s2_1,.str s2_2,.int .i64 n2_3,.dc x2_4,.dc x2_5,.int .i64 n2_6,.sv a2_7 2 e2_7 c2_7,.sb 3 9 0 m2_8 c2_8],.arr 30 9 r3 q3],N,some (yj E 0 [.var [.sv none 0 [] 0,.int .i64 0,.int .i64 0]],[])⟩
def wE (E:Env) (Q:QT [Sh.pk,(Sh.int IntKind.i64),Sh.str,Sh.str,(Sh.int IntKind.i64),Sh.dc,Sh.dc,Sh.dc,Sh.dc,(Sh.row (OfNat.ofNat 30) 9),(Sh.sl 0),(Sh.int IntKind.i64),(Sh.int IntKind.i64)]) (N0:Nat) (n1:Int) (a0_0:Option Addr) (e0_0:List D) (c0_0:Nat) (n0_1 n0_2 n1_0:Int) (s1_1 s1_2:ByteArray) (n1_3 n1_4:Int) (a1_5:Option Addr) (e1_5:List D) (c1_5:Nat) (n1_6:Int) (a1_7:Option Addr) (e1_7:List D) (c1_7:Nat) (a1_8:Option Addr) (e1_8:List D) (c1_8:Nat) (n2_0:Int) (s2_1 s2_2:ByteArray) (n2_3 n2_4:Int) (a2_5:Option Addr) (e2_5:List D) (c2_5:Nat) (n2_6:Int) (a2_7:Option Addr) (e2_7:List D) (c2_7 m2_8 c2_8:Nat) (r3:List D) (q3:Nat) (N:Nat):Prop:=AT prog 154 [Sh.pk,(Sh.int IntKind.i64),Sh.str,Sh.str,(Sh.int IntKind.i64),Sh.dc,Sh.dc,Sh.dc,Sh.dc,(Sh.row (OfNat.ofNat 30) 9),(Sh.sl 0),(Sh.int IntKind.i64),(Sh.int IntKind.i64)] Q N0 (.io E [.var [.sv none 0 [] 0,.int .i64 0,.int .i64 0]]) (qT prog 154 13) ⟨.pb 0 0 0 0::.int .i64 n1::an 2 (.pb 1 0 0 0::.pb 2 0 0 0::an 68 []),[.var [.sv a0_0 0 e0_0 c0_0,.int .i64 n0_1,.int .i64 n0_2],.var [.int .i64 n1_0,.str s1_1,.str s1_2,.int .i64 n1_3,.int .i64 n1_4,.sv a1_5 2 e1_5 c1_5,.int .i64 n1_6,.sv a1_7 2 e1_7 c1_7,.sv a1_8 9 e1_8 c1_8],.var [.int .i64 n2_0,.str s2_1,.str s2_2,.int .i64 n2_3,.int .i64 n2_4,.sv a2_5 2 e2_5 c2_5,.int .i64 n2_6,.sv a2_7 2 e2_7 c2_7,.sb 3 9 0 m2_8 c2_8],.arr 30 9 r3 q3],N,some (yj E 0 [.var [.sv none 0 [] 0,.int .i64 0,.int .i64 0]],[])⟩
def va (E:Env) (Q:QT [Sh.pk,(Sh.int IntKind.i64),Sh.str,Sh.str,(Sh.int IntKind.i64),Sh.dc,Sh.dc,Sh.dc,Sh.dc,(Sh.row (OfNat.ofNat 30) 9),(Sh.sl 0),(Sh.int IntKind.i64),(Sh.int IntKind.i64)]) (N0:Nat) (n1:Int) (a0_0:Option Addr) (e0_0:List D) (c0_0:Nat) (n0_1 n0_2 n1_0:Int) (s1_1 s1_2:ByteArray) (n1_3 n1_4:Int) (a1_5:Option Addr) (e1_5:List D) (c1_5:Nat) (n1_6:Int) (a1_7:Option Addr) (e1_7:List D) (c1_7:Nat) (a1_8:Option Addr) (e1_8:List D) (c1_8:Nat) (n2_0:Int) (s2_1 s2_2:ByteArray) (n2_3:Int) (x2_4 x2_5 x2_6 x2_7:D) (m2_8 c2_8:Nat) (r3:List D) (q3:Nat) (N:Nat):Prop:=AT prog 154 [Sh.pk,(Sh.int IntKind.i64),Sh.str,Sh.str,(Sh.int IntKind.i64),Sh.dc,Sh.dc,Sh.dc,Sh.dc,(Sh.row (OfNat.ofNat 30) 9),(Sh.sl 0),(Sh.int IntKind.i64),(Sh.int IntKind.i64)] Q N0 (.io E [.var [.sv none 0 [] 0,.int .i64 0,.int .i64 0]]) (qT prog 154 16) ⟨.pb 0 0 0 0::.int .i64 n1::an 2 (.pb 1 0 0 0::.pb 2 0 0 0::an 68 []),[.var [.sv a0_0 0 e0_0 c0_0,.int .i64 n0_1,.int .i64 n0_2],.var [.int .i64 n1_0,.str s1_1,.str s1_2,.int .i64 n1_3,.int .i64 n1_4,.sv a1_5 2 e1_5 c1_5,.int .i64 n1_6,.sv a1_7 2 e1_7 c1_7,.sv a1_8 9 e1_8 c1_8],.var [.int .i64 n2_0,.str s2_1,.str s2_2,.int .i64 n2_3,.dc x2_4,.dc x2_5,.dc x2_6,.dc x2_7,.sb 3 9 0 m2_8 c2_8],.arr 30 9 r3 q3],N,some (yj E 0 [.var [.sv none 0 [] 0,.int .i64 0,.int .i64 0]],[])⟩
def wL (E:Env) (Q:QT [Sh.pk,(Sh.int IntKind.i64),Sh.str,Sh.str,(Sh.int IntKind.i64),Sh.dc,Sh.dc,Sh.dc,Sh.dc,(Sh.row (OfNat.ofNat 30) 9),(Sh.sl 0),(Sh.int IntKind.i64),(Sh.int IntKind.i64)]) (N0:Nat) (n1:Int) (a0_0:Option Addr) (e0_0:List D) (c0_0:Nat) (n0_1 n0_2 n1_0:Int) (s1_1 s1_2:ByteArray) (n1_3 n1_4:Int) (a1_5:Option Addr) (e1_5:List D) (c1_5:Nat) (n1_6:Int) (a1_7:Option Addr) (e1_7:List D) (c1_7:Nat) (a1_8:Option Addr) (e1_8:List D) (c1_8:Nat) (n2_0:Int) (s2_1 s2_2:ByteArray) (n2_3:Int) (x2_4 x2_5:D) (n2_6:Int) (a2_7:Option Addr) (e2_7:List D) (c2_7 m2_8 c2_8:Nat) (r3:List D) (q3:Nat) (N:Nat):Prop:=AT prog 154 [Sh.pk,(Sh.int IntKind.i64),Sh.str,Sh.str,(Sh.int IntKind.i64),Sh.dc,Sh.dc,Sh.dc,Sh.dc,(Sh.row (OfNat.ofNat 30) 9),(Sh.sl 0),(Sh.int IntKind.i64),(Sh.int IntKind.i64)] Q N0 (.io E [.var [.sv none 0 [] 0,.int .i64 0,.int .i64 0]]) (qT prog 154 16) ⟨.pb 0 0 0 0::.int .i64 n1::an 2 (.pb 1 0 0 0::.pb 2 0 0 0::an 68 []),[.var [.sv a0_0 0 e0_0 c0_0,.int .i64 n0_1,.int .i64 n0_2],.var [.int .i64 n1_0,.str s1_1,.str s1_2,.int .i64 n1_3,.int .i64 n1_4,.sv a1_5 2 e1_5 c1_5,.int .i64 n1_6,.sv a1_7 2 e1_7 c1_7,.sv a1_8 9 e1_8 c1_8],.var [.int .i64 n2_0,.str s2_1,.str s2_2,.int .i64 n2_3,.dc x2_4,.dc x2_5,.int .i64 n2_6,.sv a2_7 2 e2_7 c2_7,.sb 3 9 0 m2_8 c2_8],.arr 30 9 r3 q3],N,some (yj E 0 [.var [.sv none 0 [] 0,.int .i64 0,.int .i64 0]],[])⟩
def wO (E:Env) (Q:QT [Sh.pk,(Sh.int IntKind.i64),Sh.str,Sh.str,(Sh.int IntKind.i64),Sh.dc,Sh.dc,Sh.dc,Sh.dc,(Sh.row (OfNat.ofNat 30) 9),(Sh.sl 0),(Sh.int IntKind.i64),(Sh.int IntKind.i64)]) (N0:Nat) (n1:Int) (a0_0:Option Addr) (e0_0:List D) (c0_0:Nat) (n0_1 n0_2 n1_0:Int) (s1_1 s1_2:ByteArray) (n1_3 n1_4:Int) (a1_5:Option Addr) (e1_5:List D) (c1_5:Nat) (n1_6:Int) (a1_7:Option Addr) (e1_7:List D) (c1_7:Nat) (a1_8:Option Addr) (e1_8:List D) (c1_8:Nat) (n2_0:Int) (s2_1 s2_2:ByteArray) (n2_3 n2_4:Int) (a2_5:Option Addr) (e2_5:List D) (c2_5:Nat) (x2_6 x2_7:D) (m2_8 c2_8:Nat) (r3:List D) (q3:Nat) (N:Nat):Prop:=AT prog 154 [Sh.pk,(Sh.int IntKind.i64),Sh.str,Sh.str,(Sh.int IntKind.i64),Sh.dc,Sh.dc,Sh.dc,Sh.dc,(Sh.row (OfNat.ofNat 30) 9),(Sh.sl 0),(Sh.int IntKind.i64),(Sh.int IntKind.i64)] Q N0 (.io E [.var [.sv none 0 [] 0,.int .i64 0,.int .i64 0]]) (qT prog 154 16) ⟨.pb 0 0 0 0::.int .i64 n1::an 2 (.pb 1 0 0 0::.pb 2 0 0 0::an 68 []),[.var [.sv a0_0 0 e0_0 c0_0,.int .i64 n0_1,.int .i64 n0_2],.var [.int .i64 n1_0,.str s1_1,.str s1_2,.int .i64 n1_3,.int .i64 n1_4,.sv a1_5 2 e1_5 c1_5,.int .i64 n1_6,.sv a1_7 2 e1_7 c1_7,.sv a1_8 9 e1_8 c1_8],.var [.int .i64 n2_0,.str s2_1,.str s2_2,.int .i64 n2_3,.int .i64 n2_4,.sv a2_5 2 e2_5 c2_5,.dc x2_6,.dc x2_7,.sb 3 9 0 m2_8 c2_8],.arr 30 9 r3 q3],N,some (yj E 0 [.var [.sv none 0 [] 0,.int .i64 0,.int .i64 0]],[])⟩
def xn (E:Env) (Q:QT [Sh.pk,(Sh.int IntKind.i64),Sh.str,Sh.str,(Sh.int IntKind.i64),Sh.dc,Sh.dc,Sh.dc,Sh.dc,(Sh.row (OfNat.ofNat 30) 9),(Sh.sl 0),(Sh.int IntKind.i64),(Sh.int IntKind.i64)]) (N0:Nat) (n1:Int) (a0_0:Option Addr) (e0_0:List D) (c0_0:Nat) (n0_1 n0_2 n1_0:Int) (s1_1 s1_2:ByteArray) (n1_3 n1_4:Int) (a1_5:Option Addr) (e1_5:List D) (c1_5:Nat) (n1_6:Int) (a1_7:Option Addr) (e1_7:List D) (c1_7:Nat) (a1_8:Option Addr) (e1_8:List D) (c1_8:Nat) (n2_0:Int) (s2_1 s2_2:ByteArray) (n2_3 n2_4:Int) (a2_5:Option Addr) (e2_5:List D) (c2_5:Nat) (n2_6:Int) (a2_7:Option Addr) (e2_7:List D) (c2_7 m2_8 c2_8:Nat) (r3:List D) (q3:Nat) (N:Nat):Prop:=AT prog 154 [Sh.pk,(Sh.int IntKind.i64),Sh.str,Sh.str,(Sh.int IntKind.i64),Sh.dc,Sh.dc,Sh.dc,Sh.dc,(Sh.row (OfNat.ofNat 30) 9),(Sh.sl 0),(Sh.int IntKind.i64),(Sh.int IntKind.i64)] Q N0 (.io E [.var [.sv none 0 [] 0,.int .i64 0,.int .i64 0]]) (qT prog 154 16) ⟨.pb 0 0 0 0::.int .i64 n1::an 2 (.pb 1 0 0 0::.pb 2 0 0 0::an 68 []),[.var [.sv a0_0 0 e0_0 c0_0,.int .i64 n0_1,.int .i64 n0_2],.var [.int .i64 n1_0,.str s1_1,.str s1_2,.int .i64 n1_3,.int .i64 n1_4,.sv a1_5 2 e1_5 c1_5,.int .i64 n1_6,.sv a1_7 2 e1_7 c1_7,.sv a1_8 9 e1_8 c1_8],.var [.int .i64 n2_0,.str s2_1,.str s2_2,.int .i64 n2_3,.int .i64 n2_4,.sv a2_5 2 e2_5 c2_5,.int .i64 n2_6,.sv a2_7 2 e2_7 c2_7,.sb 3 9 0 m2_8 c2_8],.arr 30 9 r3 q3],N,some (yj E 0 [.var [.sv none 0 [] 0,.int .i64 0,.int .i64 0]],[])⟩
def xw (E:Env) (Q:QT [Sh.pk,(Sh.int IntKind.i64),Sh.str,Sh.str,(Sh.int IntKind.i64),Sh.dc,Sh.dc,Sh.dc,Sh.dc,(Sh.row (OfNat.ofNat 30) 9),(Sh.sl 0),(Sh.int IntKind.i64),(Sh.int IntKind.i64)]) (N0:Nat) (n1 n6 n7:Int) (a0_0:Option Addr) (e0_0:List D) (c0_0:Nat) (n0_1 n0_2 n1_0:Int) (s1_1 s1_2:ByteArray) (n1_3 n1_4:Int) (a1_5:Option Addr) (e1_5:List D) (c1_5:Nat) (n1_6:Int) (a1_7:Option Addr) (e1_7:List D) (c1_7:Nat) (a1_8:Option Addr) (e1_8:List D) (c1_8:Nat) (n2_0:Int) (s2_1 s2_2:ByteArray) (n2_3:Int) (x2_4 x2_5 x2_6 x2_7:D) (m2_8 c2_8:Nat) (r3:List D) (q3:Nat) (N:Nat):Prop:=AT prog 154 [Sh.pk,(Sh.int IntKind.i64),Sh.str,Sh.str,(Sh.int IntKind.i64),Sh.dc,Sh.dc,Sh.dc,Sh.dc,(Sh.row (OfNat.ofNat 30) 9),(Sh.sl 0),(Sh.int IntKind.i64),(Sh.int IntKind.i64)] Q N0 (.io E [.var [.sv none 0 [] 0,.int .i64 0,.int .i64 0]]) (zF prog 154 18) ⟨.pb 0 0 0 0::.int .i64 n1::an 2 (.pb 1 0 0 0::.pb 2 0 0 0::.int .i64 n6::.int .i64 n7::an 66 []),[.var [.sv a0_0 0 e0_0 c0_0,.int .i64 n0_1,.int .i64 n0_2],.var [.int .i64 n1_0,.str s1_1,.str s1_2,.int .i64 n1_3,.int .i64 n1_4,.sv a1_5 2 e1_5 c1_5,.int .i64 n1_6,.sv a1_7 2 e1_7 c1_7,.sv a1_8 9 e1_8 c1_8],.var [.int .i64 n2_0,.str s2_1,.str s2_2,.int .i64 n2_3,.dc x2_4,.dc x2_5,.dc x2_6,.dc x2_7,.sb 3 9 0 m2_8 c2_8],.arr 30 9 r3 q3],N,some (yj E 0 [.var [.sv none 0 [] 0,.int .i64 0,.int .i64 0]],[])⟩
def yv (E:Env) (Q:QT [Sh.pk,(Sh.int IntKind.i64),Sh.str,Sh.str,(Sh.int IntKind.i64),Sh.dc,Sh.dc,Sh.dc,Sh.dc,(Sh.row (OfNat.ofNat 30) 9),(Sh.sl 0),(Sh.int IntKind.i64),(Sh.int IntKind.i64)]) (N0:Nat) (n1 n6 n7:Int) (a0_0:Option Addr) (e0_0:List D) (c0_0:Nat) (n0_1 n0_2 n1_0:Int) (s1_1 s1_2:ByteArray) (n1_3 n1_4:Int) (a1_5:Option Addr) (e1_5:List D) (c1_5:Nat) (n1_6:Int) (a1_7:Option Addr) (e1_7:List D) (c1_7:Nat) (a1_8:Option Addr) (e1_8:List D) (c1_8:Nat) (n2_0:Int) (s2_1 s2_2:ByteArray) (n2_3:Int) (x2_4 x2_5:D) (n2_6:Int) (a2_7:Option Addr) (e2_7:List D) (c2_7 m2_8 c2_8:Nat) (r3:List D) (q3:Nat) (N:Nat):Prop:=AT prog 154 [Sh.pk,(Sh.int IntKind.i64),Sh.str,Sh.str,(Sh.int IntKind.i64),Sh.dc,Sh.dc,Sh.dc,Sh.dc,(Sh.row (OfNat.ofNat 30) 9),(Sh.sl 0),(Sh.int IntKind.i64),(Sh.int IntKind.i64)] Q N0 (.io E [.var [.sv none 0 [] 0,.int .i64 0,.int .i64 0]]) (zF prog 154 18) ⟨.pb 0 0 0 0::.int .i64 n1::an 2 (.pb 1 0 0 0::.pb 2 0 0 0::.int .i64 n6::.int .i64 n7::an 66 []),[.var [.sv a0_0 0 e0_0 c0_0,.int .i64 n0_1,.int .i64 n0_2],.var [.int .i64 n1_0,.str s1_1,.str s1_2,.int .i64 n1_3,.int .i64 n1_4,.sv a1_5 2 e1_5 c1_5,.int .i64 n1_6,.sv a1_7 2 e1_7 c1_7,.sv a1_8 9 e1_8 c1_8],.var [.int .i64 n2_0,.str s2_1,.str s2_2,.int .i64 n2_3,.dc x2_4,.dc x2_5,.int .i64 n2_6,.sv a2_7 2 e2_7 c2_7,.sb 3 9 0 m2_8 c2_8],.arr 30 9 r3 q3],N,some (yj E 0 [.var [.sv none 0 [] 0,.int .i64 0,.int .i64 0]],[])⟩
def yn (E:Env) (Q:QT [Sh.pk,(Sh.int IntKind.i64),Sh.str,Sh.str,(Sh.int IntKind.i64),Sh.dc,Sh.dc,Sh.dc,Sh.dc,(Sh.row (OfNat.ofNat 30) 9),(Sh.sl 0),(Sh.int IntKind.i64),(Sh.int IntKind.i64)]) (N0:Nat) (n1 n6 n7:Int) (a0_0:Option Addr) (e0_0:List D) (c0_0:Nat) (n0_1 n0_2 n1_0:Int) (s1_1 s1_2:ByteArray) (n1_3 n1_4:Int) (a1_5:Option Addr) (e1_5:List D) (c1_5:Nat) (n1_6:Int) (a1_7:Option Addr) (e1_7:List D) (c1_7:Nat) (a1_8:Option Addr) (e1_8:List D) (c1_8:Nat) (n2_0:Int) (s2_1 s2_2:ByteArray) (n2_3 n2_4:Int) (a2_5:Option Addr) (e2_5:List D) (c2_5:Nat) (x2_6 x2_7:D) (m2_8 c2_8:Nat) (r3:List D) (q3:Nat) (N:Nat):Prop:=AT prog 154 [Sh.pk,(Sh.int IntKind.i64),Sh.str,Sh.str,(Sh.int IntKind.i64),Sh.dc,Sh.dc,Sh.dc,Sh.dc,(Sh.row (OfNat.ofNat 30) 9),(Sh.sl 0),(Sh.int IntKind.i64),(Sh.int IntKind.i64)] Q N0 (.io E [.var [.sv none 0 [] 0,.int .i64 0,.int .i64 0]]) (zF prog 154 18) ⟨.pb 0 0 0 0::.int .i64 n1::an 2 (.pb 1 0 0 0::.pb 2 0 0 0::.int .i64 n6::.int .i64 n7::an 66 []),[.var [.sv a0_0 0 e0_0 c0_0,.int .i64 n0_1,.int .i64 n0_2],.var [.int .i64 n1_0,.str s1_1,.str s1_2,.int .i64 n1_3,.int .i64 n1_4,.sv a1_5 2 e1_5 c1_5,.int .i64 n1_6,.sv a1_7 2 e1_7 c1_7,.sv a1_8 9 e1_8 c1_8],.var [.int .i64 n2_0,.str s2_1,.str s2_2,.int .i64 n2_3,.int .i64 n2_4,.sv a2_5 2 e2_5 c2_5,.dc x2_6,.dc x2_7,.sb 3 9 0 m2_8 c2_8],.arr 30 9 r3 q3],N,some (yj E 0 [.var [.sv none 0 [] 0,.int .i64 0,.int .i64 0]],[])⟩
def ym (E:Env) (Q:QT [Sh.pk,(Sh.int IntKind.i64),Sh.str,Sh.str,(Sh.int IntKind.i64),Sh.dc,Sh.dc,Sh.dc,Sh.dc,(Sh.row (OfNat.ofNat 30) 9),(Sh.sl 0),(Sh.int IntKind.i64),(Sh.int IntKind.i64)]) (N0:Nat) (n1 n6 n7:Int) (a0_0:Option Addr) (e0_0:List D) (c0_0:Nat) (n0_1 n0_2 n1_0:Int) (s1_1 s1_2:ByteArray) (n1_3 n1_4:Int) (a1_5:Option Addr) (e1_5:List D) (c1_5:Nat) (n1_6:Int) (a1_7:Option Addr) (e1_7:List D) (c1_7:Nat) (a1_8:Option Addr) (e1_8:List D) (c1_8:Nat) (n2_0:Int) (s2_1 s2_2:ByteArray) (n2_3 n2_4:Int) (a2_5:Option Addr) (e2_5:List D) (c2_5:Nat) (n2_6:Int) (a2_7:Option Addr) (e2_7:List D) (c2_7 m2_8 c2_8:Nat) (r3:List D) (q3:Nat) (N:Nat):Prop:=AT prog 154 [Sh.pk,(Sh.int IntKind.i64),Sh.str,Sh.str,(Sh.int IntKind.i64),Sh.dc,Sh.dc,Sh.dc,Sh.dc,(Sh.row (OfNat.ofNat 30) 9),(Sh.sl 0),(Sh.int IntKind.i64),(Sh.int IntKind.i64)] Q N0 (.io E [.var [.sv none 0 [] 0,.int .i64 0,.int .i64 0]]) (zF prog 154 18) ⟨.pb 0 0 0 0::.int .i64 n1::an 2 (.pb 1 0 0 0::.pb 2 0 0 0::.int .i64 n6::.int .i64 n7::an 66 []),[.var [.sv a0_0 0 e0_0 c0_0,.int .i64 n0_1,.int .i64 n0_2],.var [.int .i64 n1_0,.str s1_1,.str s1_2,.int .i64 n1_3,.int .i64 n1_4,.sv a1_5 2 e1_5 c1_5,.int .i64 n1_6,.sv a1_7 2 e1_7 c1_7,.sv a1_8 9 e1_8 c1_8],.var [.int .i64 n2_0,.str s2_1,.str s2_2,.int .i64 n2_3,.int .i64 n2_4,.sv a2_5 2 e2_5 c2_5,.int .i64 n2_6,.sv a2_7 2 e2_7 c2_7,.sb 3 9 0 m2_8 c2_8],.arr 30 9 r3 q3],N,some (yj E 0 [.var [.sv none 0 [] 0,.int .i64 0,.int .i64 0]],[])⟩
theorem zDd (N:Nat) (n0:Int) (Q:QT [.pk,.int .i64,.str,.str,.int .i64,.dc,.dc,.dc,.dc,.row 30 9]) (h :
∀ a,N<=a->Q 2 (bytes []) (bytes []) n0 (D.lit (.int .i64 0)) (D.sl Option.none 2 [] 0) (D.lit (.int .i64 0)) (D.sl Option.none 2 [] 0) [] 0 a):ACalls prog 204 [.pk,.int .i64,.str,.str,.int .i64,.dc,.dc,.dc,.dc,.row 30 9] [PV.int .i64 n0] N Q:=
  zPW (H:=zD1) (by kernel_rfl) (by kernel_rfl) h
theorem zB0 (N:Nat) (n0:Int) (Q:QT [.pk,.int .i64,.str,.str,.int .i64,.dc,.dc,.dc,.dc,.row 30 9]) (h :
∀ a,N<=a->Q 3 (bytes []) (bytes []) n0 (D.lit (.int .i64 0)) (D.sl Option.none 2 [] 0) (D.lit (.int .i64 0)) (D.sl Option.none 2 [] 0) [] 0 a):ACalls prog 205 [.pk,.int .i64,.str,.str,.int .i64,.dc,.dc,.dc,.dc,.row 30 9] [PV.int .i64 n0] N Q:=
  zPW (H:=zBz) (by kernel_rfl) (by kernel_rfl) h
theorem rT (N:Nat) (s0:ByteArray) (Q:QT [.pk,.int .i64,.str,.str,.int .i64,.dc,.dc,.dc,.dc,.row 30 9]) (h :
∀ a,N<=a->Q 1 s0 (bytes []) 0 (D.lit (.int .i64 0)) (D.sl Option.none 2 [] 0) (D.lit (.int .i64 0)) (D.sl Option.none 2 [] 0) [] 0 a):ACalls prog 155 [.pk,.int .i64,.str,.str,.int .i64,.dc,.dc,.dc,.dc,.row 30 9] [PV.str s0] N Q:=
  zPW (H:=zDw) (by kernel_rfl) (by kernel_rfl) h
theorem tL (N:Nat) (n1:Int) (aB0_0:Option Addr) (eB0_0:List D) (cB0_0:Nat) (nB0_1 nB0_2:Int) (Q:QT [(Sh.ag 2),(Sh.sl 0),(Sh.int IntKind.i64),(Sh.int IntKind.i64)]) (h:∀ E:Env,
Bel N (D.sl aB0_0 0 eB0_0 cB0_0)->Br (decide (n1<2)) (∀ b,N<=b->BCalls prog 63 [.int .i64,.sl 0,.int .i64,.int .i64,.sl 0] [.pb 0 0 0 0,.sb 1 0 0
 3 3] [Bx.var [.sv aB0_0 0 eB0_0 cB0_0,.int .i64 nB0_1,.int .i64 nB0_2],Bx.arr 3 0 [D.lit (.int .i64 1),D.lit (.int .i64 1),D.lit (.int .i64 2)] 3] b (fun
 n a c d e f g h i j=>b<=j->Bel j (D.sl a 0 c d)->Bel j (D.sl g 0 h i)->zO E [.var [.sv none 0 [] 0,.int .i64 0,.int .i64
 0]]/\∀ b,j<=b->Q (D.ag [D.lit (.int .i64 n),D.sl Option.none 2 [] 0]) a c d e f b)) (∀ a,N<=a->BCalls prog 81 [.bool,.sl 0,.int .i64,
 .int .i64] [.pb 0 0 0 0,.int .i64 2] [Bx.var [.sv aB0_0 0 eB0_0 cB0_0,.int .i64 nB0_1,.int .i64 nB0_2]] a (fun b c d e f g h=>a<=h->Bel
 h (D.sl c 0 d e)->Br b (∀ a,h<=a->BCalls prog 63 [.int .i64,.sl 0,.int .i64,.int .i64,.sl 0] [.pb 0 0 0 0,.sb 1 0 0 3 3] [Bx.var [.sv c
 0 d e,.int .i64 f,.int .i64 g],Bx.arr 3 0 [D.lit (.int .i64 1),D.lit (.int .i64 1),D.lit (.int .i64 2)] 3] a (fun b c d e f g h i
 j k=>a<=k->Bel k (D.sl c 0 d e)->Bel k (D.sl h 0 i j)->zO E [.var [.sv none 0 [] 0,.int .i64 0,.int .i64 0]]/\∀ a,k<=a
 -> Q (D.ag [D.lit (.int .i64 b),D.sl Option.none 2 [] 0]) c d e f g a)) (∀ a,h<=a->BCalls prog 81 [.bool,.sl 0,.int .i64,.int .i64] [.pb
 0 0 0 0,.int .i64 2] [Bx.var [.sv c 0 d e,.int .i64 f,.int .i64 g]] a (fun b c d e f g h=>a<=h->Bel h (D.sl c 0 d
 e)->Br b (∀ a,h<=a->BCalls prog 93 [.ag 2,.sl 0,.int .i64,.int .i64] [.pb 0 0 0 0,.int .i64 (IntKind.i64.wrap (n1 - 1))] [Bx.var [.sv c 0
 d e,.int .i64 f,.int .i64 g]] a (fun x b c d e f g=>a<=g->Bel g x->Bel g (D.sl b 0 c d)->∀ a,g<=a
 -> ACalls prog 152 [.ag 2] [.dg 2 x] a (fun g h=>a<=h->Bel h g->zO E [.var [.sv none 0 [] 0,.int .i64 0,.int .i64 0]]/\∀ a,h <=
 a->Q g b c d e f a))) (∀ a,h<=a->BCalls prog 93 [.ag 2,.sl 0,.int .i64,.int .i64] [.pb 0 0 0 0,.int .i64 (IntKind.i64.wrap
 (n1 - 1))] [Bx.var [.sv c 0 d e,.int .i64 f,.int .i64 g]] a (fun b c d e f g h=>a<=h->Bel h b->Bel h (D.sl c
 0 d e)->∀ a,h<=a->BCalls prog 93 [.ag 2,.sl 0,.int .i64,.int .i64] [.pb 0 0 0 0,.int .i64 (IntKind.i64.wrap (n1 - 1))] [Bx.var [.sv c 0 d
 e,.int .i64 f,.int .i64 g]] a (fun c d e f g h i=>a<=i->Bel i c->Bel i (D.sl d 0 e f)->∀ a,i<=a
 -> ACalls prog 153 [.ag 2] [.dg 2 b,.dg 2 c] a (fun b c=>a<=c->Bel c b->zO E [.var [.sv none 0 [] 0,.int .i64 0,.int .i64 0]]/\∀
 a,c<=a->Q b d e f g h a))))))))):BCalls prog 93 [(Sh.ag 2),(Sh.sl 0),(Sh.int IntKind.i64),(Sh.int IntKind.i64)] [.pb 0 0 0 0,.int .i64 n1] [.var [.sv aB0_0 0 eB0_0 cB0_0,.int .i64 nB0_1,.int .i64 nB0_2]] N Q:=
  zK3 (H:=zFA) (by kernel_rfl) (fun E=>by kernel_rfl) h
theorem zA5 (N:Nat) (aB0_0:Option Addr) (eB0_0:List D) (cB0_0:Nat) (nB0_1 nB0_2:Int) (Q:QT [(Sh.ag 9),(Sh.sl 0),(Sh.int IntKind.i64),(Sh.int IntKind.i64)]) (h:∀ E:Env,
Bel N (D.sl aB0_0 0 eB0_0 cB0_0)->∀ b,N<=b->BCalls prog 61 [.int .i64,.sl 0,.int .i64,.int .i64] [.pb 0 0 0 0,.int .i64 4] [Bx.var [.sv aB0_0 0 eB0_0
 cB0_0,.int .i64 nB0_1,.int .i64 nB0_2]] b (fun n a c d e f g=>b<=g->Bel g (D.sl a 0 c d)->∀ b,g<=b->BCalls prog 154 [Sh.pk,.int
 .i64,.str,.str,.int .i64,Sh.dc,Sh.dc,Sh.dc,Sh.dc,.row (OfNat.ofNat 30) 9,.sl 0,.int .i64,.int .i64] [.pb 0 0 0 0,.int .i64 (IntKind.i64.wrap (1+n))]
 [Bx.var [.sv a 0 c d,.int .i64 e,.int .i64 f]] b (fun a s c d x e f g h i j k l m n o=>b<=o->Bel o (D.sl j 0 k
 l)->Bel o (D.ag h)->∀ b,o<=b->BCalls prog 61 [.int .i64,.sl 0,.int .i64,.int .i64] [.pb 0 0 0 0,.int .i64 14] [Bx.var [.sv j 0 k l,
 .int .i64 m,.int .i64 n]] b (fun j k l m n o p=>b<=p->Bel p (D.sl k 0 l m)->Br (j==0) (∀ a,p<=a->BCalls prog
 61 [.int .i64,.sl 0,.int .i64,.int .i64] [.pb 0 0 0 0,.int .i64 15] [Bx.var [.sv k 0 l m,.int .i64 n,.int .i64 o]] a (fun b j k l m
 n o=>a<=o->Bel o (D.sl j 0 k l)->(h.length=h.length/\i=i)/\(h.length=h.length/\i=i)/\(h.length=h.length
 /\ i=i)/\(h.length=h.length/\i=i)/\∀ a p,o<=p->Fresh N p a [D.ag h,x,e,f,g]->zO E [.var [.sv none 0 [] 0,.int
 .i64 0,.int .i64 0]]/\∀ o,p<=o->Q (D.ag [D.lit (.int .i64 b),D.lit (.string s),D.lit (.string c),D.lit (.int .i64 d),x,e,f,g,D.sl
 a 9 h i]) j k l m n o)) (Br (j==1) (∀ b,p<=b->BCalls prog 63 [.int .i64,.sl 0,.int .i64,.int .i64,.sl 0] [.pb 0 0 0 0,
 .sb 1 0 0 5 5] [Bx.var [.sv k 0 l m,.int .i64 n,.int .i64 o],Bx.arr 3 0 [D.lit (.int .i64 0),D.lit (.int .i64 1),D.lit (.int .i64 10006),D.lit (.int
 .i64 10007),D.lit (.int .i64 (-1))] 5] b (fun d j k l m n o p q r=>b<=r->Bel r (D.sl j 0 k l)->Bel r (D.sl
 o 0 p q)->(h.length=h.length/\i=i)/\(h.length=h.length/\i=i)/\(h.length=h.length/\i=i)/\(h.length=h.length
 /\ i=i)/\∀ b o,r<=o->Fresh N o b [D.ag h,x,e,f,g]->zO E [.var [.sv none 0 [] 0,.int .i64 0,.int .i64 0]]/\∀ p,o
 <= p->Q (D.ag [D.lit (.int .i64 a),D.lit (.string s),D.lit (.string c),D.lit (.int .i64 d),x,e,f,g,D.sl b 9 h i]) j k l m
 n p)) (Br (j==2) (∀ b,p<=b->BCalls prog 132 [.str,.sl 0,.int .i64,.int .i64,.sl 0] [.pb 0 0 0 0,.sb 1 0 0 5 5] [Bx.var [.sv k 0 l
 m,.int .i64 n,.int .i64 o],Bx.arr 9 0 [D.lit (.string (bytes [])),D.lit (.string (bytes [120])),D.lit (.string (bytes [108,101,116])),D.lit (.string
 (bytes [97,98,99,100,101])),D.lit (.string (bytes [43]))] 5] b (fun j k l m n o p q r s=>b<=s->Bel s (D.sl k 0 l
 m)->Bel s (D.sl p 0 q r)->(h.length=h.length/\i=i)/\(h.length=h.length/\i=i)/\(h.length=h.length/\i=i)
 /\ (h.length=h.length/\i=i)/\∀ b p,s<=p->Fresh N p b [D.ag h,x,e,f,g]->zO E [.var [.sv none 0 [] 0,.int .i64
 0,.int .i64 0]]/\∀ q,p<=q->Q (D.ag [D.lit (.int .i64 a),D.lit (.string j),D.lit (.string c),D.lit (.int .i64 d),x,e,f,g,D.sl
 b 9 h i]) k l m n o q)) (Br (j==3) (∀ b,p<=b->ACalls prog 155 [Sh.pk,.int .i64,.str,.str,.int .i64,Sh.dc,Sh.dc,Sh.dc,
 Sh.dc,.row (OfNat.ofNat 30) 9] [.str (bytes [120])] b (fun j p q r t u v w y z A=>b<=A->Bel A (D.ag y)->(y.length
 = y.length/\z=z)/\∀ b B,A<=B->Fresh N B b [D.ag y,t,u,v,w,x,e,f,g,D.ag h]->(h.length=h.length
 /\ i=i)/\zB h [D.ag [D.lit (.int .i64 j),D.lit (.string p),D.lit (.string q),D.lit (.int .i64 r),t,u,v,w,D.sl b 9 y
 z]] 136/\∀ (i:Nat),((h++[D.ag [D.lit (.int .i64 j),D.lit (.string p),D.lit (.string q),D.lit (.int .i64 r),t,u,v,w,D.sl b
 9 y z]]).length=(h++[D.ag [D.lit (.int .i64 j),D.lit (.string p),D.lit (.string q),D.lit (.int .i64 r),t,u,v,w,D.sl b 9
 y z]]).length/\i=i)/\((h++[D.ag [D.lit (.int .i64 j),D.lit (.string p),D.lit (.string q),D.lit (.int .i64 r),t,u,v,w,
 D.sl b 9 y z]]).length=(h++[D.ag [D.lit (.int .i64 j),D.lit (.string p),D.lit (.string q),D.lit (.int .i64 r),t,u,v,w,D.sl
 b 9 y z]]).length/\i=i)/\((h++[D.ag [D.lit (.int .i64 j),D.lit (.string p),D.lit (.string q),D.lit (.int .i64 r),t,u,v,
 w,D.sl b 9 y z]]).length=(h++[D.ag [D.lit (.int .i64 j),D.lit (.string p),D.lit (.string q),D.lit (.int .i64 r),t,u,v,w,
 D.sl b 9 y z]]).length/\i=i)/\((h++[D.ag [D.lit (.int .i64 j),D.lit (.string p),D.lit (.string q),D.lit (.int .i64 r),t,u,
 v,w,D.sl b 9 y z]]).length=(h++[D.ag [D.lit (.int .i64 j),D.lit (.string p),D.lit (.string q),D.lit (.int .i64 r),t,u,v,
 w,D.sl b 9 y z]]).length/\i=i)/\∀ A C,B<=C->Fresh N C A [D.ag (h++[D.ag [D.lit (.int .i64 j),D.lit (.string p),
 D.lit (.string q),D.lit (.int .i64 r),t,u,v,w,D.sl b 9 y z]]),x,e,f,g]->zO E [.var [.sv none 0 [] 0,.int .i64 0,.int .i64
 0]]/\∀ B,C<=B->Q (D.ag [D.lit (.int .i64 a),D.lit (.string s),D.lit (.string c),D.lit (.int .i64 d),x,e,f,g,D.sl A 9 (h ++
 [D.ag [D.lit (.int .i64 j),D.lit (.string p),D.lit (.string q),D.lit (.int .i64 r),t,u,v,w,D.sl b 9 y z]]) i]) k l m
 n o B)) (Br (j==4) (∀ b,p<=b->BCalls prog 156 [.ag 2,.sl 0,.int .i64,.int .i64] [.pb 0 0 0 0] [Bx.var [.sv k 0 l m,.int .i64 n,
 .int .i64 o]] b (fun e j k l m n o=>b<=o->Bel o e->Bel o (D.sl j 0 k l)->(h.length=h.length/\i
 = i)/\(h.length=h.length/\i=i)/\(h.length=h.length/\i=i)/\(h.length=h.length/\i=i)/\∀ b p,o<=p ->
 Fresh N p b [D.ag h,(e.cell 0),(e.cell 1),f,g]->zO E [.var [.sv none 0 [] 0,.int .i64 0,.int .i64 0]]/\∀ o,p<=o->Q (D.ag [D.lit
 (.int .i64 a),D.lit (.string s),D.lit (.string c),D.lit (.int .i64 d),(e.cell 0),(e.cell 1),f,g,D.sl b 9 h i]) j k l m
 n o)) (Br (j==5) (∀ b,p<=b->BCalls prog 132 [.str,.sl 0,.int .i64,.int .i64,.sl 0] [.pb 0 0 0 0,.sb 1 0 0 2 2] [Bx.var [.sv k 0 l
 m,.int .i64 n,.int .i64 o],Bx.arr 9 0 [D.lit (.string (bytes [120])),D.lit (.string (bytes [122]))] 2] b (fun c j k l m n o p
 q r=>b<=r->Bel r (D.sl j 0 k l)->Bel r (D.sl o 0 p q)->(h.length=h.length/\i=i)/\(h.length=h.length
 /\ i=i)/\(h.length=h.length/\i=i)/\(h.length=h.length/\i=i)/\∀ b o,r<=o->Fresh N o b [D.ag h,x,e,
 f,g]->zO E [.var [.sv none 0 [] 0,.int .i64 0,.int .i64 0]]/\∀ p,o<=p->Q (D.ag [D.lit (.int .i64 a),D.lit (.string s),D.lit (.string c),
 D.lit (.int .i64 d),x,e,f,g,D.sl b 9 h i]) j k l m n p)) ((h.length=h.length/\i=i)/\(h.length=h.length
 /\ i=i)/\(h.length=h.length/\i=i)/\(h.length=h.length/\i=i)/\∀ b j,p<=j->Fresh N j b [D.ag h,x,e,
 f,g]->zO E [.var [.sv none 0 [] 0,.int .i64 0,.int .i64 0]]/\∀ p,j<=p->Q (D.ag [D.lit (.int .i64 a),D.lit (.string s),D.lit (.string c),
 D.lit (.int .i64 d),x,e,f,g,D.sl b 9 h i]) k l m n o p)))))))))):BCalls prog 90 [(Sh.ag 9),(Sh.sl 0),(Sh.int IntKind.i64),(Sh.int IntKind.i64)] [.pb 0 0 0 0] [.var [.sv aB0_0 0 eB0_0 cB0_0,.int .i64 nB0_1,.int .i64 nB0_2]] N Q:=
  zK3 (H:=zGW) (by kernel_rfl) (fun E=>by kernel_rfl) h
theorem sQ (N:Nat) (n1:Int) (aB0_0:Option Addr) (eB0_0:List D) (cB0_0:Nat) (nB0_1 nB0_2:Int) (Q:QT [Sh.pk,(Sh.int IntKind.i64),Sh.str,Sh.str,(Sh.int IntKind.i64),Sh.dc,Sh.dc,Sh.dc,Sh.dc,(Sh.row (OfNat.ofNat 30) 9),(Sh.sl 0),(Sh.int IntKind.i64),(Sh.int IntKind.i64)]) (h:∀ E:Env,
Bel N (D.sl aB0_0 0 eB0_0 cB0_0)->Br (decide (n1<2)) (∀ b,N<=b->BCalls prog 203 [Sh.pk,.int .i64,.str,.str,.int .i64,Sh.dc,Sh.dc,Sh.dc,Sh.dc,.row
 (OfNat.ofNat 30) 9,.sl 0,.int .i64,.int .i64] [.pb 0 0 0 0] [Bx.var [.sv aB0_0 0 eB0_0 cB0_0,.int .i64 nB0_1,.int .i64 nB0_2]] b (fun n s a c x d e
 f g h i j k l m o=>b<=o->Bel o (D.sl i 0 j k)->Bel o (D.ag g)->zO E [.var [.sv none 0 [] 0,.int .i64 0,.int .i64 0]]/\(g.length
 = g.length/\h=h)/\∀ b,o<=b->Q n s a c x d e f g h i j k l m b)) (∀ a,N<=a->BCalls prog 81 [.bool,.sl 0,.int .i64,.int
 .i64] [.pb 0 0 0 0,.int .i64 5] [Bx.var [.sv aB0_0 0 eB0_0 cB0_0,.int .i64 nB0_1,.int .i64 nB0_2]] a (fun b c d e f g h=>a<=h->Bel h
 (D.sl c 0 d e)->Br b (∀ a,h<=a->BCalls prog 203 [Sh.pk,.int .i64,.str,.str,.int .i64,Sh.dc,Sh.dc,Sh.dc,Sh.dc,.row (OfNat.ofNat 30) 9,.sl
 0,.int .i64,.int .i64] [.pb 0 0 0 0] [Bx.var [.sv c 0 d e,.int .i64 f,.int .i64 g]] a (fun b c d e f g h i j k l m n
 o p q=>a<=q->Bel q (D.sl l 0 m n)->Bel q (D.ag j)->zO E [.var [.sv none 0 [] 0,.int .i64 0,.int .i64 0]]/\(j.length=j.length
 /\ k=k)/\∀ a,q<=a->Q b c d e f g h i j k l m n o p a)) (∀ a,h<=a->BCalls prog 63 [.int .i64,.sl 0,.int
 .i64,.int .i64,.sl 0] [.pb 0 0 0 0,.sb 1 0 0 12 12] [Bx.var [.sv c 0 d e,.int .i64 f,.int .i64 g],Bx.arr 3 0 [D.lit (.int .i64 4),D.lit (.int .i64
 5),D.lit (.int .i64 6),D.lit (.int .i64 7),D.lit (.int .i64 8),D.lit (.int .i64 9),D.lit (.int .i64 10),D.lit (.int .i64 11),D.lit (.int .i64 12),D.lit (.int
 .i64 13),D.lit (.int .i64 10),D.lit (.int .i64 4)] 12] a (fun b c d e f g h i j k=>a<=k->Bel k (D.sl c 0 d e) ->
 Bel k (D.sl h 0 i j)->Br (b==4) (∀ a,k<=a->BCalls prog 132 [.str,.sl 0,.int .i64,.int .i64,.sl 0] [.pb 0 0 0 0,.sb 1 0 0 8 8] [Bx.var
 [.sv c 0 d e,.int .i64 f,.int .i64 g],Bx.arr 9 0 [D.lit (.string (bytes [43])),D.lit (.string (bytes [45])),D.lit (.string (bytes [42])),D.lit
 (.string (bytes [61])),D.lit (.string (bytes [60])),D.lit (.string (bytes [38])),D.lit (.string (bytes [124])),D.lit (.string (bytes [33]))] 8] a (fun c
 d e f g h i j k l=>a<=l->Bel l (D.sl d 0 e f)->Bel l (D.sl i 0 j k)->zq E Q N n1 d e f
 g h 0 (bytes []) (bytes []) 0 0 Option.none [] 0 0 Option.none [] 0 Option.none [] 0 b c (bytes []) 0 0 Option.none [] 0 0 Option.none [] 0 0 0 [] 0 l))
 (Br (b==6) (∀ a,k<=a->BCalls prog 132 [.str,.sl 0,.int .i64,.int .i64,.sl 0] [.pb 0 0 0 0,.sb 1 0 0 3 3] [Bx.var [.sv c 0 d e,.int
 .i64 f,.int .i64 g],Bx.arr 9 0 [D.lit (.string (bytes [120])),D.lit (.string (bytes [121])),D.lit (.string (bytes [102]))] 3] a (fun c d e f
 g h i j k l=>a<=l->Bel l (D.sl d 0 e f)->Bel l (D.sl i 0 j k)->zq E Q N n1 d e f g h
 0 (bytes []) (bytes []) 0 0 Option.none [] 0 0 Option.none [] 0 Option.none [] 0 b c (bytes []) 0 0 Option.none [] 0 0 Option.none [] 0 0 0 [] 0 l)) (Br
 (b==8) (∀ a,k<=a->BCalls prog 132 [.str,.sl 0,.int .i64,.int .i64,.sl 0] [.pb 0 0 0 0,.sb 1 0 0 3 3] [Bx.var [.sv c 0 d e,.int .i64
 f,.int .i64 g],Bx.arr 9 0 [D.lit (.string (bytes [120])),D.lit (.string (bytes [121])),D.lit (.string (bytes [102]))] 3] a (fun c d e f g
 h i j k l=>a<=l->Bel l (D.sl d 0 e f)->Bel l (D.sl i 0 j k)->zq E Q N n1 d e f g h
 0 (bytes []) (bytes []) 0 0 Option.none [] 0 0 Option.none [] 0 Option.none [] 0 b c (bytes []) 0 0 Option.none [] 0 0 Option.none [] 0 0 0 [] 0 l)) (Br
 (b==9) (∀ a,k<=a->BCalls prog 132 [.str,.sl 0,.int .i64,.int .i64,.sl 0] [.pb 0 0 0 0,.sb 1 0 0 3 3] [Bx.var [.sv c 0 d e,.int .i64
 f,.int .i64 g],Bx.arr 9 0 [D.lit (.string (bytes [120])),D.lit (.string (bytes [121])),D.lit (.string (bytes [102]))] 3] a (fun c d e f
 g h i j k l=>a<=l->Bel l (D.sl d 0 e f)->Bel l (D.sl i 0 j k)->zq E Q N n1 d e f
 g h 0 (bytes []) (bytes []) 0 0 Option.none [] 0 0 Option.none [] 0 Option.none [] 0 b c (bytes []) 0 0 Option.none [] 0 0 Option.none [] 0 0 0 [] 0 l))
 (zq E Q N n1 c d e f g 0 (bytes []) (bytes []) 0 0 Option.none [] 0 0 Option.none [] 0 Option.none [] 0 b (bytes []) (bytes []) 0 0
 Option.none [] 0 0 Option.none [] 0 0 0 [] 0 k))))))))):BCalls prog 154 [Sh.pk,(Sh.int IntKind.i64),Sh.str,Sh.str,(Sh.int IntKind.i64),Sh.dc,Sh.dc,Sh.dc,Sh.dc,(Sh.row (OfNat.ofNat 30) 9),(Sh.sl 0),(Sh.int IntKind.i64),(Sh.int IntKind.i64)] [.pb 0 0 0 0,.int .i64 n1] [.var [.sv aB0_0 0 eB0_0 cB0_0,.int .i64 nB0_1,.int .i64 nB0_2]] N Q:=
  zK3 (H:=zf) (by kernel_rfl) (fun E=>by kernel_rfl) h
theorem zA7 (N:Nat) (aB0_0:Option Addr) (eB0_0:List D) (cB0_0:Nat) (nB0_1 nB0_2:Int) (Q:QT [(Sh.ag 2),(Sh.sl 0),(Sh.int IntKind.i64),(Sh.int IntKind.i64)]) (h:∀ E:Env,
Bel N (D.sl aB0_0 0 eB0_0 cB0_0)->∀ b,N<=b->BCalls prog 93 [.ag 2,.sl 0,.int .i64,.int .i64] [.pb 0 0 0 0,.int .i64 4] [Bx.var [.sv aB0_0 0 eB0_0 cB0_0,
 .int .i64 nB0_1,.int .i64 nB0_2]] b (fun x a c d n e f=>b<=f->Bel f x->Bel f (D.sl a 0 c d)->∀ b,f<=b->BCalls prog 61 [.int .i64,
 .sl 0,.int .i64,.int .i64] [.pb 0 0 0 0,.int .i64 10] [Bx.var [.sv a 0 c d,.int .i64 n,.int .i64 e]] b (fun a c d e f g h=>b<=h ->
 Bel h (D.sl c 0 d e)->Br (a==0) (∀ a,h<=a->BCalls prog 61 [.int .i64,.sl 0,.int .i64,.int .i64] [.pb 0 0 0 0,.int .i64 6] [Bx.var [.sv
 c 0 d e,.int .i64 f,.int .i64 g]] a (fun b c d e f g h=>a<=h->Bel h (D.sl c 0 d e)->zO E [.var [.sv none 0 [] 0,
 .int .i64 0,.int .i64 0]]/\∀ a,h<=a->Q (D.ag [D.lit (.int .i64 b),(x.cell 1)]) c d e f g a)) (Br (a==1) (∃ a b,∃ i:Nat,
 (x.cell 1)=D.sl a 2 b i/\∀ j,h<=j->ACalls prog 130 [.ag 2] [] j (fun h k=>j<=k->Bel k h->zOR a b i [h]/\zB
 b [h] 32/\∀ (a:Nat),((b++[h]).length=(b++[h]).length/\a=a)/\((b++[h]).length=(b++[h]).length/\a=a)/\((b
 ++ [h]).length=(b++[h]).length/\a=a)/\((b++[h]).length=(b++[h]).length/\a=a)/\∀ i j,k<=j->Fresh N j i
 [D.ag (b++[h]),(x.cell 0)]->zO E [.var [.sv none 0 [] 0,.int .i64 0,.int .i64 0]]/\∀ k,j<=k->Q (D.ag [(x.cell 0),D.sl i 2 (b++[h])
 a]) c d e f g k)) (Br (a==2) (∀ a,h<=a->BCalls prog 61 [.int .i64,.sl 0,.int .i64,.int .i64] [.pb 0 0 0 0,.int .i64 6] [Bx.var
 [.sv c 0 d e,.int .i64 f,.int .i64 g]] a (fun b c d e f g h=>a<=h->Bel h (D.sl c 0 d e)->xX E
 Q N (IntKind.i64.wrap (1+b)) 0 c d e f g 0 Option.none [] 0 x h)) (Br (a==3) (xW E Q N 0 c d e f g 0 Option.none
 [] 0 x h) (zO E [.var [.sv none 0 [] 0,.int .i64 0,.int .i64 0]]/\∀ a,h<=a->Q x c d e f g a))))))):BCalls prog 156 [(Sh.ag 2),(Sh.sl 0),(Sh.int IntKind.i64),(Sh.int IntKind.i64)] [.pb 0 0 0 0] [.var [.sv aB0_0 0 eB0_0 cB0_0,.int .i64 nB0_1,.int .i64 nB0_2]] N Q:=
  zK3 (H:=uo) (by kernel_rfl) (fun E=>by kernel_rfl) h
theorem zBV (N:Nat) (aB0_0:Option Addr) (eB0_0:List D) (cB0_0:Nat) (nB0_1 nB0_2:Int) (Q:QT [Sh.pk,(Sh.int IntKind.i64),Sh.str,Sh.str,(Sh.int IntKind.i64),Sh.dc,Sh.dc,Sh.dc,Sh.dc,(Sh.row (OfNat.ofNat 30) 9),(Sh.sl 0),(Sh.int IntKind.i64),(Sh.int IntKind.i64)]) (h:∀ E:Env,
Bel N (D.sl aB0_0 0 eB0_0 cB0_0)->∀ b,N<=b->BCalls prog 61 [.int .i64,.sl 0,.int .i64,.int .i64] [.pb 0 0 0 0,.int .i64 4] [Bx.var [.sv aB0_0 0 eB0_0
 cB0_0,.int .i64 nB0_1,.int .i64 nB0_2]] b (fun n a c d e f g=>b<=g->Bel g (D.sl a 0 c d)->Br (n==0) (∀ b,g<=b->BCalls prog 63 [.int
 .i64,.sl 0,.int .i64,.int .i64,.sl 0] [.pb 0 0 0 0,.sb 1 0 0 5 5] [Bx.var [.sv a 0 c d,.int .i64 e,.int .i64 f],Bx.arr 3 0 [D.lit (.int .i64 0),D.lit
 (.int .i64 1),D.lit (.int .i64 2),D.lit (.int .i64 3),D.lit (.int .i64 10006)] 5] b (fun a c d e f g h i j k=>b<=k->Bel k (D.sl
 c 0 d e)->Bel k (D.sl h 0 i j)->∀ b,k<=b->ACalls prog 204 [Sh.pk,.int .i64,.str,.str,.int .i64,Sh.dc,Sh.dc,Sh.dc,Sh.dc,.row (OfNat.ofNat
 30) 9] [.int .i64 a] b (fun a s h i x j k l m n o=>b<=o->Bel o (D.ag m)->zO E [.var [.sv none 0 [] 0,.int .i64 0,.int .i64
 0]]/\(m.length=m.length/\n=n)/\∀ b,o<=b->Q a s h i x j k l m n c d e f g b))) (Br (n==1) (∀ b,g <=
 b->BCalls prog 61 [.int .i64,.sl 0,.int .i64,.int .i64] [.pb 0 0 0 0,.int .i64 2] [Bx.var [.sv a 0 c d,.int .i64 e,.int .i64 f]] b (fun a c d
 e f g h=>b<=h->Bel h (D.sl c 0 d e)->∀ b,h<=b->ACalls prog 205 [Sh.pk,.int .i64,.str,.str,.int .i64,Sh.dc,Sh.dc,Sh.dc,
 Sh.dc,.row (OfNat.ofNat 30) 9] [.int .i64 a] b (fun a h i j k l m n o p q=>b<=q->Bel q (D.ag o)->zO E [.var [.sv
 none 0 [] 0,.int .i64 0,.int .i64 0]]/\(o.length=o.length/\p=p)/\∀ b,q<=b->Q a h i j k l m n o p c d e
 f g b))) (∀ b,g<=b->BCalls prog 132 [.str,.sl 0,.int .i64,.int .i64,.sl 0] [.pb 0 0 0 0,.sb 1 0 0 3 3] [Bx.var [.sv a 0 c d,.int .i64 e,
 .int .i64 f],Bx.arr 9 0 [D.lit (.string (bytes [120])),D.lit (.string (bytes [121])),D.lit (.string (bytes [102]))] 3] b (fun a c d e f g
 h i j k=>b<=k->Bel k (D.sl c 0 d e)->Bel k (D.sl h 0 i j)->∀ b,k<=b->ACalls prog 155 [Sh.pk,.int .i64,.str,
 .str,.int .i64,Sh.dc,Sh.dc,Sh.dc,Sh.dc,.row (OfNat.ofNat 30) 9] [.str a] b (fun a h i j k l m n o p q=>b<=q->Bel
 q (D.ag o)->zO E [.var [.sv none 0 [] 0,.int .i64 0,.int .i64 0]]/\(o.length=o.length/\p=p)/\∀ b,q<=b->Q a h i j
 k l m n o p c d e f g b)))))):BCalls prog 203 [Sh.pk,(Sh.int IntKind.i64),Sh.str,Sh.str,(Sh.int IntKind.i64),Sh.dc,Sh.dc,Sh.dc,Sh.dc,(Sh.row (OfNat.ofNat 30) 9),(Sh.sl 0),(Sh.int IntKind.i64),(Sh.int IntKind.i64)] [.pb 0 0 0 0] [.var [.sv aB0_0 0 eB0_0 cB0_0,.int .i64 nB0_1,.int .i64 nB0_2]] N Q:=
  zK3 (H:=zFU) (by kernel_rfl) (fun E=>by kernel_rfl) h
theorem zBp (E:Env) (Q:QT [Sh.pk,(Sh.int IntKind.i64),Sh.str,Sh.str,(Sh.int IntKind.i64),Sh.dc,Sh.dc,Sh.dc,Sh.dc,(Sh.row (OfNat.ofNat 30) 9),(Sh.sl 0),(Sh.int IntKind.i64),(Sh.int IntKind.i64)]) (N0:Nat) (n1:Int) (a0_0:Option Addr) (e0_0:List D) (c0_0:Nat) (n0_1 n0_2 n1_0:Int) (s1_1 s1_2:ByteArray) (n1_3 n1_4:Int) (a1_5:Option Addr) (e1_5:List D) (c1_5:Nat) (n1_6:Int) (a1_7:Option Addr) (e1_7:List D) (c1_7:Nat) (a1_8:Option Addr) (e1_8:List D) (c1_8:Nat) (n2_0:Int) (s2_1 s2_2:ByteArray) (n2_3 n2_4:Int) (a2_5:Option Addr) (e2_5:List D) (c2_5:Nat) (n2_6:Int) (a2_7:Option Addr) (e2_7:List D) (c2_7 m2_8 c2_8:Nat) (r3:List D) (q3:Nat) (N:Nat) (h :
Br (n2_0==6) (∀ b,N<=b->BCalls prog 93 [.ag 2,.sl 0,.int .i64,.int .i64] [.pb 0 0 0 0,.int .i64 2] [Bx.var [.sv a0_0 0 e0_0 c0_0,.int .i64 n0_1,.int
 .i64 n0_2]] b (fun x a c d n e f=>b<=f->Bel f x->Bel f (D.sl a 0 c d)->xl E Q N0 n1 a c d n e n1_0 s1_1 s1_2 n1_3 n1_4 a1_5
 e1_5 c1_5 n1_6 a1_7 e1_7 c1_7 a1_8 e1_8 c1_8 n2_0 s2_1 s2_2 n2_3 (x.cell 0) (x.cell 1) n2_6 a2_7 e2_7 c2_7 m2_8 c2_8 r3 q3 f)) (Br (n2_0==9) (∀ a,N<=a
 -> BCalls prog 93 [.ag 2,.sl 0,.int .i64,.int .i64] [.pb 0 0 0 0,.int .i64 2] [Bx.var [.sv a0_0 0 e0_0 c0_0,.int .i64 n0_1,.int .i64 n0_2]] a (fun b c
 d e f g h=>a<=h->Bel h b->Bel h (D.sl c 0 d e)->xl E Q N0 n1 c d e f g n1_0 s1_1 s1_2 n1_3 n1_4 a1_5 e1_5
 c1_5 n1_6 a1_7 e1_7 c1_7 a1_8 e1_8 c1_8 n2_0 s2_1 s2_2 n2_3 (b.cell 0) (b.cell 1) n2_6 a2_7 e2_7 c2_7 m2_8 c2_8 r3 q3 h)) (wE E Q N0 n1 a0_0
 e0_0 c0_0 n0_1 n0_2 n1_0 s1_1 s1_2 n1_3 n1_4 a1_5 e1_5 c1_5 n1_6 a1_7 e1_7 c1_7 a1_8 e1_8 c1_8 n2_0 s2_1 s2_2 n2_3 n2_4 a2_5 e2_5 c2_5 n2_6 a2_7 e2_7 c2_7 m2_8 c2_8
 r3 q3 N))):zq E Q N0 n1 a0_0 e0_0 c0_0 n0_1 n0_2 n1_0 s1_1 s1_2 n1_3 n1_4 a1_5 e1_5 c1_5 n1_6 a1_7 e1_7 c1_7 a1_8 e1_8 c1_8 n2_0 s2_1 s2_2 n2_3 n2_4 a2_5 e2_5 c2_5 n2_6 a2_7 e2_7 c2_7 m2_8 c2_8 r3 q3 N:=
  zAK (H:=zf) (by kernel_rfl) h
theorem tQ (E:Env) (Q:QT [(Sh.ag 2),(Sh.sl 0),(Sh.int IntKind.i64),(Sh.int IntKind.i64)]) (N0:Nat) (n4 n5:Int) (a0_0:Option Addr) (e0_0:List D) (c0_0:Nat) (n0_1 n0_2 n1_0:Int) (a1_1:Option Addr) (e1_1:List D) (c1_1:Nat) (y2:D) (N:Nat) (h :
Br (decide (n5<n4)) (∀ a,N<=a->ACalls prog 152 [.ag 2] [.dg 2 y2] a (fun x b=>a<=b->Bel b x->xX E Q N0 n4 (IntKind.i64.wrap
 (n5+1)) a0_0 e0_0 c0_0 n0_1 n0_2 n1_0 a1_1 e1_1 c1_1 x b)) (zO E [.var [.sv none 0 [] 0,.int .i64 0,.int .i64 0]]/\∀ a,N<=a->Q y2 a0_0 e0_0 c0_0
 n0_1 n0_2 a)):xX E Q N0 n4 n5 a0_0 e0_0 c0_0 n0_1 n0_2 n1_0 a1_1 e1_1 c1_1 y2 N:=
  zAK (H:=uo) (by kernel_rfl) h
theorem tI (E:Env) (Q:QT [(Sh.ag 2),(Sh.sl 0),(Sh.int IntKind.i64),(Sh.int IntKind.i64)]) (N0:Nat) (n6:Int) (a0_0:Option Addr) (e0_0:List D) (c0_0:Nat) (n0_1 n0_2 n1_0:Int) (a1_1:Option Addr) (e1_1:List D) (c1_1:Nat) (y2:D) (N:Nat) (h :
Br (decide (n6<3)) (∀ a,N<=a->ACalls prog 153 [.ag 2] [.dg 2 y2,.dg 2 y2] a (fun x b=>a<=b->Bel b x->xW E Q N0 (IntKind.i64.wrap
 (n6+1)) a0_0 e0_0 c0_0 n0_1 n0_2 n1_0 a1_1 e1_1 c1_1 x b)) (zO E [.var [.sv none 0 [] 0,.int .i64 0,.int .i64 0]]/\∀ a,N<=a->Q y2 a0_0 e0_0 c0_0
 n0_1 n0_2 a)):xW E Q N0 n6 a0_0 e0_0 c0_0 n0_1 n0_2 n1_0 a1_1 e1_1 c1_1 y2 N:=
  zAK (H:=uo) (by kernel_rfl) h
theorem zCP (E:Env) (Q:QT [Sh.pk,(Sh.int IntKind.i64),Sh.str,Sh.str,(Sh.int IntKind.i64),Sh.dc,Sh.dc,Sh.dc,Sh.dc,(Sh.row (OfNat.ofNat 30) 9),(Sh.sl 0),(Sh.int IntKind.i64),(Sh.int IntKind.i64)]) (N0:Nat) (n1:Int) (a0_0:Option Addr) (e0_0:List D) (c0_0:Nat) (n0_1 n0_2 n1_0:Int) (s1_1 s1_2:ByteArray) (n1_3 n1_4:Int) (a1_5:Option Addr) (e1_5:List D) (c1_5:Nat) (n1_6:Int) (a1_7:Option Addr) (e1_7:List D) (c1_7:Nat) (a1_8:Option Addr) (e1_8:List D) (c1_8:Nat) (n2_0:Int) (s2_1 s2_2:ByteArray) (n2_3:Int) (x2_4 x2_5:D) (n2_6:Int) (a2_7:Option Addr) (e2_7:List D) (c2_7 m2_8 c2_8:Nat) (r3:List D) (q3:Nat) (N:Nat) (h :
Br (n2_0==9) (∀ b,N<=b->BCalls prog 132 [.str,.sl 0,.int .i64,.int .i64,.sl 0] [.pb 0 0 0 0,.sb 1 0 0 2 2] [Bx.var [.sv a0_0 0 e0_0 c0_0,.int .i64
 n0_1,.int .i64 n0_2],Bx.arr 9 0 [D.lit (.string (bytes [122])),D.lit (.string (bytes [119]))] 2] b (fun s a c d n e f g h i=>b<=i->Bel i
 (D.sl a 0 c d)->Bel i (D.sl f 0 g h)->∀ b,i<=b->BCalls prog 93 [.ag 2,.sl 0,.int .i64,.int .i64] [.pb 0 0 0 0,.int .i64 2] [Bx.var [.sv
 a 0 c d,.int .i64 n,.int .i64 e]] b (fun x a c d e f g=>b<=g->Bel g x->Bel g (D.sl a 0 c d)->va E Q N0 n1 a
 c d e f n1_0 s1_1 s1_2 n1_3 n1_4 a1_5 e1_5 c1_5 n1_6 a1_7 e1_7 c1_7 a1_8 e1_8 c1_8 n2_0 s2_1 s n2_3 x2_4 x2_5 (x.cell 0) (x.cell 1) m2_8 c2_8 r3 q3 g)))
 (wL E Q N0 n1 a0_0 e0_0 c0_0 n0_1 n0_2 n1_0 s1_1 s1_2 n1_3 n1_4 a1_5 e1_5 c1_5 n1_6 a1_7 e1_7 c1_7 a1_8 e1_8 c1_8 n2_0 s2_1 s2_2 n2_3 x2_4 x2_5 n2_6
 a2_7 e2_7 c2_7 m2_8 c2_8 r3 q3 N)):xl E Q N0 n1 a0_0 e0_0 c0_0 n0_1 n0_2 n1_0 s1_1 s1_2 n1_3 n1_4 a1_5 e1_5 c1_5 n1_6 a1_7 e1_7 c1_7 a1_8 e1_8 c1_8 n2_0 s2_1 s2_2 n2_3 x2_4 x2_5 n2_6 a2_7 e2_7 c2_7 m2_8 c2_8 r3 q3 N:=
  zAK (H:=zf) (by kernel_rfl) h
theorem ry (E:Env) (Q:QT [Sh.pk,(Sh.int IntKind.i64),Sh.str,Sh.str,(Sh.int IntKind.i64),Sh.dc,Sh.dc,Sh.dc,Sh.dc,(Sh.row (OfNat.ofNat 30) 9),(Sh.sl 0),(Sh.int IntKind.i64),(Sh.int IntKind.i64)]) (N0:Nat) (n1:Int) (a0_0:Option Addr) (e0_0:List D) (c0_0:Nat) (n0_1 n0_2 n1_0:Int) (s1_1 s1_2:ByteArray) (n1_3 n1_4:Int) (a1_5:Option Addr) (e1_5:List D) (c1_5:Nat) (n1_6:Int) (a1_7:Option Addr) (e1_7:List D) (c1_7:Nat) (a1_8:Option Addr) (e1_8:List D) (c1_8:Nat) (n2_0:Int) (s2_1 s2_2:ByteArray) (n2_3 n2_4:Int) (a2_5:Option Addr) (e2_5:List D) (c2_5:Nat) (n2_6:Int) (a2_7:Option Addr) (e2_7:List D) (c2_7 m2_8 c2_8:Nat) (r3:List D) (q3:Nat) (N:Nat) (h :
Br (n2_0==9) (∀ b,N<=b->BCalls prog 132 [.str,.sl 0,.int .i64,.int .i64,.sl 0] [.pb 0 0 0 0,.sb 1 0 0 2 2] [Bx.var [.sv a0_0 0 e0_0 c0_0,.int .i64
 n0_1,.int .i64 n0_2],Bx.arr 9 0 [D.lit (.string (bytes [122])),D.lit (.string (bytes [119]))] 2] b (fun s a c d n e f g h i=>b<=i->Bel i
 (D.sl a 0 c d)->Bel i (D.sl f 0 g h)->∀ b,i<=b->BCalls prog 93 [.ag 2,.sl 0,.int .i64,.int .i64] [.pb 0 0 0 0,.int .i64 2] [Bx.var [.sv
 a 0 c d,.int .i64 n,.int .i64 e]] b (fun x a c d e f g=>b<=g->Bel g x->Bel g (D.sl a 0 c d)->wO E Q N0 n1
 a c d e f n1_0 s1_1 s1_2 n1_3 n1_4 a1_5 e1_5 c1_5 n1_6 a1_7 e1_7 c1_7 a1_8 e1_8 c1_8 n2_0 s2_1 s n2_3 n2_4 a2_5 e2_5 c2_5 (x.cell 0) (x.cell 1) m2_8 c2_8
 r3 q3 g))) (xn E Q N0 n1 a0_0 e0_0 c0_0 n0_1 n0_2 n1_0 s1_1 s1_2 n1_3 n1_4 a1_5 e1_5 c1_5 n1_6 a1_7 e1_7 c1_7 a1_8 e1_8 c1_8 n2_0 s2_1 s2_2 n2_3
 n2_4 a2_5 e2_5 c2_5 n2_6 a2_7 e2_7 c2_7 m2_8 c2_8 r3 q3 N)):wE E Q N0 n1 a0_0 e0_0 c0_0 n0_1 n0_2 n1_0 s1_1 s1_2 n1_3 n1_4 a1_5 e1_5 c1_5 n1_6 a1_7 e1_7 c1_7 a1_8 e1_8 c1_8 n2_0 s2_1 s2_2 n2_3 n2_4 a2_5 e2_5 c2_5 n2_6 a2_7 e2_7 c2_7 m2_8 c2_8 r3 q3 N:=
  zAK (H:=zf) (by kernel_rfl) h
theorem zBo (E:Env) (Q:QT [Sh.pk,(Sh.int IntKind.i64),Sh.str,Sh.str,(Sh.int IntKind.i64),Sh.dc,Sh.dc,Sh.dc,Sh.dc,(Sh.row (OfNat.ofNat 30) 9),(Sh.sl 0),(Sh.int IntKind.i64),(Sh.int IntKind.i64)]) (N0:Nat) (n1:Int) (a0_0:Option Addr) (e0_0:List D) (c0_0:Nat) (n0_1 n0_2 n1_0:Int) (s1_1 s1_2:ByteArray) (n1_3 n1_4:Int) (a1_5:Option Addr) (e1_5:List D) (c1_5:Nat) (n1_6:Int) (a1_7:Option Addr) (e1_7:List D) (c1_7:Nat) (a1_8:Option Addr) (e1_8:List D) (c1_8:Nat) (n2_0:Int) (s2_1 s2_2:ByteArray) (n2_3:Int) (x2_4 x2_5 x2_6 x2_7:D) (m2_8 c2_8:Nat) (r3:List D) (q3:Nat) (N:Nat) (h :
(m2_8=r3.length/\c2_8=q3)/\∀ a,ApA a r3->∀ b,N<=b->ww b [a]->ACalls prog 182 [.int .i64] [.dg 9 (D.ag [D.lit (.int .i64 n2_0),D.lit (.string
 s2_1),D.lit (.string s2_2),D.lit (.int .i64 n2_3),x2_4,x2_5,x2_6,x2_7,D.sl a 9 r3 c2_8])] b (fun n a=>b<=a->xw E Q N0 n1 n 0 a0_0
 e0_0 c0_0 n0_1 n0_2 n1_0 s1_1 s1_2 n1_3 n1_4 a1_5 e1_5 c1_5 n1_6 a1_7 e1_7 c1_7 a1_8 e1_8 c1_8 n2_0 s2_1 s2_2 n2_3 x2_4 x2_5 x2_6 x2_7 m2_8 c2_8 r3 q3 a)):va E Q N0 n1 a0_0 e0_0 c0_0 n0_1 n0_2 n1_0 s1_1 s1_2 n1_3 n1_4 a1_5 e1_5 c1_5 n1_6 a1_7 e1_7 c1_7 a1_8 e1_8 c1_8 n2_0 s2_1 s2_2 n2_3 x2_4 x2_5 x2_6 x2_7 m2_8 c2_8 r3 q3 N:=
  zAK (H:=zf) (by kernel_rfl) h
theorem pP (E:Env) (Q:QT [Sh.pk,(Sh.int IntKind.i64),Sh.str,Sh.str,(Sh.int IntKind.i64),Sh.dc,Sh.dc,Sh.dc,Sh.dc,(Sh.row (OfNat.ofNat 30) 9),(Sh.sl 0),(Sh.int IntKind.i64),(Sh.int IntKind.i64)]) (N0:Nat) (n1:Int) (a0_0:Option Addr) (e0_0:List D) (c0_0:Nat) (n0_1 n0_2 n1_0:Int) (s1_1 s1_2:ByteArray) (n1_3 n1_4:Int) (a1_5:Option Addr) (e1_5:List D) (c1_5:Nat) (n1_6:Int) (a1_7:Option Addr) (e1_7:List D) (c1_7:Nat) (a1_8:Option Addr) (e1_8:List D) (c1_8:Nat) (n2_0:Int) (s2_1 s2_2:ByteArray) (n2_3:Int) (x2_4 x2_5:D) (n2_6:Int) (a2_7:Option Addr) (e2_7:List D) (c2_7 m2_8 c2_8:Nat) (r3:List D) (q3:Nat) (N:Nat) (h :
(m2_8=r3.length/\c2_8=q3)/\∀ a,ApA a r3->∀ b,N<=b->ww b [a]->ACalls prog 182 [.int .i64] [.dg 9 (D.ag [D.lit (.int .i64 n2_0),D.lit (.string
 s2_1),D.lit (.string s2_2),D.lit (.int .i64 n2_3),x2_4,x2_5,D.lit (.int .i64 n2_6),D.sl a2_7 2 e2_7 c2_7,D.sl a 9 r3 c2_8])] b (fun n a=>b<=a ->
 yv E Q N0 n1 n 0 a0_0 e0_0 c0_0 n0_1 n0_2 n1_0 s1_1 s1_2 n1_3 n1_4 a1_5 e1_5 c1_5 n1_6 a1_7 e1_7 c1_7 a1_8 e1_8 c1_8 n2_0 s2_1 s2_2 n2_3 x2_4 x2_5
 n2_6 a2_7 e2_7 c2_7 m2_8 c2_8 r3 q3 a)):wL E Q N0 n1 a0_0 e0_0 c0_0 n0_1 n0_2 n1_0 s1_1 s1_2 n1_3 n1_4 a1_5 e1_5 c1_5 n1_6 a1_7 e1_7 c1_7 a1_8 e1_8 c1_8 n2_0 s2_1 s2_2 n2_3 x2_4 x2_5 n2_6 a2_7 e2_7 c2_7 m2_8 c2_8 r3 q3 N:=
  zAK (H:=zf) (by kernel_rfl) h
theorem qV (E:Env) (Q:QT [Sh.pk,(Sh.int IntKind.i64),Sh.str,Sh.str,(Sh.int IntKind.i64),Sh.dc,Sh.dc,Sh.dc,Sh.dc,(Sh.row (OfNat.ofNat 30) 9),(Sh.sl 0),(Sh.int IntKind.i64),(Sh.int IntKind.i64)]) (N0:Nat) (n1:Int) (a0_0:Option Addr) (e0_0:List D) (c0_0:Nat) (n0_1 n0_2 n1_0:Int) (s1_1 s1_2:ByteArray) (n1_3 n1_4:Int) (a1_5:Option Addr) (e1_5:List D) (c1_5:Nat) (n1_6:Int) (a1_7:Option Addr) (e1_7:List D) (c1_7:Nat) (a1_8:Option Addr) (e1_8:List D) (c1_8:Nat) (n2_0:Int) (s2_1 s2_2:ByteArray) (n2_3 n2_4:Int) (a2_5:Option Addr) (e2_5:List D) (c2_5:Nat) (x2_6 x2_7:D) (m2_8 c2_8:Nat) (r3:List D) (q3:Nat) (N:Nat) (h :
(m2_8=r3.length/\c2_8=q3)/\∀ a,ApA a r3->∀ b,N<=b->ww b [a]->ACalls prog 182 [.int .i64] [.dg 9 (D.ag [D.lit (.int .i64 n2_0),D.lit (.string
 s2_1),D.lit (.string s2_2),D.lit (.int .i64 n2_3),D.lit (.int .i64 n2_4),D.sl a2_5 2 e2_5 c2_5,x2_6,x2_7,D.sl a 9 r3 c2_8])] b (fun n a=>b<=a ->
 yn E Q N0 n1 n 0 a0_0 e0_0 c0_0 n0_1 n0_2 n1_0 s1_1 s1_2 n1_3 n1_4 a1_5 e1_5 c1_5 n1_6 a1_7 e1_7 c1_7 a1_8 e1_8 c1_8 n2_0 s2_1 s2_2 n2_3 n2_4 a2_5
 e2_5 c2_5 x2_6 x2_7 m2_8 c2_8 r3 q3 a)):wO E Q N0 n1 a0_0 e0_0 c0_0 n0_1 n0_2 n1_0 s1_1 s1_2 n1_3 n1_4 a1_5 e1_5 c1_5 n1_6 a1_7 e1_7 c1_7 a1_8 e1_8 c1_8 n2_0 s2_1 s2_2 n2_3 n2_4 a2_5 e2_5 c2_5 x2_6 x2_7 m2_8 c2_8 r3 q3 N:=
  zAK (H:=zf) (by kernel_rfl) h
theorem qW (E:Env) (Q:QT [Sh.pk,(Sh.int IntKind.i64),Sh.str,Sh.str,(Sh.int IntKind.i64),Sh.dc,Sh.dc,Sh.dc,Sh.dc,(Sh.row (OfNat.ofNat 30) 9),(Sh.sl 0),(Sh.int IntKind.i64),(Sh.int IntKind.i64)]) (N0:Nat) (n1:Int) (a0_0:Option Addr) (e0_0:List D) (c0_0:Nat) (n0_1 n0_2 n1_0:Int) (s1_1 s1_2:ByteArray) (n1_3 n1_4:Int) (a1_5:Option Addr) (e1_5:List D) (c1_5:Nat) (n1_6:Int) (a1_7:Option Addr) (e1_7:List D) (c1_7:Nat) (a1_8:Option Addr) (e1_8:List D) (c1_8:Nat) (n2_0:Int) (s2_1 s2_2:ByteArray) (n2_3 n2_4:Int) (a2_5:Option Addr) (e2_5:List D) (c2_5:Nat) (n2_6:Int) (a2_7:Option Addr) (e2_7:List D) (c2_7 m2_8 c2_8:Nat) (r3:List D) (q3:Nat) (N:Nat) (h :
(m2_8=r3.length/\c2_8=q3)/\∀ a,ApA a r3->∀ b,N<=b->ww b [a]->ACalls prog 182 [.int .i64] [.dg 9 (D.ag [D.lit (.int .i64 n2_0),D.lit (.string
 s2_1),D.lit (.string s2_2),D.lit (.int .i64 n2_3),D.lit (.int .i64 n2_4),D.sl a2_5 2 e2_5 c2_5,D.lit (.int .i64 n2_6),D.sl a2_7 2 e2_7 c2_7,D.sl a 9 r3 c2_8])]
 b (fun n a=>b<=a->ym E Q N0 n1 n 0 a0_0 e0_0 c0_0 n0_1 n0_2 n1_0 s1_1 s1_2 n1_3 n1_4 a1_5 e1_5 c1_5 n1_6 a1_7 e1_7 c1_7 a1_8 e1_8 c1_8
 n2_0 s2_1 s2_2 n2_3 n2_4 a2_5 e2_5 c2_5 n2_6 a2_7 e2_7 c2_7 m2_8 c2_8 r3 q3 a)):xn E Q N0 n1 a0_0 e0_0 c0_0 n0_1 n0_2 n1_0 s1_1 s1_2 n1_3 n1_4 a1_5 e1_5 c1_5 n1_6 a1_7 e1_7 c1_7 a1_8 e1_8 c1_8 n2_0 s2_1 s2_2 n2_3 n2_4 a2_5 e2_5 c2_5 n2_6 a2_7 e2_7 c2_7 m2_8 c2_8 r3 q3 N:=
  zAK (H:=zf) (by kernel_rfl) h
theorem t5 (E:Env) (Q:QT [Sh.pk,(Sh.int IntKind.i64),Sh.str,Sh.str,(Sh.int IntKind.i64),Sh.dc,Sh.dc,Sh.dc,Sh.dc,(Sh.row (OfNat.ofNat 30) 9),(Sh.sl 0),(Sh.int IntKind.i64),(Sh.int IntKind.i64)]) (N0:Nat) (n1 n6 n7:Int) (a0_0:Option Addr) (e0_0:List D) (c0_0:Nat) (n0_1 n0_2 n1_0:Int) (s1_1 s1_2:ByteArray) (n1_3 n1_4:Int) (a1_5:Option Addr) (e1_5:List D) (c1_5:Nat) (n1_6:Int) (a1_7:Option Addr) (e1_7:List D) (c1_7:Nat) (a1_8:Option Addr) (e1_8:List D) (c1_8:Nat) (n2_0:Int) (s2_1 s2_2:ByteArray) (n2_3:Int) (x2_4 x2_5 x2_6 x2_7:D) (m2_8 c2_8:Nat) (r3:List D) (q3:Nat) (N:Nat) (h :
Br (decide (n7<n6)) (∀ b,N<=b->BCalls prog 154 [Sh.pk,.int .i64,.str,.str,.int .i64,Sh.dc,Sh.dc,Sh.dc,Sh.dc,.row (OfNat.ofNat 30) 9,.sl 0,.int
 .i64,.int .i64] [.pb 0 0 0 0,.int .i64 (IntKind.i64.wrap (n1 - 1))] [Bx.var [.sv a0_0 0 e0_0 c0_0,.int .i64 n0_1,.int .i64 n0_2]] b (fun n s a c x d
 e f g h i j k l m o=>b<=o->Bel o (D.sl i 0 j k)->Bel o (D.ag g)->(g.length=g.length/\h=h)/\∀ b p,o<=p->Fresh
 N0 p b [D.ag g,x,d,e,f,x2_4,x2_5,x2_6,x2_7,D.ag r3]->(m2_8=r3.length/\c2_8=q3)/\zB r3 [D.ag [D.lit (.int .i64 n),D.lit (.string
 s),D.lit (.string a),D.lit (.int .i64 c),x,d,e,f,D.sl b 9 g h]] 136/\∀ (o:Nat),xw E Q N0 n1 n6 (IntKind.i64.wrap (n7+1))
 i j k l m n1_0 s1_1 s1_2 n1_3 n1_4 a1_5 e1_5 c1_5 n1_6 a1_7 e1_7 c1_7 a1_8 e1_8 c1_8 n2_0 s2_1 s2_2 n2_3 x2_4 x2_5 x2_6 x2_7 (r3++[D.ag [D.lit (.int .i64
 n),D.lit (.string s),D.lit (.string a),D.lit (.int .i64 c),x,d,e,f,D.sl b 9 g h]]).length o (r3++[D.ag [D.lit (.int .i64 n),D.lit (.string
 s),D.lit (.string a),D.lit (.int .i64 c),x,d,e,f,D.sl b 9 g h]]) o p)) (zO E [.var [.sv none 0 [] 0,.int .i64 0,.int .i64 0]]/\(m2_8
 = r3.length/\c2_8=q3)/\∀ a,N<=a->Q n2_0 s2_1 s2_2 n2_3 x2_4 x2_5 x2_6 x2_7 r3 c2_8 a0_0 e0_0 c0_0 n0_1 n0_2 a)):xw E Q N0 n1 n6 n7 a0_0 e0_0 c0_0 n0_1 n0_2 n1_0 s1_1 s1_2 n1_3 n1_4 a1_5 e1_5 c1_5 n1_6 a1_7 e1_7 c1_7 a1_8 e1_8 c1_8 n2_0 s2_1 s2_2 n2_3 x2_4 x2_5 x2_6 x2_7 m2_8 c2_8 r3 q3 N:=
  zAK (H:=zf) (by kernel_rfl) h
theorem vq (E:Env) (Q:QT [Sh.pk,(Sh.int IntKind.i64),Sh.str,Sh.str,(Sh.int IntKind.i64),Sh.dc,Sh.dc,Sh.dc,Sh.dc,(Sh.row (OfNat.ofNat 30) 9),(Sh.sl 0),(Sh.int IntKind.i64),(Sh.int IntKind.i64)]) (N0:Nat) (n1 n6 n7:Int) (a0_0:Option Addr) (e0_0:List D) (c0_0:Nat) (n0_1 n0_2 n1_0:Int) (s1_1 s1_2:ByteArray) (n1_3 n1_4:Int) (a1_5:Option Addr) (e1_5:List D) (c1_5:Nat) (n1_6:Int) (a1_7:Option Addr) (e1_7:List D) (c1_7:Nat) (a1_8:Option Addr) (e1_8:List D) (c1_8:Nat) (n2_0:Int) (s2_1 s2_2:ByteArray) (n2_3:Int) (x2_4 x2_5:D) (n2_6:Int) (a2_7:Option Addr) (e2_7:List D) (c2_7 m2_8 c2_8:Nat) (r3:List D) (q3:Nat) (N:Nat) (h :
Br (decide (n7<n6)) (∀ b,N<=b->BCalls prog 154 [Sh.pk,.int .i64,.str,.str,.int .i64,Sh.dc,Sh.dc,Sh.dc,Sh.dc,.row (OfNat.ofNat 30) 9,.sl 0,.int
 .i64,.int .i64] [.pb 0 0 0 0,.int .i64 (IntKind.i64.wrap (n1 - 1))] [Bx.var [.sv a0_0 0 e0_0 c0_0,.int .i64 n0_1,.int .i64 n0_2]] b (fun n s a c x d
 e f g h i j k l m o=>b<=o->Bel o (D.sl i 0 j k)->Bel o (D.ag g)->(g.length=g.length/\h=h)/\∀ b p,o<=p->Fresh
 N0 p b [D.ag g,x,d,e,f,x2_4,x2_5,D.sl a2_7 2 e2_7 c2_7,D.ag r3]->(m2_8=r3.length/\c2_8=q3)/\zB r3 [D.ag [D.lit (.int .i64 n),D.lit
 (.string s),D.lit (.string a),D.lit (.int .i64 c),x,d,e,f,D.sl b 9 g h]] 136/\∀ (o:Nat),yv E Q N0 n1 n6 (IntKind.i64.wrap
 (n7+1)) i j k l m n1_0 s1_1 s1_2 n1_3 n1_4 a1_5 e1_5 c1_5 n1_6 a1_7 e1_7 c1_7 a1_8 e1_8 c1_8 n2_0 s2_1 s2_2 n2_3 x2_4 x2_5 n2_6 a2_7 e2_7 c2_7 (r3 ++
 [D.ag [D.lit (.int .i64 n),D.lit (.string s),D.lit (.string a),D.lit (.int .i64 c),x,d,e,f,D.sl b 9 g h]]).length o (r3++[D.ag [D.lit (.int
 .i64 n),D.lit (.string s),D.lit (.string a),D.lit (.int .i64 c),x,d,e,f,D.sl b 9 g h]]) o p)) (zO E [.var [.sv none 0 [] 0,.int .i64
 0,.int .i64 0]]/\(m2_8=r3.length/\c2_8=q3)/\∀ a,N<=a->Q n2_0 s2_1 s2_2 n2_3 x2_4 x2_5 (D.lit (.int .i64 n2_6)) (D.sl a2_7 2 e2_7 c2_7) r3 c2_8 a0_0
 e0_0 c0_0 n0_1 n0_2 a)):yv E Q N0 n1 n6 n7 a0_0 e0_0 c0_0 n0_1 n0_2 n1_0 s1_1 s1_2 n1_3 n1_4 a1_5 e1_5 c1_5 n1_6 a1_7 e1_7 c1_7 a1_8 e1_8 c1_8 n2_0 s2_1 s2_2 n2_3 x2_4 x2_5 n2_6 a2_7 e2_7 c2_7 m2_8 c2_8 r3 q3 N:=
  zAK (H:=zf) (by kernel_rfl) h
theorem v5 (E:Env) (Q:QT [Sh.pk,(Sh.int IntKind.i64),Sh.str,Sh.str,(Sh.int IntKind.i64),Sh.dc,Sh.dc,Sh.dc,Sh.dc,(Sh.row (OfNat.ofNat 30) 9),(Sh.sl 0),(Sh.int IntKind.i64),(Sh.int IntKind.i64)]) (N0:Nat) (n1 n6 n7:Int) (a0_0:Option Addr) (e0_0:List D) (c0_0:Nat) (n0_1 n0_2 n1_0:Int) (s1_1 s1_2:ByteArray) (n1_3 n1_4:Int) (a1_5:Option Addr) (e1_5:List D) (c1_5:Nat) (n1_6:Int) (a1_7:Option Addr) (e1_7:List D) (c1_7:Nat) (a1_8:Option Addr) (e1_8:List D) (c1_8:Nat) (n2_0:Int) (s2_1 s2_2:ByteArray) (n2_3 n2_4:Int) (a2_5:Option Addr) (e2_5:List D) (c2_5:Nat) (x2_6 x2_7:D) (m2_8 c2_8:Nat) (r3:List D) (q3:Nat) (N:Nat) (h :
Br (decide (n7<n6)) (∀ b,N<=b->BCalls prog 154 [Sh.pk,.int .i64,.str,.str,.int .i64,Sh.dc,Sh.dc,Sh.dc,Sh.dc,.row (OfNat.ofNat 30) 9,.sl 0,.int
 .i64,.int .i64] [.pb 0 0 0 0,.int .i64 (IntKind.i64.wrap (n1 - 1))] [Bx.var [.sv a0_0 0 e0_0 c0_0,.int .i64 n0_1,.int .i64 n0_2]] b (fun n s a c x d
 e f g h i j k l m o=>b<=o->Bel o (D.sl i 0 j k)->Bel o (D.ag g)->(g.length=g.length/\h=h)/\∀ b p,o<=p->Fresh
 N0 p b [D.ag g,x,d,e,f,D.sl a2_5 2 e2_5 c2_5,x2_6,x2_7,D.ag r3]->(m2_8=r3.length/\c2_8=q3)/\zB r3 [D.ag [D.lit (.int .i64 n),D.lit
 (.string s),D.lit (.string a),D.lit (.int .i64 c),x,d,e,f,D.sl b 9 g h]] 136/\∀ (o:Nat),yn E Q N0 n1 n6 (IntKind.i64.wrap
 (n7+1)) i j k l m n1_0 s1_1 s1_2 n1_3 n1_4 a1_5 e1_5 c1_5 n1_6 a1_7 e1_7 c1_7 a1_8 e1_8 c1_8 n2_0 s2_1 s2_2 n2_3 n2_4 a2_5 e2_5 c2_5 x2_6 x2_7 (r3 ++
 [D.ag [D.lit (.int .i64 n),D.lit (.string s),D.lit (.string a),D.lit (.int .i64 c),x,d,e,f,D.sl b 9 g h]]).length o (r3++[D.ag [D.lit (.int
 .i64 n),D.lit (.string s),D.lit (.string a),D.lit (.int .i64 c),x,d,e,f,D.sl b 9 g h]]) o p)) (zO E [.var [.sv none 0 [] 0,.int .i64
 0,.int .i64 0]]/\(m2_8=r3.length/\c2_8=q3)/\∀ a,N<=a->Q n2_0 s2_1 s2_2 n2_3 (D.lit (.int .i64 n2_4)) (D.sl a2_5 2 e2_5 c2_5) x2_6 x2_7 r3 c2_8 a0_0
 e0_0 c0_0 n0_1 n0_2 a)):yn E Q N0 n1 n6 n7 a0_0 e0_0 c0_0 n0_1 n0_2 n1_0 s1_1 s1_2 n1_3 n1_4 a1_5 e1_5 c1_5 n1_6 a1_7 e1_7 c1_7 a1_8 e1_8 c1_8 n2_0 s2_1 s2_2 n2_3 n2_4 a2_5 e2_5 c2_5 x2_6 x2_7 m2_8 c2_8 r3 q3 N:=
  zAK (H:=zf) (by kernel_rfl) h
theorem vp (E:Env) (Q:QT [Sh.pk,(Sh.int IntKind.i64),Sh.str,Sh.str,(Sh.int IntKind.i64),Sh.dc,Sh.dc,Sh.dc,Sh.dc,(Sh.row (OfNat.ofNat 30) 9),(Sh.sl 0),(Sh.int IntKind.i64),(Sh.int IntKind.i64)]) (N0:Nat) (n1 n6 n7:Int) (a0_0:Option Addr) (e0_0:List D) (c0_0:Nat) (n0_1 n0_2 n1_0:Int) (s1_1 s1_2:ByteArray) (n1_3 n1_4:Int) (a1_5:Option Addr) (e1_5:List D) (c1_5:Nat) (n1_6:Int) (a1_7:Option Addr) (e1_7:List D) (c1_7:Nat) (a1_8:Option Addr) (e1_8:List D) (c1_8:Nat) (n2_0:Int) (s2_1 s2_2:ByteArray) (n2_3 n2_4:Int) (a2_5:Option Addr) (e2_5:List D) (c2_5:Nat) (n2_6:Int) (a2_7:Option Addr) (e2_7:List D) (c2_7 m2_8 c2_8:Nat) (r3:List D) (q3:Nat) (N:Nat) (h :
Br (decide (n7<n6)) (∀ b,N<=b->BCalls prog 154 [Sh.pk,.int .i64,.str,.str,.int .i64,Sh.dc,Sh.dc,Sh.dc,Sh.dc,.row (OfNat.ofNat 30) 9,.sl 0,.int
 .i64,.int .i64] [.pb 0 0 0 0,.int .i64 (IntKind.i64.wrap (n1 - 1))] [Bx.var [.sv a0_0 0 e0_0 c0_0,.int .i64 n0_1,.int .i64 n0_2]] b (fun n s a c x d
 e f g h i j k l m o=>b<=o->Bel o (D.sl i 0 j k)->Bel o (D.ag g)->(g.length=g.length/\h=h)/\∀ b p,o<=p->Fresh
 N0 p b [D.ag g,x,d,e,f,D.sl a2_5 2 e2_5 c2_5,D.sl a2_7 2 e2_7 c2_7,D.ag r3]->(m2_8=r3.length/\c2_8=q3)/\zB r3 [D.ag [D.lit (.int .i64
 n),D.lit (.string s),D.lit (.string a),D.lit (.int .i64 c),x,d,e,f,D.sl b 9 g h]] 136/\∀ (o:Nat),ym E Q N0 n1 n6 (IntKind.i64.wrap
 (n7+1)) i j k l m n1_0 s1_1 s1_2 n1_3 n1_4 a1_5 e1_5 c1_5 n1_6 a1_7 e1_7 c1_7 a1_8 e1_8 c1_8 n2_0 s2_1 s2_2 n2_3 n2_4 a2_5 e2_5 c2_5 n2_6 a2_7 e2_7 c2_7
 (r3++[D.ag [D.lit (.int .i64 n),D.lit (.string s),D.lit (.string a),D.lit (.int .i64 c),x,d,e,f,D.sl b 9 g h]]).length o (r3++[D.ag [D.lit
 (.int .i64 n),D.lit (.string s),D.lit (.string a),D.lit (.int .i64 c),x,d,e,f,D.sl b 9 g h]]) o p)) (zO E [.var [.sv none 0 [] 0,.int
 .i64 0,.int .i64 0]]/\(m2_8=r3.length/\c2_8=q3)/\∀ a,N<=a->Q n2_0 s2_1 s2_2 n2_3 (D.lit (.int .i64 n2_4)) (D.sl a2_5 2 e2_5 c2_5) (D.lit (.int .i64
 n2_6)) (D.sl a2_7 2 e2_7 c2_7) r3 c2_8 a0_0 e0_0 c0_0 n0_1 n0_2 a)):ym E Q N0 n1 n6 n7 a0_0 e0_0 c0_0 n0_1 n0_2 n1_0 s1_1 s1_2 n1_3 n1_4 a1_5 e1_5 c1_5 n1_6 a1_7 e1_7 c1_7 a1_8 e1_8 c1_8 n2_0 s2_1 s2_2 n2_3 n2_4 a2_5 e2_5 c2_5 n2_6 a2_7 e2_7 c2_7 m2_8 c2_8 r3 q3 N:=
  zAK (H:=zf) (by kernel_rfl) h
end Go.Proofs.YtkdjhkfiolhkiaaGreat
set_option maxRecDepth 100000
namespace Go.Proofs.YtkdjhkfiolhkiaaGreat
open Go Go.Proofs Go.Proofs.Tryz
def zBt:Hint:=⟨[hc 3 [0,1,5,6] [(5,5,0)]],[],[]⟩
def zGH:Hint:=⟨[],[],[(7,[en 0,en 1,en 2,en 3,en 7,en 8,en 9,en 10,ec 4 [14],en 5,en 6,ec 11 [21],en 12,en 13,en 14]),(8,hs 8 [ec 4 [28]])]⟩
def zEw:Hint:=⟨[],[],[(5,[en 0,en 1,en 2,en 3,en 4,en 5,en 9,en 10,en 11,ec 6 [20],en 7,en 8,en 12,en 13,en 14]),(9,[en 0,en 1,en 2,en 3,en 4,eh 5,en 6,en 7,en 8]),(11,[en 0,en 1,en 2,en 3,en 4,en 5,en 6,en 7,en 8,en 9,en 13,en 14,en 18,en 19,en 20,ec 10 [56],en 11,en 12,ec 15 [61],en 16,en 17,en 21,en 22,en 23])]⟩
def qk:Hint:=⟨[hc 3 [1,3,4] [(3,9,0)]],[],[(5,hs 10 [ec 6 [18]]),(16,[en 0,en 1,en 2,en 3,en 4,en 5,en 6,en 7,en 8,en 9,en 10,en 11,en 12]),(21,hs 4 [ec 2 [77]])]⟩
def zAZ:Hint:=⟨[],[],[(1,hs 3 [ec 1 [3]]),(3,hs 3 [ec 1 [6]])]⟩
def qo:Hint:=⟨[hc 9 [0,6,7,8,9]],[],[]⟩
def qj:Hint:=⟨[],[],[]⟩
def zFR:Hint:=⟨[],[],[(1,[en 0,en 1,en 2,en 3,en 4,en 5,en 6,en 7,en 8,en 9,en 10,en 11,en 12,en 13,en 14,en 15,en 16,en 17,en 18,en 19,en 20,en 21,en 22,en 23,en 24,en 25,en 26,en 27,en 28,en 29,en 30,en 31,en 32,en 33,en 34,en 35,en 36,en 37,en 38])]⟩
def zFI:Hint:=⟨[],[],[]⟩
def qE:Hint:=⟨[hc 2 [0,3]],[],[(2,[en 0,en 1,en 2,en 3,en 4,en 5,en 6,en 7,en 8,en 9,en 10,en 11,en 12,en 13,en 14,en 15,en 16,en 17,en 18,en 19,en 20,en 21,en 22,en 23,en 24,en 25,en 26,en 27,en 28,en 29,en 30,en 31,en 32,en 33,en 34,en 35,en 36,en 37,en 38,en 39,en 40,en 41,en 42,en 43,en 44,en 45,en 46,en 47,en 48,en 49,en 50,en 51,en 52,en 53,en 54,en 55,en 56,en 57]),(4,[en 0,en 1,en 2,en 3,en 4,en 5,en 6,en 7,en 8,en 9,en 10])]⟩
def zFn:Hint:=⟨[],[],[]⟩
def zCh:Hint:=⟨[],[],[]⟩
def u9:Hint:=⟨[hc 2 [0,2,3,5,8,9]],[],[(6,[en 0,en 1,en 2,en 3,eh 4,en 5,eh 6,en 7,eh 8])]⟩
def zHe:Hint:=⟨[],[],[(9,hs 5 [ec 3 [27]])]⟩
def zE7:Hint:=⟨[],[],[(3,hs 5 [ec 3 [14]]),(4,[en 0,en 1,en 2,en 3,en 4,en 5,en 6,en 7,en 8,en 9,en 10,en 11,en 12,en 13,en 14,en 15,en 16,en 17,en 18,eh 19]),(5,[en 0,en 1,en 2,en 3,en 4,en 5,en 6,en 7,en 8,en 9,en 10,en 11,en 12,en 13,en 14,en 15,en 16,en 17,en 18,eh 19,en 20,en 21]),(9,[en 0,en 1,en 2,en 3,en 4,en 5,en 6,en 7,en 8,en 9,en 10,en 11,en 12,en 13,en 14,eh 15]),(11,hs 5 [ec 3 [87]])]⟩
def zEv:Hint:=⟨[],[],[(7,hs 5 [ec 3 [21]]),(11,hs 5 [ec 3 [33]]),(15,hs 5 [ec 3 [46]]),(17,hs 5 [ec 3 [53]]),(19,hs 5 [ec 3 [60]]),(21,hs 5 [ec 3 [67]]),(22,hs 7 [ec 5 [73]])]⟩
def zEy:Hint:=⟨[],[],[(1,[en 0,en 1,en 2,en 3,en 4,en 5,en 6,en 7,en 8,en 9,en 10,en 11,en 12,en 13,en 14,en 15,en 16,en 17,en 18,en 19,en 20,en 21,en 22,eh 23]),(16,[en 0,en 1,en 2,en 3,en 4,en 5,en 6,en 7,en 8,en 9,en 10,en 11,en 12,en 13,en 14,en 15,en 16,en 17,en 18,en 19,en 20,en 21,en 22])]⟩
def zAu:Hint:=⟨[],[],[(3,hs 19 [ec 15 [25]])]⟩
def xt (Q:QT [.str]) (N0:Nat) (a0:Option Addr) (e0:List D) (c0:Nat) (s1:ByteArray) (m5 c5:Nat) (n6:Int) (r0:List D) (q0:Nat) (N:Nat):Prop:=AT prog 270 [.str] Q N0 .ord (zF prog 270 3) ⟨.sv a0 0 e0 c0::.str s1::an 3 (.sb 0 0 0 m5 c5::.int .i64 n6::an 20 []),[.arr 5 0 r0 q0],N,none⟩
def xo (Q:QT [.str]) (N0:Nat) (m3 c3:Nat) (n4:Int) (y0:D) (r1:List D) (q1:Nat) (N:Nat):Prop:=AT prog 258 [.str] Q N0 .ord (zF prog 258 3) ⟨an 1 (.pb 0 0 0 0::an 1 (.sb 1 0 0 m3 c3::.int .i64 n4::an 75 [])),[.vd y0 9,.arr 9 0 r1 q1],N,none⟩
def zr (Q:QT [.int .i64,.bool]) (N0:Nat) (s0:ByteArray) (b6:Bool) (s7:ByteArray) (n8 n9:Int) (N:Nat):Prop:=AT prog 269 [.int .i64,.bool] Q N0 .ord (zF prog 269 9) ⟨.str s0::an 5 (.bool b6::.str s7::.int .i64 n8::.int .i64 n9::an 53 []),[],N,none⟩
def yB (E:Env) (Q:QT [Sh.str,Sh.str,(Sh.int IntKind.i64),Sh.bool]) (N0:Nat) (n3:Int) (s0_0:ByteArray) (n0_1:Int) (b0_2:Bool) (N:Nat):Prop:=AT prog 257 [Sh.str,Sh.str,(Sh.int IntKind.i64),Sh.bool] Q N0 (.io E [.var [.str (bytes []),.int .i64 0,.bool false]]) (zF prog 257 2) ⟨.pb 0 0 0 0::an 2 (.int .i64 n3::an 80 []),[.var [.str s0_0,.int .i64 n0_1,.bool b0_2]],N,some (yj E 0 [.var [.str (bytes []),.int .i64 0,.bool false]],[])⟩
def sM (E:Env) (Q:QT [(Sh.ag 9),Sh.str,(Sh.int IntKind.i64),Sh.bool]) (N0:Nat) (n2 n3 n9:Int) (s0_0:ByteArray) (n0_1:Int) (b0_2:Bool) (y1:D) (n2_0:Int) (s2_1 s2_2:ByteArray) (n2_3 n2_4:Int) (a2_5:Option Addr) (e2_5:List D) (c2_5:Nat) (n2_6:Int) (a2_7:Option Addr) (e2_7:List D) (c2_7:Nat) (a2_8:Option Addr) (e2_8:List D) (c2_8:Nat) (N:Nat):Prop:=AT prog 262 [(Sh.ag 9),Sh.str,(Sh.int IntKind.i64),Sh.bool] Q N0 (.io E [.var [.str (bytes []),.int .i64 0,.bool false]]) (zF prog 262 2) ⟨.pb 0 0 0 0::an 1 (.int .i64 n2::.int .i64 n3::an 1 (.pb 1 0 0 0::an 2 (.pb 2 0 0 0::.int .i64 n9::an 27 []))),[.var [.str s0_0,.int .i64 n0_1,.bool b0_2],.vd y1 9,.var [.int .i64 n2_0,.str s2_1,.str s2_2,.int .i64 n2_3,.int .i64 n2_4,.sv a2_5 2 e2_5 c2_5,.int .i64 n2_6,.sv a2_7 2 e2_7 c2_7,.sv a2_8 9 e2_8 c2_8]],N,some (yj E 0 [.var [.str (bytes []),.int .i64 0,.bool false]],[])⟩
def zV (E:Env) (Q:QT [(Sh.ag 9),Sh.str,(Sh.int IntKind.i64),Sh.bool]) (N0:Nat) (n2 n3 n9:Int) (s0_0:ByteArray) (n0_1:Int) (b0_2:Bool) (x1_0 x1_1 x1_2 x1_3 x1_4 x1_5 x1_6 x1_7:D) (m1_8 c1_8:Nat) (n2_0:Int) (s2_1 s2_2:ByteArray) (n2_3 n2_4:Int) (a2_5:Option Addr) (e2_5:List D) (c2_5:Nat) (n2_6:Int) (a2_7:Option Addr) (e2_7:List D) (c2_7:Nat) (a2_8:Option Addr) (e2_8:List D) (c2_8:Nat) (r3:List D) (q3:Nat) (N:Nat):Prop:=AT prog 262 [(Sh.ag 9),Sh.str,(Sh.int IntKind.i64),Sh.bool] Q N0 (.io E [.var [.str (bytes []),.int .i64 0,.bool false]]) (zF prog 262 2) ⟨.pb 0 0 0 0::an 1 (.int .i64 n2::.int .i64 n3::an 1 (.pb 1 0 0 0::an 2 (.pb 2 0 0 0::.int .i64 n9::an 27 []))),[.var [.str s0_0,.int .i64 n0_1,.bool b0_2],.var [.dc x1_0,.dc x1_1,.dc x1_2,.dc x1_3,.dc x1_4,.dc x1_5,.dc x1_6,.dc x1_7,.sb 3 9 0 m1_8 c1_8],.var [.int .i64 n2_0,.str s2_1,.str s2_2,.int .i64 n2_3,.int .i64 n2_4,.sv a2_5 2 e2_5 c2_5,.int .i64 n2_6,.sv a2_7 2 e2_7 c2_7,.sv a2_8 9 e2_8 c2_8],.arr 30 9 r3 q3],N,some (yj E 0 [.var [.str (bytes []),.int .i64 0,.bool false]],[])⟩
theorem zIG (N:Nat) (a0:Option Addr) (e0:List D) (c0:Nat) (s1:ByteArray) (Q:QT [.str]) (h :
Bel N (D.sl a0 0 e0 c0)->xt Q N a0 e0 c0 s1 0 0 0 [] 0 N):ACalls prog 270 [.str] [PV.sv a0 0 e0 c0,PV.str s1] N Q:=
 eE (H:=zBt) (by kernel_rfl) (by kernel_rfl) h
theorem vC (N:Nat) (x0:D) (Q:QT [.str]) (h :
Bel N x0->∃ n:Int,(x0.cell 0)=D.lit (.int .i64 n)/\Br (n==1) (∀ a,N<=a->Q (bytes [73]) a) (Br (n==2) (∀ a,N<=a->Q (bytes [66]) a) (Br
 (n==3) (∃ a b,∃ c:Nat,(x0.cell 1)=D.sl a 2 b c/\((0:Int)<=(0:Int)/\0<(b.length:Int))/\∃ a c,∃ d:Nat,(x0.cell 1)=D.sl a 2 c
 d/\((0:Int)<=(1:Int)/\1<(c.length:Int))/\∀ a,N<=a->ACalls prog 271 [.str] [.dg 2 (List.getD b 0 default)] a (fun s b=>a<=b ->
 (1+s.size:Nat)<=9223372036854775807/\(ByteArray.size (bytes [40]++s)+1:Nat)<=9223372036854775807/\∀ a,b<=a->ACalls prog 271 [.str] [.dg 2
 (List.getD c 1 default)] a (fun b c=>a<=c->(ByteArray.size (bytes [40]++s++bytes [62])+b.size:Nat)<=9223372036854775807/\(ByteArray.size
 (bytes [40]++s++bytes [62]++b)+1:Nat)<=9223372036854775807/\∀ a,c<=a->Q (bytes [40]++s++bytes [62]++b++bytes [41]) a))) (∃ a
 b,∃ c:Nat,(x0.cell 1)=D.sl a 2 b c/\((0:Int)<=(0:Int)/\0<(b.length:Int))/\∀ a,N<=a->ACalls prog 271 [.str] [.dg 2 (List.getD
 b 0 default)] a (fun b c=>a<=c->(1+b.size:Nat)<=9223372036854775807/\(ByteArray.size (bytes [60]++b)+1:Nat)<=9223372036854775807
 /\ ∀ a,c<=a->Q (bytes [60]++b++bytes [62]) a))))):ACalls prog 271 [.str] [PV.dg 2 x0] N Q:=
  eE (H:=zGH) (by kernel_rfl) (by kernel_rfl) h
theorem zFc (N:Nat) (x0:D) (a1:Option Addr) (e1:List D) (c1:Nat) (Q:QT [.str]) (h :
Bel N x0->Bel N (D.sl a1 0 e1 c1)->∃ n:Int,(x0.cell 0)=D.lit (.int .i64 n)/\Br (n==5) (∀ a,N<=a->ACalls prog 270 [.str] [.sv a1 0 e1 c1,.str (bytes
 [32])] a (fun s b=>a<=b->(4+s.size:Nat)<=9223372036854775807/\(ByteArray.size (bytes [40,105,102,32]++s)+1:Nat)<=9223372036854775807
 /\ ∀ a,b<=a->Q (bytes [40,105,102,32]++s++bytes [41]) a)) (Br (n==6) (∃ a,(x0.cell 1)=D.lit (.string a)/\(2+a.size:Nat)<=9223372036854775807
 /\ (ByteArray.size (bytes [40,92]++a)+1:Nat)<=9223372036854775807/\((0:Int)<=(0:Int)/\0<(e1.length:Int))/\∃ b,List.getD e1 0 default=D.lit
 (.string b)/\∀ c,N<=c->ACalls prog 271 [.str] [.dg 2 (D.sub x0 4 2)] c (fun d e=>c<=e->(ByteArray.size (bytes [40,92]++a++bytes [58])
 + d.size:Nat)<=9223372036854775807/\(ByteArray.size (bytes [40,92]++a++bytes [58]++d)+1:Nat)<=9223372036854775807/\(ByteArray.size (bytes
 [40,92]++a++bytes [58]++d++bytes [46])+b.size:Nat)<=9223372036854775807/\(ByteArray.size (bytes [40,92]++a++bytes [58]++d++bytes
 [46]++b)+1:Nat)<=9223372036854775807/\∀ c,e<=c->Q (bytes [40,92]++a++bytes [58]++d++bytes [46]++b++bytes [41]) c)) (Br (n
 == 7) (∀ a,N<=a->ACalls prog 270 [.str] [.sv a1 0 e1 c1,.str (bytes [32])] a (fun b c=>a<=c->(1+b.size:Nat)<=9223372036854775807/\(ByteArray.size
 (bytes [40]++b)+1:Nat)<=9223372036854775807/\∀ a,c<=a->Q (bytes [40]++b++bytes [41]) a)) (Br (n==8) (∃ a,(x0.cell 1)=D.lit (.string
 a)/\(5+a.size:Nat)<=9223372036854775807/\(ByteArray.size (bytes [40,108,101,116,32]++a)+1:Nat)<=9223372036854775807/\∀ b,N<=b ->
 ACalls prog 270 [.str] [.sv a1 0 e1 c1,.str (bytes [32])] b (fun c d=>b<=d->(ByteArray.size (bytes [40,108,101,116,32]++a++bytes [61])
 + c.size:Nat)<=9223372036854775807/\(ByteArray.size (bytes [40,108,101,116,32]++a++bytes [61]++c)+1:Nat)<=9223372036854775807/\∀ b,
 d<=b->Q (bytes [40,108,101,116,32]++a++bytes [61]++c++bytes [41]) b)) (Br (n==9) (∃ a,(x0.cell 1)=D.lit (.string a)/\(5+a.size
 : Nat)<=9223372036854775807/\(ByteArray.size (bytes [40,114,101,99,32]++a)+1:Nat)<=9223372036854775807/\∃ b,(x0.cell 2)=D.lit (.string b)
 /\ (ByteArray.size (bytes [40,114,101,99,32]++a++bytes [32])+b.size:Nat)<=9223372036854775807/\(ByteArray.size (bytes [40,114,101,99,32] ++
 a++bytes [32]++b)+1:Nat)<=9223372036854775807/\((0:Int)<=(0:Int)/\0<(e1.length:Int))/\∃ c,List.getD e1 0 default=D.lit (.string c)
 /\ ∀ d,N<=d->ACalls prog 271 [.str] [.dg 2 (D.sub x0 4 2)] d (fun e f=>d<=f->(ByteArray.size (bytes [40,114,101,99,32]++a++bytes
 [32]++b++bytes [58])+e.size:Nat)<=9223372036854775807/\(ByteArray.size (bytes [40,114,101,99,32]++a++bytes [32]++b++bytes [58] ++
 e)+1:Nat)<=9223372036854775807/\∀ d,f<=d->ACalls prog 271 [.str] [.dg 2 (D.sub x0 6 2)] d (fun f g=>d<=g->(ByteArray.size
 (bytes [40,114,101,99,32]++a++bytes [32]++b++bytes [58]++e++bytes [62])+f.size:Nat)<=9223372036854775807/\(ByteArray.size (bytes
 [40,114,101,99,32]++a++bytes [32]++b++bytes [58]++e++bytes [62]++f)+1:Nat)<=9223372036854775807/\(ByteArray.size (bytes [40,114,
 101,99,32]++a++bytes [32]++b++bytes [58]++e++bytes [62]++f++bytes [46])+c.size:Nat)<=9223372036854775807/\(ByteArray.size (bytes
 [40,114,101,99,32]++a++bytes [32]++b++bytes [58]++e++bytes [62]++f++bytes [46]++c)+1:Nat)<=9223372036854775807/\∀ d,g
 <= d->Q (bytes [40,114,101,99,32]++a++bytes [32]++b++bytes [58]++e++bytes [62]++f++bytes [46]++c++bytes [41]) d))) (Br
 (n==12) (((0:Int)<=(0:Int)/\0<(e1.length:Int))/\∃ a,List.getD e1 0 default=D.lit (.string a)/\(5+a.size:Nat)<=9223372036854775807
 /\ (ByteArray.size (bytes [40,114,117,110,32]++a)+1:Nat)<=9223372036854775807/\∀ b,N<=b->Q (bytes [40,114,117,110,32]++a++bytes
 [41]) b) (((0:Int)<=(0:Int)/\0<(e1.length:Int))/\∃ a,List.getD e1 0 default=D.lit (.string a)/\(6+a.size:Nat)<=9223372036854775807
 /\ (ByteArray.size (bytes [40,108,105,102,116,32]++a)+1:Nat)<=9223372036854775807/\∀ b,N<=b->Q (bytes [40,108,105,102,116,32]++a
 ++ bytes [41]) b))))))):ACalls prog 267 [.str] [PV.dg 9 x0,PV.sv a1 0 e1 c1] N Q:=
  eE (H:=zEw) (by kernel_rfl) (by kernel_rfl) h
theorem zFD (N:Nat) (x0:D) (Q:QT [.str]) (h :
Bel N x0->xo Q N 0 0 0 x0 [] 0 N):ACalls prog 258 [.str] [PV.dg 9 x0] N Q:=
 eE (H:=qk) (by kernel_rfl) (by kernel_rfl) h
theorem px (N:Nat) (x0:D) (Q:QT [.str]) (h :
Bel N x0->∀ a,N<=a->ACalls prog 106 [.bool] [.dg 9 x0] a (fun b c=>a<=c->Br (!b) (∀ a,c<=a->Q (bytes []) a) (∀ a,c<=a->ACalls
 prog 258 [.str] [.dg 9 x0] a (fun s b=>a<=b->∀ a,b<=a->Q s a)))):ACalls prog 242 [.str] [PV.dg 9 x0] N Q:=
  eE (H:=zAZ) (by kernel_rfl) (by kernel_rfl) h
theorem zFv (N:Nat) (s0:ByteArray) (n1:Int) (Q:QT [.int .i64,.bool]) (h :
Br (decide ((s0.size:Int)>0)) (((0:Int)<=(0:Int)/\0<(s0.size:Int))/\Br ((UInt8.toNat (Array.getD (ByteArray.data s0) 0 (OfNat.ofNat 0)):Int) ==
 45) (((0:Int)<=(1:Int)/\1<=(s0.size:Int)/\(s0.size:Int)<=(s0.size:Int))/\Br (decide ((ByteArray.size (ByteArray.extract s0 1 ((s0.size:Int)).toNat)
 : Int)<1)) (∀ a,N<=a->Q 0 false a) (Br (decide ((ByteArray.size (ByteArray.extract s0 1 ((s0.size:Int)).toNat):Int)>n1)) (∀ a,N<=a->Q 0 false
 a) (zr Q N s0 ((UInt8.toNat (Array.getD (ByteArray.data s0) 0 (OfNat.ofNat 0)):Int)==45) (ByteArray.extract s0 1 ((s0.size:Int)).toNat) 0 0
 N))) (Br (decide ((s0.size:Int)<1)) (∀ a,N<=a->Q 0 false a) (Br (decide ((s0.size:Int)>n1)) (∀ a,N<=a->Q 0 false a) (zr Q
 N s0 ((UInt8.toNat (Array.getD (ByteArray.data s0) 0 (OfNat.ofNat 0)):Int)==45) s0 0 0 N)))) (Br (decide ((s0.size:Int)<1)) (∀ a,N<=a->Q 0 false a)
 (Br (decide ((s0.size:Int)>n1)) (∀ a,N<=a->Q 0 false a) (zr Q N s0 false s0 0 0 N)))):ACalls prog 269 [.int .i64,.bool] [PV.str s0,PV.int .i64 n1] N Q:=
  eE (H:=qo) (by kernel_rfl) (by kernel_rfl) h
theorem pW (N:Nat) (s0:ByteArray) (Q:QT [.int .i64,.bool]) (h :
∀ a,N<=a->ACalls prog 269 [.int .i64,.bool] [.str s0,.int .i64 6] a (fun n b c=>a<=c->Br (!b) (∀ a,c<=a->Q 0 false a) (Br (decide
 (n<0)) (∀ a,c<=a->Q 0 false a) (∀ a,c<=a->Q n true a)))):ACalls prog 265 [.int .i64,.bool] [PV.str s0] N Q:=
  eE (H:=qj) (by kernel_rfl) (by kernel_rfl) h
theorem zA9 (N:Nat) (s0:ByteArray) (Q:QT [.ag 9,.bool]) (h :
∀ a,N<=a->BCalls prog 241 [.ag 9,.str,.int .i64,.bool] [.pb 0 0 0 0,.int .i64 1] [Bx.var [.str s0,.int .i64 0,.bool false]] a (fun x _ n b c=>
 a<=c->Bel c x->Br b (∀ a,c<=a->Q (D.ag [D.lit (.int .i64 0),D.lit (.string (bytes [])),D.lit (.string (bytes [])),D.lit (.int .i64 0),D.lit
 (.int .i64 0),D.sl Option.none 2 [] 0,D.lit (.int .i64 0),D.sl Option.none 2 [] 0,D.sl Option.none 9 [] 0]) false a) (Br (bne n (s0.size:Int)) (∀ a,c
 <= a->Q (D.ag [D.lit (.int .i64 0),D.lit (.string (bytes [])),D.lit (.string (bytes [])),D.lit (.int .i64 0),D.lit (.int .i64 0),D.sl Option.none 2 [] 0,
 D.lit (.int .i64 0),D.sl Option.none 2 [] 0,D.sl Option.none 9 [] 0]) false a) (∀ a,c<=a->ACalls prog 242 [.str] [.dg 9 x] a (fun b c=>a <=
 c->Br (!(ByteArray.toList b==ByteArray.toList s0)) (∀ a,c<=a->Q (D.ag [D.lit (.int .i64 0),D.lit (.string (bytes [])),D.lit (.string (bytes [])),
 D.lit (.int .i64 0),D.lit (.int .i64 0),D.sl Option.none 2 [] 0,D.lit (.int .i64 0),D.sl Option.none 2 [] 0,D.sl Option.none 9 [] 0]) false a) (∀ a,c
 <= a->Q x true a)))))):ACalls prog 202 [.ag 9,.bool] [PV.str s0] N Q:=
  eE (H:=zAu) (by kernel_rfl) (by kernel_rfl) h
theorem qr (Q:QT [.str]) (N0:Nat) (a0:Option Addr) (e0:List D) (c0:Nat) (s1:ByteArray) (m5 c5:Nat) (n6:Int) (r0:List D) (q0:Nat) (N:Nat) (h :
Br (decide (n6<(e0.length:Int))) (Br (decide (n6>0)) ((m5=r0.length/\c5=q0)/\zB r0 (yy s1) 1/\∀ (c:Nat),(0<=n6/\n6<(e0.length:Int))
 /\ ∃ s,List.getD e0 n6.toNat default=D.lit (.string s)/\((r0++yy s1).length=(r0++yy s1).length/\c=c)/\zB (r0++yy s1) (yy s) 1
 /\ ∀ (a:Nat),xt Q N0 a0 e0 c0 s1 (r0++yy s1++yy s).length a (IntKind.i64.wrap (n6+1)) (r0++yy s1++yy s) a N) ((0<=n6
 /\ n6<(e0.length:Int))/\∃ a,List.getD e0 n6.toNat default=D.lit (.string a)/\(m5=r0.length/\c5=q0)/\zB r0 (yy a) 1/\∀ (b:Nat),
 xt Q N0 a0 e0 c0 s1 (r0++yy a).length b (IntKind.i64.wrap (n6+1)) (r0++yy a) b N)) (m5<=r0.length/\∃ a:List Int,List.take
 m5 r0=List.map (fun n=>D.lit (.int IntKind.u8 n)) a/\∀ b,N<=b->Q (bytesOf a) b)):xt Q N0 a0 e0 c0 s1 m5 c5 n6 r0 q0 N:=
  hE (H:=zBt) (by kernel_rfl) h
theorem t9 (Q:QT [.str]) (N0:Nat) (m3 c3:Nat) (n4:Int) (y0:D) (r1:List D) (q1:Nat) (N:Nat) (h :
∃ a b,∃ c:Nat,(y0.cell 8)=D.sl a 9 b c/\Br (decide (n4<(b.length:Int))) (∃ a b,∃ c:Nat,(y0.cell 8)=D.sl a 9 b c/\(0<=n4/\n4
 < (b.length:Int))/\∀ a,N<=a->ACalls prog 258 [.str] [.dg 9 (List.getD b n4.toNat default)] a (fun s b=>a<=b->(m3=r1.length/\c3=q1)
 /\ zB r1 [D.lit (.string s)] 16/\∀ (a:Nat),xo Q N0 (r1++[D.lit (.string s)]).length a (IntKind.i64.wrap (n4+1)) y0 (r1++[D.lit (.string
 s)]) a b)) (∃ n:Int,(y0.cell 0)=D.lit (.int .i64 n)/\Br (n==1) (∃ a,(y0.cell 1)=D.lit (.string a)/\∀ b,N<=b->Q a b) (Br (n==2) (∃
 a:Int,(y0.cell 3)=D.lit (.int .i64 a)/\∀ b,N<=b->ACalls prog 266 [.str] [.int .i64 a] b (fun a c=>b<=c->∀ b,c<=b->Q a
 b)) (Br (n==3) (∃ a:Int,(y0.cell 3)=D.lit (.int .i64 a)/\∃ b:Int,(y0.cell 3)=D.lit (.int .i64 b)/\(0<=a/\a<=IntKind.i64.wrap (b
 + 1)/\IntKind.i64.wrap (b+1)<=2)/\(1+ByteArray.size (ByteArray.extract (bytes [102,116]) a.toNat (IntKind.i64.wrap (b+1)).toNat):Nat)<=9223372036854775807
 /\ ∀ c,N<=c->Q (bytes [35]++ByteArray.extract (bytes [102,116]) a.toNat (IntKind.i64.wrap (b+1)).toNat) c) (Br (n==4) (Br ((m3:Int)==1) (((0
 : Int)<=(0:Int)/\0<(m3:Int)/\0<r1.length)/\0<r1.length/\∃ a,List.getD r1 0 default=D.lit (.string a)/\(2+a.size:Nat)<=9223372036854775807
 /\ (ByteArray.size (bytes [40,33]++a)+1:Nat)<=9223372036854775807/\∀ b,N<=b->Q (bytes [40,33]++a++bytes [41]) b) (((0:Int)<=(0:Int)
 /\ 0<(m3:Int)/\0<r1.length)/\0<r1.length/\∃ a,List.getD r1 0 default=D.lit (.string a)/\(1+a.size:Nat)<=9223372036854775807/\∃ b,(y0.cell
 1)=D.lit (.string b)/\(ByteArray.size (bytes [40]++a)+b.size:Nat)<=9223372036854775807/\((0:Int)<=(1:Int)/\1<(m3:Int)/\1<r1.length)
 /\ 1<r1.length/\∃ c,List.getD r1 1 default=D.lit (.string c)/\(ByteArray.size (bytes [40]++a++b)+c.size:Nat)<=9223372036854775807/\(ByteArray.size
 (bytes [40]++a++b++c)+1:Nat)<=9223372036854775807/\∀ d,N<=d->Q (bytes [40]++a++b++c++bytes [41]) d)) (Br (n==10) (((0
 : Int)<=(0:Int)/\0<(m3:Int)/\0<r1.length)/\0<r1.length/\∃ a,List.getD r1 0 default=D.lit (.string a)/\(1+a.size:Nat)<=9223372036854775807
 /\ (ByteArray.size (bytes [60]++a)+1:Nat)<=9223372036854775807/\∀ b,N<=b->Q (bytes [60]++a++bytes [62]) b) (Br (n==11) (((0:Int) <=
 (0:Int)/\0<(m3:Int)/\0<r1.length)/\0<r1.length/\∃ a,List.getD r1 0 default=D.lit (.string a)/\(1+a.size:Nat)<=9223372036854775807 /\
 ∀ b,N<=b->Q (bytes [126]++a) b) ((m3=r1.length/\c3=q1)/\∀ a,ApA a r1->Off [a] y0->∀ b,N<=b->ww b [a]->ACalls prog
 267 [.str] [.dg 9 y0,.sv a 0 r1 c3] b (fun a c=>b<=c->∀ b,c<=b->Q a b))))))))):xo Q N0 m3 c3 n4 y0 r1 q1 N:=
  hE (H:=qk) (by kernel_rfl) h
theorem sC (Q:QT [.int .i64,.bool]) (N0:Nat) (s0:ByteArray) (b6:Bool) (s7:ByteArray) (n8 n9:Int) (N:Nat) (h :
Br (decide (n9<(s7.size:Int))) ((0<=n9/\n9<(s7.size:Int))/\Br (decide ((UInt8.toNat (Array.getD (ByteArray.data s7) n9.toNat (OfNat.ofNat 0)):Int) <
 48)) (∀ a,N<=a->Q 0 false a) ((0<=n9/\n9<(s7.size:Int))/\Br (decide ((UInt8.toNat (Array.getD (ByteArray.data s7) n9.toNat (OfNat.ofNat 0)):Int)
 > 57)) (∀ a,N<=a->Q 0 false a) ((0<=n9/\n9<(s7.size:Int))/\zr Q N0 s0 b6 s7 (IntKind.i64.wrap (IntKind.i64.wrap (10*n8)+IntKind.i64.wrap
 (IntKind.u8.wrap ((UInt8.toNat (Array.getD (ByteArray.data s7) n9.toNat (OfNat.ofNat 0)):Int) - 48)))) (IntKind.i64.wrap (n9+1)) N))) (Br b6 (∀ a,N<=a
 -> ACalls prog 266 [.str] [.int .i64 (IntKind.i64.wrap (0 - n8))] a (fun s b=>a<=b->Br (!(ByteArray.toList s==ByteArray.toList s0)) (∀ a,b<=a
 -> Q 0 false a) (∀ a,b<=a->Q (IntKind.i64.wrap (0 - n8)) true a))) (∀ a,N<=a->ACalls prog 266 [.str] [.int .i64 n8] a (fun b c=>a <=
 c->Br (!(ByteArray.toList b==ByteArray.toList s0)) (∀ a,c<=a->Q 0 false a) (∀ a,c<=a->Q n8 true a))))):zr Q N0 s0 b6 s7 n8 n9 N:=
  hE (H:=qo) (by kernel_rfl) h
theorem tF (N:Nat) (n1:Int) (sB0_0:ByteArray) (nB0_1:Int) (bB0_2:Bool) (Q:QT [(Sh.ag 9),Sh.str,(Sh.int IntKind.i64),Sh.bool]) (h:∀ E:Env,
Br bB0_2 (zO E [.var [.str (bytes []),.int .i64 0,.bool false]]/\∀ a,N<=a->Q (D.ag [D.lit (.int .i64 0),D.lit (.string (bytes [])),D.lit (.string (bytes
 [])),D.lit (.int .i64 0),D.lit (.int .i64 0),D.sl Option.none 2 [] 0,D.lit (.int .i64 0),D.sl Option.none 2 [] 0,D.sl Option.none 9 [] 0]) sB0_0 nB0_1 true
 a) (Br (decide (n1>20)) (zO E [.var [.str (bytes []),.int .i64 0,.bool false]]/\∀ a,N<=a->Q (D.ag [D.lit (.int .i64 0),D.lit (.string (bytes [])),
 D.lit (.string (bytes [])),D.lit (.int .i64 0),D.lit (.int .i64 0),D.sl Option.none 2 [] 0,D.lit (.int .i64 0),D.sl Option.none 2 [] 0,D.sl Option.none 9 []
 0]) sB0_0 nB0_1 true a) (Br (decide (nB0_1≥(sB0_0.size:Int))) (zO E [.var [.str (bytes []),.int .i64 0,.bool false]]/\∀ a,N<=a->Q (D.ag [D.lit (.int
 .i64 0),D.lit (.string (bytes [])),D.lit (.string (bytes [])),D.lit (.int .i64 0),D.lit (.int .i64 0),D.sl Option.none 2 [] 0,D.lit (.int .i64 0),D.sl Option.none
 2 [] 0,D.sl Option.none 9 [] 0]) sB0_0 nB0_1 (decide (nB0_1≥(sB0_0.size:Int))) a) (∀ c,N<=c->BCalls prog 253 [.bool,.str,.int .i64,.bool] [.pb 0
 0 0 0,.str (bytes [35,116])] [Bx.var [.str sB0_0,.int .i64 nB0_1,.bool (decide (nB0_1≥(sB0_0.size:Int)))]] c (fun b s n d e=>c<=e->Br b (∀
 a,e<=a->ACalls prog 205 [.ag 9] [.int .i64 1] a (fun x b=>a<=b->Bel b x->zO E [.var [.str (bytes []),.int .i64 0,.bool false]]/\∀ a,
 b<=a->Q x s n d a)) (∀ b,e<=b->BCalls prog 253 [.bool,.str,.int .i64,.bool] [.pb 0 0 0 0,.str (bytes [35,102])] [Bx.var [.str s,.int .i64
 n,.bool d]] b (fun c d e f g=>b<=g->Br c (∀ a,g<=a->ACalls prog 205 [.ag 9] [.int .i64 0] a (fun b c=>a<=c
 -> Bel c b->zO E [.var [.str (bytes []),.int .i64 0,.bool false]]/\∀ a,c<=a->Q b d e f a)) (∀ b,g<=b->BCalls prog 253 [.bool,
 .str,.int .i64,.bool] [.pb 0 0 0 0,.str (bytes [126])] [Bx.var [.str d,.int .i64 e,.bool f]] b (fun c d e f g=>b<=g->Br c (∀
 b,g<=b->BCalls prog 241 [.ag 9,.str,.int .i64,.bool] [.pb 0 0 0 0,.int .i64 (IntKind.i64.wrap (n1+1))] [Bx.var [.str d,.int .i64 e,.bool
 f]] b (fun c d e f g=>b<=g->Bel g c->(1=([c]).length/\1=1)/\(1=([c]).length/\1=1)/\(1=([c]).length/\1=1) /\
 ∀ a b,g<=b->Fresh N b a [D.ag [c],D.sl Option.none 2 [] 0,D.sl Option.none 2 [] 0]->zO E [.var [.str (bytes []),.int .i64 0,.bool false]] /\
 ∀ g,b<=g->Q (D.ag [D.lit (.int .i64 11),D.lit (.string (bytes [])),D.lit (.string (bytes [])),D.lit (.int .i64 0),D.lit (.int .i64 0),D.sl Option.none
 2 [] 0,D.lit (.int .i64 0),D.sl Option.none 2 [] 0,D.sl a 9 [c] 1]) d e f g)) (∀ a,g<=a->BCalls prog 253 [.bool,.str,.int .i64,.bool]
 [.pb 0 0 0 0,.str (bytes [60])] [Bx.var [.str d,.int .i64 e,.bool f]] a (fun b c d e f=>a<=f->Br b (∀ a,f<=a->BCalls
 prog 241 [.ag 9,.str,.int .i64,.bool] [.pb 0 0 0 0,.int .i64 (IntKind.i64.wrap (n1+1))] [Bx.var [.str c,.int .i64 d,.bool e]] a (fun b c d
 e f=>a<=f->Bel f b->∀ a,f<=a->BCalls prog 254 [.str,.int .i64,.bool] [.pb 0 0 0 0,.str (bytes [62])] [Bx.var [.str c,.int
 .i64 d,.bool e]] a (fun c d e f=>a<=f->(1=([b]).length/\1=1)/\(1=([b]).length/\1=1)/\(1=([b]).length/\1=1)/\(1
 = ([b]).length/\1=1)/\(1=([b]).length/\1=1)/\∀ a g,f<=g->Fresh N g a [D.ag [b],D.sl Option.none 2 [] 0,D.sl Option.none 2 []
 0]->zO E [.var [.str (bytes []),.int .i64 0,.bool false]]/\∀ f,g<=f->Q (D.ag [D.lit (.int .i64 10),D.lit (.string (bytes [])),D.lit (.string (bytes
 [])),D.lit (.int .i64 0),D.lit (.int .i64 0),D.sl Option.none 2 [] 0,D.lit (.int .i64 0),D.sl Option.none 2 [] 0,D.sl a 9 [b] 1]) c d e f)))
 (∀ a,f<=a->BCalls prog 253 [.bool,.str,.int .i64,.bool] [.pb 0 0 0 0,.str (bytes [40])] [Bx.var [.str c,.int .i64 d,.bool e]] a (fun b
 c d e f=>a<=f->Br b (∀ a,f<=a->BCalls prog 255 [.ag 9,.str,.int .i64,.bool] [.pb 0 0 0 0,.int .i64 (IntKind.i64.wrap (n1 +
 1))] [Bx.var [.str c,.int .i64 d,.bool e]] a (fun b c d e f=>a<=f->Bel f b->zO E [.var [.str (bytes []),.int .i64 0,.bool
 false]]/\∀ a,f<=a->Q b c d e a)) ((0<=d/\d<(c.size:Int))/\Br (decide ((UInt8.toNat (Array.getD (ByteArray.data c) d.toNat
 (OfNat.ofNat 0)):Int)≥48)) ((0<=d/\d<(c.size:Int))/\Br (decide ((UInt8.toNat (Array.getD (ByteArray.data c) d.toNat (OfNat.ofNat 0)):Int)
 <= 57)) (∀ a,f<=a->BCalls prog 256 [.ag 9,.str,.int .i64,.bool] [.pb 0 0 0 0] [Bx.var [.str c,.int .i64 d,.bool e]] a (fun b c d
 e f=>a<=f->Bel f b->zO E [.var [.str (bytes []),.int .i64 0,.bool false]]/\∀ a,f<=a->Q b c d e a)) (∀ a,f
 <= a->BCalls prog 257 [.str,.str,.int .i64,.bool] [.pb 0 0 0 0] [Bx.var [.str c,.int .i64 d,.bool e]] a (fun b c d e f=>a <=
 f->∀ a,f<=a->ACalls prog 155 [.ag 9] [.str b] a (fun b f=>a<=f->Bel f b->zO E [.var [.str (bytes []),.int .i64 0,.bool
 false]]/\∀ a,f<=a->Q b c d e a)))) (∀ a,f<=a->BCalls prog 257 [.str,.str,.int .i64,.bool] [.pb 0 0 0 0] [Bx.var [.str c,
 .int .i64 d,.bool e]] a (fun b c d e f=>a<=f->∀ a,f<=a->ACalls prog 155 [.ag 9] [.str b] a (fun b f=>a
 <= f->Bel f b->zO E [.var [.str (bytes []),.int .i64 0,.bool false]]/\∀ a,f<=a->Q b c d e a))))))))))))))))):BCalls prog 241 [(Sh.ag 9),Sh.str,(Sh.int IntKind.i64),Sh.bool] [.pb 0 0 0 0,.int .i64 n1] [.var [.str sB0_0,.int .i64 nB0_1,.bool bB0_2]] N Q:=
  bE (H:=zEy) (by kernel_rfl) (fun E=>by kernel_rfl) h
theorem zBJ (N:Nat) (s1 sB0_0:ByteArray) (nB0_1:Int) (bB0_2:Bool) (Q:QT [Sh.bool,Sh.str,(Sh.int IntKind.i64),Sh.bool]) (h:∀ E:Env,
Br bB0_2 (zO E [.var [.str (bytes []),.int .i64 0,.bool false]]/\∀ a,N<=a->Q false sB0_0 nB0_1 bB0_2 a) (Br (decide (IntKind.i64.wrap (nB0_1+(s1.size
 : Int))>(sB0_0.size:Int))) (zO E [.var [.str (bytes []),.int .i64 0,.bool false]]/\∀ a,N<=a->Q false sB0_0 nB0_1 bB0_2 a) ((0<=nB0_1/\nB0_1<=IntKind.i64.wrap
 (nB0_1+(s1.size:Int))/\IntKind.i64.wrap (nB0_1+(s1.size:Int))<=(sB0_0.size:Int))/\Br (!(ByteArray.toList (ByteArray.extract sB0_0 nB0_1.toNat (IntKind.i64.wrap
 (nB0_1+(s1.size:Int))).toNat)==ByteArray.toList s1)) (zO E [.var [.str (bytes []),.int .i64 0,.bool false]]/\∀ a,N<=a->Q false sB0_0 nB0_1 bB0_2 a)
 (zO E [.var [.str (bytes []),.int .i64 0,.bool false]]/\∀ a,N<=a->Q true sB0_0 (IntKind.i64.wrap (nB0_1+(s1.size:Int))) bB0_2 a)))):BCalls prog 253 [Sh.bool,Sh.str,(Sh.int IntKind.i64),Sh.bool] [.pb 0 0 0 0,.str s1] [.var [.str sB0_0,.int .i64 nB0_1,.bool bB0_2]] N Q:=
  bE (H:=zFR) (by kernel_rfl) (fun E=>by kernel_rfl) h
theorem zBM (N:Nat) (s1 sB0_0:ByteArray) (nB0_1:Int) (bB0_2:Bool) (Q:QT [Sh.str,(Sh.int IntKind.i64),Sh.bool]) (h:∀ E:Env,
Br bB0_2 (zO E [.var [.str (bytes []),.int .i64 0,.bool false]]/\∀ a,N<=a->Q sB0_0 nB0_1 true a) (∀ a,N<=a->BCalls prog 253 [.bool,.str,.int
 .i64,.bool] [.pb 0 0 0 0,.str s1] [Bx.var [.str sB0_0,.int .i64 nB0_1,.bool bB0_2]] a (fun b s n _ c=>a<=c->zO E [.var [.str (bytes []),.int .i64
 0,.bool false]]/\∀ a,c<=a->Q s n (!b) a))):BCalls prog 254 [Sh.str,(Sh.int IntKind.i64),Sh.bool] [.pb 0 0 0 0,.str s1] [.var [.str sB0_0,.int .i64 nB0_1,.bool bB0_2]] N Q:=
  bE (H:=zFI) (by kernel_rfl) (fun E=>by kernel_rfl) h
theorem zBS (N:Nat) (n1:Int) (sB0_0:ByteArray) (nB0_1:Int) (bB0_2:Bool) (Q:QT [(Sh.ag 9),Sh.str,(Sh.int IntKind.i64),Sh.bool]) (h:∀ E:Env,
∀ a,N<=a->BCalls prog 253 [.bool,.str,.int .i64,.bool] [.pb 0 0 0 0,.str (bytes [92])] [Bx.var [.str sB0_0,.int .i64 nB0_1,.bool bB0_2]] a (fun b
 s n c d=>a<=d->Br b (∀ a,d<=a->BCalls prog 257 [.str,.str,.int .i64,.bool] [.pb 0 0 0 0] [Bx.var [.str s,.int .i64 n,.bool c]] a (fun
 b c d e f=>a<=f->∀ a,f<=a->BCalls prog 254 [.str,.int .i64,.bool] [.pb 0 0 0 0,.str (bytes [58])] [Bx.var [.str c,.int .i64 d,
 .bool e]] a (fun c d e f=>a<=f->∀ a,f<=a->BCalls prog 261 [.ag 2,.str,.int .i64,.bool] [.pb 0 0 0 0,.int .i64 1] [Bx.var [.str c,
 .int .i64 d,.bool e]] a (fun x c d e f=>a<=f->Bel f x->∀ a,f<=a->BCalls prog 254 [.str,.int .i64,.bool] [.pb 0 0 0 0,.str (bytes
 [46])] [Bx.var [.str c,.int .i64 d,.bool e]] a (fun c d e f=>a<=f->∀ a,f<=a->BCalls prog 262 [.ag 9,.str,.int .i64,.bool]
 [.pb 0 0 0 0,.dg 9 (D.ag [D.lit (.int .i64 6),D.lit (.string b),D.lit (.string (bytes [])),D.lit (.int .i64 0),(x.cell 0),(x.cell 1),D.lit (.int .i64 0),
 D.sl Option.none 2 [] 0,D.sl Option.none 9 [] 0]),.int .i64 1,.int .i64 n1] [Bx.var [.str c,.int .i64 d,.bool e]] a (fun b c d e f=>a
 <= f->Bel f b->zO E [.var [.str (bytes []),.int .i64 0,.bool false]]/\∀ a,f<=a->Q b c d e a)))))) (∀ a,d<=a->BCalls
 prog 253 [.bool,.str,.int .i64,.bool] [.pb 0 0 0 0,.str (bytes [108,101,116,32])] [Bx.var [.str s,.int .i64 n,.bool c]] a (fun b c d e f
 => a<=f->Br b (∀ a,f<=a->BCalls prog 257 [.str,.str,.int .i64,.bool] [.pb 0 0 0 0] [Bx.var [.str c,.int .i64 d,.bool e]] a (fun
 b c d e f=>a<=f->∀ a,f<=a->BCalls prog 254 [.str,.int .i64,.bool] [.pb 0 0 0 0,.str (bytes [61])] [Bx.var [.str c,.int .i64
 d,.bool e]] a (fun c d e f=>a<=f->∀ a,f<=a->BCalls prog 262 [.ag 9,.str,.int .i64,.bool] [.pb 0 0 0 0,.dg 9 (D.ag [D.lit
 (.int .i64 8),D.lit (.string b),D.lit (.string (bytes [])),D.lit (.int .i64 0),D.lit (.int .i64 0),D.sl Option.none 2 [] 0,D.lit (.int .i64 0),D.sl Option.none
 2 [] 0,D.sl Option.none 9 [] 0]),.int .i64 2,.int .i64 n1] [Bx.var [.str c,.int .i64 d,.bool e]] a (fun b c d e f=>a<=f->Bel
 f b->zO E [.var [.str (bytes []),.int .i64 0,.bool false]]/\∀ a,f<=a->Q b c d e a)))) (∀ a,f<=a->BCalls prog 253 [.bool,
 .str,.int .i64,.bool] [.pb 0 0 0 0,.str (bytes [114,101,99,32])] [Bx.var [.str c,.int .i64 d,.bool e]] a (fun b c d e f=>a <=
 f->Br b (∀ a,f<=a->BCalls prog 263 [.ag 9,.str,.int .i64,.bool] [.pb 0 0 0 0,.int .i64 n1] [Bx.var [.str c,.int .i64 d,.bool e]]
 a (fun b c d e f=>a<=f->Bel f b->zO E [.var [.str (bytes []),.int .i64 0,.bool false]]/\∀ a,f<=a->Q b c d
 e a)) (∀ a,f<=a->BCalls prog 253 [.bool,.str,.int .i64,.bool] [.pb 0 0 0 0,.str (bytes [105,102,32])] [Bx.var [.str c,.int .i64 d,
 .bool e]] a (fun b c d e f=>a<=f->Br b (∀ a,f<=a->BCalls prog 262 [.ag 9,.str,.int .i64,.bool] [.pb 0 0 0 0,.dg
 9 (D.ag [D.lit (.int .i64 5),D.lit (.string (bytes [])),D.lit (.string (bytes [])),D.lit (.int .i64 0),D.lit (.int .i64 0),D.sl Option.none 2 [] 0,D.lit (.int
 .i64 0),D.sl Option.none 2 [] 0,D.sl Option.none 9 [] 0]),.int .i64 3,.int .i64 n1] [Bx.var [.str c,.int .i64 d,.bool e]] a (fun b c d
 e f=>a<=f->Bel f b->zO E [.var [.str (bytes []),.int .i64 0,.bool false]]/\∀ a,f<=a->Q b c d e a)) (∀ a,f
 <= a->BCalls prog 253 [.bool,.str,.int .i64,.bool] [.pb 0 0 0 0,.str (bytes [114,117,110,32])] [Bx.var [.str c,.int .i64 d,.bool e]] a (fun
 b c d e f=>a<=f->Br b (∀ a,f<=a->BCalls prog 262 [.ag 9,.str,.int .i64,.bool] [.pb 0 0 0 0,.dg 9 (D.ag [D.lit (.int .i64
 12),D.lit (.string (bytes [])),D.lit (.string (bytes [])),D.lit (.int .i64 0),D.lit (.int .i64 0),D.sl Option.none 2 [] 0,D.lit (.int .i64 0),D.sl Option.none
 2 [] 0,D.sl Option.none 9 [] 0]),.int .i64 1,.int .i64 n1] [Bx.var [.str c,.int .i64 d,.bool e]] a (fun b c d e f=>a<=f ->
 Bel f b->zO E [.var [.str (bytes []),.int .i64 0,.bool false]]/\∀ a,f<=a->Q b c d e a)) (∀ a,f<=a->BCalls prog 253
 [.bool,.str,.int .i64,.bool] [.pb 0 0 0 0,.str (bytes [108,105,102,116,32])] [Bx.var [.str c,.int .i64 d,.bool e]] a (fun b c d e
 f=>a<=f->Br b (∀ a,f<=a->BCalls prog 262 [.ag 9,.str,.int .i64,.bool] [.pb 0 0 0 0,.dg 9 (D.ag [D.lit (.int .i64 13),D.lit (.string
 (bytes [])),D.lit (.string (bytes [])),D.lit (.int .i64 0),D.lit (.int .i64 0),D.sl Option.none 2 [] 0,D.lit (.int .i64 0),D.sl Option.none 2 [] 0,D.sl Option.none
 9 [] 0]),.int .i64 1,.int .i64 n1] [Bx.var [.str c,.int .i64 d,.bool e]] a (fun b c d e f=>a<=f->Bel f b->zO E [.var
 [.str (bytes []),.int .i64 0,.bool false]]/\∀ a,f<=a->Q b c d e a)) (∀ a,f<=a->BCalls prog 253 [.bool,.str,.int .i64,.bool]
 [.pb 0 0 0 0,.str (bytes [33])] [Bx.var [.str c,.int .i64 d,.bool e]] a (fun b c d e f=>a<=f->Br b (∀ a,f<=a
 -> BCalls prog 262 [.ag 9,.str,.int .i64,.bool] [.pb 0 0 0 0,.dg 9 (D.ag [D.lit (.int .i64 4),D.lit (.string (bytes [33])),D.lit (.string (bytes [])),D.lit
 (.int .i64 0),D.lit (.int .i64 0),D.sl Option.none 2 [] 0,D.lit (.int .i64 0),D.sl Option.none 2 [] 0,D.sl Option.none 9 [] 0]),.int .i64 1,.int .i64 n1]
 [Bx.var [.str c,.int .i64 d,.bool e]] a (fun b c d e f=>a<=f->Bel f b->zO E [.var [.str (bytes []),.int .i64 0,.bool
 false]]/\∀ a,f<=a->Q b c d e a)) (∀ a,f<=a->BCalls prog 241 [.ag 9,.str,.int .i64,.bool] [.pb 0 0 0 0,.int .i64 n1] [Bx.var
 [.str c,.int .i64 d,.bool e]] a (fun b c d e f=>a<=f->Bel f b->∀ a,f<=a->BCalls prog 264 [.ag 9,.str,.int
 .i64,.bool] [.pb 0 0 0 0,.dg 9 b,.int .i64 n1] [Bx.var [.str c,.int .i64 d,.bool e]] a (fun b c d e f=>a<=f->Bel f
 b->zO E [.var [.str (bytes []),.int .i64 0,.bool false]]/\∀ a,f<=a->Q b c d e a))))))))))))))))):BCalls prog 255 [(Sh.ag 9),Sh.str,(Sh.int IntKind.i64),Sh.bool] [.pb 0 0 0 0,.int .i64 n1] [.var [.str sB0_0,.int .i64 nB0_1,.bool bB0_2]] N Q:=
  bE (H:=zEv) (by kernel_rfl) (fun E=>by kernel_rfl) h
theorem qq (N:Nat) (sB0_0:ByteArray) (nB0_1:Int) (bB0_2:Bool) (Q:QT [(Sh.ag 9),Sh.str,(Sh.int IntKind.i64),Sh.bool]) (h:∀ E:Env,
∀ a,N<=a->BCalls prog 257 [.str,.str,.int .i64,.bool] [.pb 0 0 0 0] [Bx.var [.str sB0_0,.int .i64 nB0_1,.bool bB0_2]] a (fun s b n c d=>a <=
 d->∀ a,d<=a->ACalls prog 265 [.int .i64,.bool] [.str s] a (fun d e f=>a<=f->Br c (∀ a,f<=a->ACalls prog 204 [.ag 9] [.int .i64
 d] a (fun x c=>a<=c->Bel c x->zO E [.var [.str (bytes []),.int .i64 0,.bool false]]/\∀ a,c<=a->Q x b n true a)) (∀ a,f<=a
 -> ACalls prog 204 [.ag 9] [.int .i64 d] a (fun c d=>a<=d->Bel d c->zO E [.var [.str (bytes []),.int .i64 0,.bool false]]/\∀ a,d<=a
 -> Q c b n (!e) a))))):BCalls prog 256 [(Sh.ag 9),Sh.str,(Sh.int IntKind.i64),Sh.bool] [.pb 0 0 0 0] [.var [.str sB0_0,.int .i64 nB0_1,.bool bB0_2]] N Q:=
  bE (H:=zCh) (by kernel_rfl) (fun E=>by kernel_rfl) h
theorem zBB (N:Nat) (sB0_0:ByteArray) (nB0_1:Int) (bB0_2:Bool) (Q:QT [Sh.str,Sh.str,(Sh.int IntKind.i64),Sh.bool]) (h:∀ E:Env,
yB E Q N nB0_1 sB0_0 nB0_1 bB0_2 N):BCalls prog 257 [Sh.str,Sh.str,(Sh.int IntKind.i64),Sh.bool] [.pb 0 0 0 0] [.var [.str sB0_0,.int .i64 nB0_1,.bool bB0_2]] N Q:=
 bE (H:=qE) (by kernel_rfl) (fun E=>by kernel_rfl) h
theorem tD (N:Nat) (n1:Int) (sB0_0:ByteArray) (nB0_1:Int) (bB0_2:Bool) (Q:QT [(Sh.ag 2),Sh.str,(Sh.int IntKind.i64),Sh.bool]) (h:∀ E:Env,
Br bB0_2 (zO E [.var [.str (bytes []),.int .i64 0,.bool false]]/\∀ a,N<=a->Q (D.ag [D.lit (.int .i64 0),D.sl Option.none 2 [] 0]) sB0_0 nB0_1 true a)
 (Br (decide (n1>8)) (zO E [.var [.str (bytes []),.int .i64 0,.bool false]]/\∀ a,N<=a->Q (D.ag [D.lit (.int .i64 0),D.sl Option.none 2 [] 0]) sB0_0 nB0_1
 (decide (n1>8)) a) (∀ c,N<=c->BCalls prog 253 [.bool,.str,.int .i64,.bool] [.pb 0 0 0 0,.str (bytes [73])] [Bx.var [.str sB0_0,.int .i64 nB0_1,.bool
 (decide (n1>8))]] c (fun b s n d e=>c<=e->Br b (∀ a,e<=a->ACalls prog 130 [.ag 2] [] a (fun x b=>a<=b->Bel b x->zO E [.var
 [.str (bytes []),.int .i64 0,.bool false]]/\∀ a,b<=a->Q x s n d a)) (∀ b,e<=b->BCalls prog 253 [.bool,.str,.int .i64,.bool] [.pb 0 0 0 0,
 .str (bytes [66])] [Bx.var [.str s,.int .i64 n,.bool d]] b (fun c d e f g=>b<=g->Br c (∀ a,g<=a->ACalls prog 151 [.ag 2] []
 a (fun b c=>a<=c->Bel c b->zO E [.var [.str (bytes []),.int .i64 0,.bool false]]/\∀ a,c<=a->Q b d e f a)) (∀ b,
 g<=b->BCalls prog 253 [.bool,.str,.int .i64,.bool] [.pb 0 0 0 0,.str (bytes [60])] [Bx.var [.str d,.int .i64 e,.bool f]] b (fun c d e
 f g=>b<=g->Br c (∀ b,g<=b->BCalls prog 261 [.ag 2,.str,.int .i64,.bool] [.pb 0 0 0 0,.int .i64 (IntKind.i64.wrap (n1+1))] [Bx.var
 [.str d,.int .i64 e,.bool f]] b (fun c d e f g=>b<=g->Bel g c->∀ b,g<=b->BCalls prog 254 [.str,.int .i64,.bool]
 [.pb 0 0 0 0,.str (bytes [62])] [Bx.var [.str d,.int .i64 e,.bool f]] b (fun d e f g=>b<=g->(1=([c]).length/\1=1)/\(1=([c]).length
 /\ 1=1)/\(1=([c]).length/\1=1)/\(1=([c]).length/\1=1)/\(1=([c]).length/\1=1)/\∀ a b,g<=b->Fresh N b a [D.ag [c]]->zO
 E [.var [.str (bytes []),.int .i64 0,.bool false]]/\∀ g,b<=g->Q (D.ag [D.lit (.int .i64 4),D.sl a 2 [c] 1]) d e f g))) (∀ a,g<=a
 -> BCalls prog 254 [.str,.int .i64,.bool] [.pb 0 0 0 0,.str (bytes [40])] [Bx.var [.str d,.int .i64 e,.bool f]] a (fun b c d e=>a<=e
 -> Br d (zO E [.var [.str (bytes []),.int .i64 0,.bool false]]/\∀ a,e<=a->Q (D.ag [D.lit (.int .i64 0),D.sl Option.none 2 [] 0]) b c d a)
 (∀ a,e<=a->BCalls prog 261 [.ag 2,.str,.int .i64,.bool] [.pb 0 0 0 0,.int .i64 (IntKind.i64.wrap (n1+1))] [Bx.var [.str b,.int .i64 c,.bool
 d]] a (fun b c d e f=>a<=f->Bel f b->∀ a,f<=a->BCalls prog 254 [.str,.int .i64,.bool] [.pb 0 0 0 0,.str (bytes [62])]
 [Bx.var [.str c,.int .i64 d,.bool e]] a (fun c d e f=>a<=f->Br e (zO E [.var [.str (bytes []),.int .i64 0,.bool false]]/\∀ a,
 f<=a->Q (D.ag [D.lit (.int .i64 0),D.sl Option.none 2 [] 0]) c d e a) (∀ a,f<=a->BCalls prog 261 [.ag 2,.str,.int .i64,.bool] [.pb
 0 0 0 0,.int .i64 (IntKind.i64.wrap (n1+1))] [Bx.var [.str c,.int .i64 d,.bool e]] a (fun c d e f g=>a<=g->Bel g c->∀
 a,g<=a->BCalls prog 254 [.str,.int .i64,.bool] [.pb 0 0 0 0,.str (bytes [41])] [Bx.var [.str d,.int .i64 e,.bool f]] a (fun d e f
 g=>a<=g->(2=([b,c]).length/\2=2)/\(2=([b,c]).length/\2=2)/\(2=([b,c]).length/\2=2)/\∀ a h,g<=h->Fresh
 N h a [D.ag [b,c]]->zO E [.var [.str (bytes []),.int .i64 0,.bool false]]/\∀ g,h<=g->Q (D.ag [D.lit (.int .i64 3),D.sl a 2 [b,c]
 2]) d e f g)))))))))))))))):BCalls prog 261 [(Sh.ag 2),Sh.str,(Sh.int IntKind.i64),Sh.bool] [.pb 0 0 0 0,.int .i64 n1] [.var [.str sB0_0,.int .i64 nB0_1,.bool bB0_2]] N Q:=
  bE (H:=zFn) (by kernel_rfl) (fun E=>by kernel_rfl) h
theorem zBO (N:Nat) (x1:D) (n2 n3:Int) (sB0_0:ByteArray) (nB0_1:Int) (bB0_2:Bool) (Q:QT [(Sh.ag 9),Sh.str,(Sh.int IntKind.i64),Sh.bool]) (h:∀ E:Env,
Bel N x1->sM E Q N n2 n3 0 sB0_0 nB0_1 bB0_2 x1 0 (bytes []) (bytes []) 0 0 Option.none [] 0 0 Option.none [] 0 Option.none [] 0 N):BCalls prog 262 [(Sh.ag 9),Sh.str,(Sh.int IntKind.i64),Sh.bool] [.pb 0 0 0 0,.dg 9 x1,.int .i64 n2,.int .i64 n3] [.var [.str sB0_0,.int .i64 nB0_1,.bool bB0_2]] N Q:=
 bE (H:=u9) (by kernel_rfl) (fun E=>by kernel_rfl) h
theorem zC0 (N:Nat) (n1:Int) (sB0_0:ByteArray) (nB0_1:Int) (bB0_2:Bool) (Q:QT [(Sh.ag 9),Sh.str,(Sh.int IntKind.i64),Sh.bool]) (h:∀ E:Env,
∀ a,N<=a->BCalls prog 257 [.str,.str,.int .i64,.bool] [.pb 0 0 0 0] [Bx.var [.str sB0_0,.int .i64 nB0_1,.bool bB0_2]] a (fun s b n c d=>a <=
 d->∀ a,d<=a->BCalls prog 254 [.str,.int .i64,.bool] [.pb 0 0 0 0,.str (bytes [32])] [Bx.var [.str b,.int .i64 n,.bool c]] a (fun b c d
 e=>a<=e->∀ a,e<=a->BCalls prog 257 [.str,.str,.int .i64,.bool] [.pb 0 0 0 0] [Bx.var [.str b,.int .i64 c,.bool d]] a (fun b c
 d e f=>a<=f->∀ a,f<=a->BCalls prog 254 [.str,.int .i64,.bool] [.pb 0 0 0 0,.str (bytes [58])] [Bx.var [.str c,.int .i64 d,.bool e]]
 a (fun c d e f=>a<=f->∀ a,f<=a->BCalls prog 261 [.ag 2,.str,.int .i64,.bool] [.pb 0 0 0 0,.int .i64 1] [Bx.var [.str c,.int .i64
 d,.bool e]] a (fun x c d e f=>a<=f->Bel f x->∀ a,f<=a->BCalls prog 254 [.str,.int .i64,.bool] [.pb 0 0 0 0,.str (bytes
 [62])] [Bx.var [.str c,.int .i64 d,.bool e]] a (fun c d e f=>a<=f->∀ a,f<=a->BCalls prog 261 [.ag 2,.str,.int .i64,.bool]
 [.pb 0 0 0 0,.int .i64 1] [Bx.var [.str c,.int .i64 d,.bool e]] a (fun c d e f g=>a<=g->Bel g c->∀ a,g<=a->BCalls
 prog 254 [.str,.int .i64,.bool] [.pb 0 0 0 0,.str (bytes [46])] [Bx.var [.str d,.int .i64 e,.bool f]] a (fun d e f g=>a<=g->∀ a,
 g<=a->BCalls prog 262 [.ag 9,.str,.int .i64,.bool] [.pb 0 0 0 0,.dg 9 (D.ag [D.lit (.int .i64 9),D.lit (.string s),D.lit (.string b),D.lit (.int
 .i64 0),(x.cell 0),(x.cell 1),(c.cell 0),(c.cell 1),D.sl Option.none 9 [] 0]),.int .i64 1,.int .i64 n1] [Bx.var [.str d,.int .i64 e,.bool f]]
 a (fun b c d e f=>a<=f->Bel f b->zO E [.var [.str (bytes []),.int .i64 0,.bool false]]/\∀ a,f<=a->Q b c d e
 a)))))))))):BCalls prog 263 [(Sh.ag 9),Sh.str,(Sh.int IntKind.i64),Sh.bool] [.pb 0 0 0 0,.int .i64 n1] [.var [.str sB0_0,.int .i64 nB0_1,.bool bB0_2]] N Q:=
  bE (H:=zHe) (by kernel_rfl) (fun E=>by kernel_rfl) h
theorem zA6 (N:Nat) (x1:D) (n2:Int) (sB0_0:ByteArray) (nB0_1:Int) (bB0_2:Bool) (Q:QT [(Sh.ag 9),Sh.str,(Sh.int IntKind.i64),Sh.bool]) (h:∀ E:Env,
Bel N x1->∀ c,N<=c->BCalls prog 253 [.bool,.str,.int .i64,.bool] [.pb 0 0 0 0,.str (bytes [32])] [Bx.var [.str sB0_0,.int .i64 nB0_1,.bool bB0_2]]
 c (fun b s n d e=>c<=e->Br b ((1=([x1]).length/\1=1)/\(1=([x1]).length/\1=1)/\(1=([x1]).length/\1=1)/\(1=([x1]).length/\1=1)
 /\ ∀ a b,e<=b->Fresh N b a [D.ag [x1]]->∀ c,b<=c->BCalls prog 262 [.ag 9,.str,.int .i64,.bool] [.pb 0 0 0 0,.dg 9 (D.ag [D.lit (.int .i64
 7),D.lit (.string (bytes [])),D.lit (.string (bytes [])),D.lit (.int .i64 0),D.lit (.int .i64 0),D.sl Option.none 2 [] 0,D.lit (.int .i64 0),D.sl Option.none
 2 [] 0,D.sl a 9 [x1] 1]),.int .i64 1,.int .i64 n2] [Bx.var [.str s,.int .i64 n,.bool d]] c (fun x a b d e=>c<=e->Bel e x->zO E [.var
 [.str (bytes []),.int .i64 0,.bool false]]/\∀ c,e<=c->Q x a b d c)) (Br d ((1=([x1]).length/\1=1)/\(1=([x1]).length/\1=1)/\(1=([x1]).length
 /\ 1=1)/\(1=([x1]).length/\1=1)/\(1=([x1]).length/\1=1)/\∀ a b,e<=b->Fresh N b a [D.ag [x1],D.sl Option.none 2 [] 0,D.sl Option.none
 2 [] 0]->zO E [.var [.str (bytes []),.int .i64 0,.bool false]]/\∀ c,b<=c->Q (D.ag [D.lit (.int .i64 7),D.lit (.string (bytes [])),D.lit (.string (bytes
 [])),D.lit (.int .i64 0),D.lit (.int .i64 0),D.sl Option.none 2 [] 0,D.lit (.int .i64 0),D.sl Option.none 2 [] 0,D.sl a 9 [x1] 1]) s n true c) (Br (decide
 (n≥(s.size:Int))) ((1=([x1]).length/\1=1)/\(1=([x1]).length/\1=1)/\(1=([x1]).length/\1=1)/\(1=([x1]).length/\1=1)/\(1=([x1]).length
 /\ 1=1)/\∀ a b,e<=b->Fresh N b a [D.ag [x1],D.sl Option.none 2 [] 0,D.sl Option.none 2 [] 0]->zO E [.var [.str (bytes []),.int .i64 0,.bool
 false]]/\∀ c,b<=c->Q (D.ag [D.lit (.int .i64 7),D.lit (.string (bytes [])),D.lit (.string (bytes [])),D.lit (.int .i64 0),D.lit (.int .i64 0),D.sl
 Option.none 2 [] 0,D.lit (.int .i64 0),D.sl Option.none 2 [] 0,D.sl a 9 [x1] 1]) s n true c) ((0<=n/\n<=IntKind.i64.wrap (n+1)/\IntKind.i64.wrap (n
 + 1)<=(s.size:Int))/\∀ a,e<=a->ACalls prog 231 [.int .i64] [.str (ByteArray.extract s n.toNat (IntKind.i64.wrap (n+1)).toNat)] a (fun b c
 => a<=c->Br (bne b 2) ((1=([x1]).length/\1=1)/\(1=([x1]).length/\1=1)/\(1=([x1]).length/\1=1)/\(1=([x1]).length/\1=1)/\(1=([x1]).length
 /\ 1=1)/\∀ a b,c<=b->Fresh N b a [D.ag [x1],D.sl Option.none 2 [] 0,D.sl Option.none 2 [] 0]->zO E [.var [.str (bytes []),.int .i64 0,.bool
 false]]/\∀ c,b<=c->Q (D.ag [D.lit (.int .i64 7),D.lit (.string (bytes [])),D.lit (.string (bytes [])),D.lit (.int .i64 0),D.lit (.int .i64 0),D.sl
 Option.none 2 [] 0,D.lit (.int .i64 0),D.sl Option.none 2 [] 0,D.sl a 9 [x1] 1]) s n true c) ((0<=n/\n<=IntKind.i64.wrap (n+1)/\IntKind.i64.wrap (n
 + 1)<=(s.size:Int))/\(1=([x1]).length/\1=1)/\(1=([x1]).length/\1=1)/\(1=([x1]).length/\1=1)/\(1=([x1]).length/\1=1)/\∀ a b,c
 <= b->Fresh N b a [D.ag [x1]]->∀ c,b<=c->BCalls prog 262 [.ag 9,.str,.int .i64,.bool] [.pb 0 0 0 0,.dg 9 (D.ag [D.lit (.int .i64 4),D.lit
 (.string (ByteArray.extract s n.toNat (IntKind.i64.wrap (n+1)).toNat)),D.lit (.string (bytes [])),D.lit (.int .i64 0),D.lit (.int .i64 0),D.sl Option.none
 2 [] 0,D.lit (.int .i64 0),D.sl Option.none 2 [] 0,D.sl a 9 [x1] 1]),.int .i64 1,.int .i64 n2] [Bx.var [.str s,.int .i64 (IntKind.i64.wrap (n+1)),.bool
 (decide (n≥(s.size:Int)))]] c (fun a b d e f=>c<=f->Bel f a->zO E [.var [.str (bytes []),.int .i64 0,.bool false]]/\∀ c,f
 <= c->Q a b d e c)))))))):BCalls prog 264 [(Sh.ag 9),Sh.str,(Sh.int IntKind.i64),Sh.bool] [.pb 0 0 0 0,.dg 9 x1,.int .i64 n2] [.var [.str sB0_0,.int .i64 nB0_1,.bool bB0_2]] N Q:=
  bE (H:=zE7) (by kernel_rfl) (fun E=>by kernel_rfl) h
theorem tq (E:Env) (Q:QT [Sh.str,Sh.str,(Sh.int IntKind.i64),Sh.bool]) (N0:Nat) (n3:Int) (s0_0:ByteArray) (n0_1:Int) (b0_2:Bool) (N:Nat) (h :
Br (decide (n0_1<(s0_0.size:Int))) ((0<=n0_1/\n0_1<(s0_0.size:Int))/\Br (decide ((UInt8.toNat (Array.getD (ByteArray.data s0_0) n0_1.toNat (OfNat.ofNat
 0)):Int)≥48)) ((0<=n0_1/\n0_1<(s0_0.size:Int))/\Br (decide ((UInt8.toNat (Array.getD (ByteArray.data s0_0) n0_1.toNat (OfNat.ofNat 0)):Int)<=57)) (yB
 E Q N0 n3 s0_0 (IntKind.i64.wrap (n0_1+1)) b0_2 N) ((0<=n0_1/\n0_1<(s0_0.size:Int))/\Br (decide ((UInt8.toNat (Array.getD (ByteArray.data s0_0) n0_1.toNat
 (OfNat.ofNat 0)):Int)≥97)) ((0<=n0_1/\n0_1<(s0_0.size:Int))/\Br (decide ((UInt8.toNat (Array.getD (ByteArray.data s0_0) n0_1.toNat (OfNat.ofNat 0)) :
 Int)<=122)) (yB E Q N0 n3 s0_0 (IntKind.i64.wrap (n0_1+1)) b0_2 N) ((0<=n3/\n3<=n0_1/\n0_1<=(s0_0.size:Int))/\zO E [.var [.str (bytes []),
 .int .i64 0,.bool false]]/\∀ a,N<=a->Q (ByteArray.extract s0_0 n3.toNat n0_1.toNat) s0_0 n0_1 b0_2 a)) ((0<=n3/\n3<=n0_1/\n0_1<=(s0_0.size:Int))
 /\ zO E [.var [.str (bytes []),.int .i64 0,.bool false]]/\∀ a,N<=a->Q (ByteArray.extract s0_0 n3.toNat n0_1.toNat) s0_0 n0_1 b0_2 a))) ((0<=n0_1/\n0_1
 < (s0_0.size:Int))/\Br (decide ((UInt8.toNat (Array.getD (ByteArray.data s0_0) n0_1.toNat (OfNat.ofNat 0)):Int)≥97)) ((0<=n0_1/\n0_1<(s0_0.size:Int))
 /\ Br (decide ((UInt8.toNat (Array.getD (ByteArray.data s0_0) n0_1.toNat (OfNat.ofNat 0)):Int)<=122)) (yB E Q N0 n3 s0_0 (IntKind.i64.wrap (n0_1 +
 1)) b0_2 N) ((0<=n3/\n3<=n0_1/\n0_1<=(s0_0.size:Int))/\zO E [.var [.str (bytes []),.int .i64 0,.bool false]]/\∀ a,N<=a->Q (ByteArray.extract s0_0
 n3.toNat n0_1.toNat) s0_0 n0_1 b0_2 a)) ((0<=n3/\n3<=n0_1/\n0_1<=(s0_0.size:Int))/\zO E [.var [.str (bytes []),.int .i64 0,.bool false]]/\∀ a,N <=
 a->Q (ByteArray.extract s0_0 n3.toNat n0_1.toNat) s0_0 n0_1 b0_2 a))) ((0<=n3/\n3<=n0_1/\n0_1<=(s0_0.size:Int))/\zO E [.var [.str (bytes []),.int .i64
 0,.bool false]]/\∀ a,N<=a->Q (ByteArray.extract s0_0 n3.toNat n0_1.toNat) s0_0 n0_1 b0_2 a)):yB E Q N0 n3 s0_0 n0_1 b0_2 N:=
  hE (H:=qE) (by kernel_rfl) h
theorem zCk (E:Env) (Q:QT [(Sh.ag 9),Sh.str,(Sh.int IntKind.i64),Sh.bool]) (N0:Nat) (n2 n3 n9:Int) (s0_0:ByteArray) (n0_1:Int) (b0_2:Bool) (y1:D) (n2_0:Int) (s2_1 s2_2:ByteArray) (n2_3 n2_4:Int) (a2_5:Option Addr) (e2_5:List D) (c2_5:Nat) (n2_6:Int) (a2_7:Option Addr) (e2_7:List D) (c2_7:Nat) (a2_8:Option Addr) (e2_8:List D) (c2_8:Nat) (N:Nat) (h :
Br (decide (n9<n2)) (Br (!b0_2) (Br (decide (n9>0)) (∀ d,N<=d->BCalls prog 254 [.str,.int .i64,.bool] [.pb 0 0 0 0,.str (bytes [32])] [Bx.var [.str
 s0_0,.int .i64 n0_1,.bool b0_2]] d (fun s n b e=>d<=e->∃ a d,∃ c:Nat,(y1.cell 8)=D.sl a 9 d c/\∀ f,e<=f->BCalls prog 241 [.ag 9,
 .str,.int .i64,.bool] [.pb 0 0 0 0,.int .i64 n3] [Bx.var [.str s,.int .i64 n,.bool b]] f (fun x b e g h=>f<=h->Bel h x->zOR a d c [x]
 /\ zB d [x] 136/\∀ (a:Nat),zV E Q N0 n2 n3 (IntKind.i64.wrap (n9+1)) b e g (y1.cell 0) (y1.cell 1) (y1.cell 2) (y1.cell 3) (y1.cell
 4) (y1.cell 5) (y1.cell 6) (y1.cell 7) (d++[x]).length a n2_0 s2_1 s2_2 n2_3 n2_4 a2_5 e2_5 c2_5 n2_6 a2_7 e2_7 c2_7 a2_8 e2_8 c2_8 (d++[x]) a h))) (∃
 a b,∃ c:Nat,(y1.cell 8)=D.sl a 9 b c/\∀ d,N<=d->BCalls prog 241 [.ag 9,.str,.int .i64,.bool] [.pb 0 0 0 0,.int .i64 n3] [Bx.var [.str
 s0_0,.int .i64 n0_1,.bool b0_2]] d (fun e f g h i=>d<=i->Bel i e->zOR a b c [e]/\zB b [e] 136/\∀ (a:Nat),zV
 E Q N0 n2 n3 (IntKind.i64.wrap (n9+1)) f g h (y1.cell 0) (y1.cell 1) (y1.cell 2) (y1.cell 3) (y1.cell 4) (y1.cell 5) (y1.cell 6) (y1.cell 7) (b++[e]).length
 a n2_0 s2_1 s2_2 n2_3 n2_4 a2_5 e2_5 c2_5 n2_6 a2_7 e2_7 c2_7 a2_8 e2_8 c2_8 (b++[e]) a i))) (∀ a,N<=a->BCalls prog 254 [.str,.int .i64,.bool]
 [.pb 0 0 0 0,.str (bytes [41])] [Bx.var [.str s0_0,.int .i64 n0_1,.bool b0_2]] a (fun b c d e=>a<=e->zO E [.var [.str (bytes []),.int .i64 0,
 .bool false]]/\∀ a,e<=a->Q y1 b c d a))) (∀ a,N<=a->BCalls prog 254 [.str,.int .i64,.bool] [.pb 0 0 0 0,.str (bytes [41])] [Bx.var
 [.str s0_0,.int .i64 n0_1,.bool b0_2]] a (fun b c d e=>a<=e->zO E [.var [.str (bytes []),.int .i64 0,.bool false]]/\∀ a,e<=a
 -> Q y1 b c d a))):sM E Q N0 n2 n3 n9 s0_0 n0_1 b0_2 y1 n2_0 s2_1 s2_2 n2_3 n2_4 a2_5 e2_5 c2_5 n2_6 a2_7 e2_7 c2_7 a2_8 e2_8 c2_8 N:=
  hE (H:=u9) (by kernel_rfl) h
theorem v7 (E:Env) (Q:QT [(Sh.ag 9),Sh.str,(Sh.int IntKind.i64),Sh.bool]) (N0:Nat) (n2 n3 n9:Int) (s0_0:ByteArray) (n0_1:Int) (b0_2:Bool) (x1_0 x1_1 x1_2 x1_3 x1_4 x1_5 x1_6 x1_7:D) (m1_8 c1_8:Nat) (n2_0:Int) (s2_1 s2_2:ByteArray) (n2_3 n2_4:Int) (a2_5:Option Addr) (e2_5:List D) (c2_5:Nat) (n2_6:Int) (a2_7:Option Addr) (e2_7:List D) (c2_7:Nat) (a2_8:Option Addr) (e2_8:List D) (c2_8:Nat) (r3:List D) (q3:Nat) (N:Nat) (h :
Br (decide (n9<n2)) (Br (!b0_2) (Br (decide (n9>0)) (∀ a,N<=a->BCalls prog 254 [.str,.int .i64,.bool] [.pb 0 0 0 0,.str (bytes [32])] [Bx.var [.str
 s0_0,.int .i64 n0_1,.bool b0_2]] a (fun s n b d=>a<=d->∀ a,d<=a->BCalls prog 241 [.ag 9,.str,.int .i64,.bool] [.pb 0 0 0 0,.int .i64 n3]
 [Bx.var [.str s,.int .i64 n,.bool b]] a (fun x b d e f=>a<=f->Bel f x->(m1_8=r3.length/\c1_8=q3)/\zB r3 [x] 136/\∀ (c:Nat),
 zV E Q N0 n2 n3 (IntKind.i64.wrap (n9+1)) b d e x1_0 x1_1 x1_2 x1_3 x1_4 x1_5 x1_6 x1_7 (r3++[x]).length c n2_0 s2_1 s2_2 n2_3 n2_4 a2_5
 e2_5 c2_5 n2_6 a2_7 e2_7 c2_7 a2_8 e2_8 c2_8 (r3++[x]) c f))) (∀ a,N<=a->BCalls prog 241 [.ag 9,.str,.int .i64,.bool] [.pb 0 0 0 0,.int .i64 n3] [Bx.var
 [.str s0_0,.int .i64 n0_1,.bool b0_2]] a (fun b c d e f=>a<=f->Bel f b->(m1_8=r3.length/\c1_8=q3)/\zB r3 [b] 136/\∀ (a
 : Nat),zV E Q N0 n2 n3 (IntKind.i64.wrap (n9+1)) c d e x1_0 x1_1 x1_2 x1_3 x1_4 x1_5 x1_6 x1_7 (r3++[b]).length a n2_0 s2_1 s2_2 n2_3
 n2_4 a2_5 e2_5 c2_5 n2_6 a2_7 e2_7 c2_7 a2_8 e2_8 c2_8 (r3++[b]) a f))) (∀ b,N<=b->BCalls prog 254 [.str,.int .i64,.bool] [.pb 0 0 0 0,.str (bytes
 [41])] [Bx.var [.str s0_0,.int .i64 n0_1,.bool b0_2]] b (fun c d e f=>b<=f->(m1_8=r3.length/\c1_8=q3)/\(m1_8=r3.length/\c1_8=q3) /\
 (m1_8=r3.length/\c1_8=q3)/\∀ a b,f<=b->Fresh N0 b a [D.ag r3,x1_0,x1_1,x1_2,x1_3,x1_4,x1_5,x1_6,x1_7]->zO E [.var [.str (bytes []),.int
 .i64 0,.bool false]]/\∀ f,b<=f->Q (D.ag [x1_0,x1_1,x1_2,x1_3,x1_4,x1_5,x1_6,x1_7,D.sl a 9 r3 q3]) c d e f))) (∀ a,N<=a->BCalls
 prog 254 [.str,.int .i64,.bool] [.pb 0 0 0 0,.str (bytes [41])] [Bx.var [.str s0_0,.int .i64 n0_1,.bool b0_2]] a (fun b c d e=>a<=e->(m1_8
 = r3.length/\c1_8=q3)/\(m1_8=r3.length/\c1_8=q3)/\(m1_8=r3.length/\c1_8=q3)/\∀ a f,e<=f->Fresh N0 f a [D.ag r3,x1_0,x1_1,x1_2,
 x1_3,x1_4,x1_5,x1_6,x1_7]->zO E [.var [.str (bytes []),.int .i64 0,.bool false]]/\∀ e,f<=e->Q (D.ag [x1_0,x1_1,x1_2,x1_3,x1_4,x1_5,x1_6,
 x1_7,D.sl a 9 r3 q3]) b c d e))):zV E Q N0 n2 n3 n9 s0_0 n0_1 b0_2 x1_0 x1_1 x1_2 x1_3 x1_4 x1_5 x1_6 x1_7 m1_8 c1_8 n2_0 s2_1 s2_2 n2_3 n2_4 a2_5 e2_5 c2_5 n2_6 a2_7 e2_7 c2_7 a2_8 e2_8 c2_8 r3 q3 N:=
  hE (H:=u9) (by kernel_rfl) h
end Go.Proofs.YtkdjhkfiolhkiaaGreat
set_option maxRecDepth 100000
namespace Go.Proofs.YtkdjhkfiolhkiaaGreat
open Go Go.Proofs Go.Proofs.Tryz
def zCa:Hint:=⟨[],[],[]⟩
def zEu:Hint:=⟨[],[],[(3,hs 3 [ec 1 [13]]),(5,hs 4 [ec 2 [17,18]])]⟩
def zEs:Hint:=⟨[],[],[(2,hs 7 [ec 4 [9]])]⟩
def zHC:Hint:=⟨[],[],[(4,[en 0,en 1,en 3,en 4,en 5,en 7,en 8,en 9,en 10,en 11,en 12,en 14,en 15,en 16,en 17,en 18,en 19,eh 2,eh 6,eh 13,eh 20,en 21,eh 22,eh 23]),(7,[en 0,en 1,en 2,en 3,en 4,en 5,en 6,en 8,en 9,en 10,en 11,en 12,en 14,en 15,en 16,en 17,eh 7,ec 13 [60],eh 18,ec 19 [56,67],eh 20]),(10,[en 0,en 1,en 2,en 3,en 4,en 5,en 6,en 8,en 9,en 10,en 11,en 14,en 15,en 16,en 17,en 18,en 19,ec 7 [79],eh 12,ec 13 [75,86],eh 20,en 21,eh 22,eh 23]),(12,hs 5 [ec 2 [100]]),(13,[en 0,en 1,en 2,en 4,en 6,en 7,en 8,eh 3,ec 5 [108],eh 9,en 10,eh 11,eh 12]),(15,hs 12 [ec 3 [120]])]⟩
def zFK:Hint:=⟨[],[],[(4,[en 0,en 1,en 3,en 4,en 5,en 6,en 7,en 8,en 10,en 11,en 12,en 13,en 14,en 15,eh 2,eh 9,eh 16,en 17,eh 18,eh 19]),(9,[en 0,en 1,en 3,en 4,en 5,en 6,en 7,en 8,en 10,en 11,en 12,en 13,en 14,en 15,eh 2,eh 9,eh 16,en 17,eh 18,eh 19]),(10,[en 0,en 1,en 3,en 4,en 5,en 6,en 7,en 8,en 10,en 11,en 12,en 13,en 14,en 15,eh 2,eh 9,eh 16,en 17,eh 18,eh 19])]⟩
def tY:Hint:=⟨[],[hc 5 [0,1,3,4,7,10],hc 18 [0,1,3,4,7,10]],[(15,[en 0,en 1,en 2,en 3,en 4,en 5,en 6,en 7,en 8,en 9,en 10,en 11,en 12,en 14,en 15,en 16,en 17,en 18,en 19,en 20,ec 13 [68],eh 21,ec 22 [61,78],eh 23]),(16,hs 9 [ec 4 [83]])]⟩
def zCD:Hint:=⟨[],[],[(4,[en 0,en 2,en 4,en 5,en 8,en 9,en 11,en 14,en 15,en 18,en 22,eh 1,eh 3,eh 6,eh 7,eh 10,eh 12,eh 13,eh 16,en 17,eh 19,en 20,en 21,eh 23]),(5,[en 0,en 1,en 2,en 3,eh 4,en 5,ec 6 [33],eh 7])]⟩
def rp:Hint:=⟨[],[],[(6,hs 5 [ec 2 [15]])]⟩
def xJ (E:Env) (Q:QT [(Sh.ag 9),(Sh.sl 0),(Sh.int IntKind.i64),(Sh.int IntKind.i64)]) (N0:Nat) (a1:Option Addr) (e1:List D) (c1:Nat) (n3 n4:Int) (a0_0:Option Addr) (e0_0:List D) (c0_0:Nat) (n0_1 n0_2:Int) (y1:D) (n2_0:Int) (s2_1 s2_2:ByteArray) (n2_3 n2_4:Int) (a2_5:Option Addr) (e2_5:List D) (c2_5:Nat) (n2_6:Int) (a2_7:Option Addr) (e2_7:List D) (c2_7:Nat) (a2_8:Option Addr) (e2_8:List D) (c2_8:Nat) (N:Nat):Prop:=AT prog 92 [(Sh.ag 9),(Sh.sl 0),(Sh.int IntKind.i64),(Sh.int IntKind.i64)] Q N0 (.io E [.var [.sv none 0 [] 0,.int .i64 0,.int .i64 0]]) (qT prog 92 5) ⟨.pb 0 0 0 0::.sv a1 4 e1 c1::an 1 (.int .i64 n3::.int .i64 n4::an 2 (.pb 1 0 0 0::an 2 (.pb 2 0 0 0::an 103 []))),[.var [.sv a0_0 0 e0_0 c0_0,.int .i64 n0_1,.int .i64 n0_2],.vd y1 2,.var [.int .i64 n2_0,.str s2_1,.str s2_2,.int .i64 n2_3,.int .i64 n2_4,.sv a2_5 2 e2_5 c2_5,.int .i64 n2_6,.sv a2_7 2 e2_7 c2_7,.sv a2_8 9 e2_8 c2_8]],N,some (yj E 0 [.var [.sv none 0 [] 0,.int .i64 0,.int .i64 0]],[])⟩
def xk (E:Env) (Q:QT [(Sh.ag 9),(Sh.sl 0),(Sh.int IntKind.i64),(Sh.int IntKind.i64)]) (N0:Nat) (a1:Option Addr) (e1:List D) (c1:Nat) (n3 n4:Int) (a0_0:Option Addr) (e0_0:List D) (c0_0:Nat) (n0_1 n0_2:Int) (y1:D) (n2_0:Int) (s2_1 s2_2:ByteArray) (n2_3 n2_4:Int) (a2_5:Option Addr) (e2_5:List D) (c2_5:Nat) (n2_6:Int) (a2_7:Option Addr) (e2_7:List D) (c2_7:Nat) (a2_8:Option Addr) (e2_8:List D) (c2_8:Nat) (N:Nat):Prop:=AT prog 92 [(Sh.ag 9),(Sh.sl 0),(Sh.int IntKind.i64),(Sh.int IntKind.i64)] Q N0 (.io E [.var [.sv none 0 [] 0,.int .i64 0,.int .i64 0]]) (qT prog 92 18) ⟨.pb 0 0 0 0::.sv a1 4 e1 c1::an 1 (.int .i64 n3::.int .i64 n4::an 2 (.pb 1 0 0 0::an 2 (.pb 2 0 0 0::an 103 []))),[.var [.sv a0_0 0 e0_0 c0_0,.int .i64 n0_1,.int .i64 n0_2],.vd y1 2,.var [.int .i64 n2_0,.str s2_1,.str s2_2,.int .i64 n2_3,.int .i64 n2_4,.sv a2_5 2 e2_5 c2_5,.int .i64 n2_6,.sv a2_7 2 e2_7 c2_7,.sv a2_8 9 e2_8 c2_8]],N,some (yj E 0 [.var [.sv none 0 [] 0,.int .i64 0,.int .i64 0]],[])⟩
theorem pE (N:Nat) (x0:D) (Q:QT [.int .i64]) (h :
Bel N x0->∃ n:Int,(x0.cell 0)=D.lit (.int .i64 n)/\Br (n==4) (∃ a b,∃ c:Nat,(x0.cell 1)=D.sl a 2 b c/\((0:Int)<=(0:Int)/\0<(b.length :
 Int))/\∀ a,N<=a->ACalls prog 206 [.int .i64] [.dg 2 (List.getD b 0 default)] a (fun b c=>a<=c->∀ a,c<=a->Q (IntKind.i64.wrap (1 +
 b)) a)) (∀ a,N<=a->Q 0 a)):ACalls prog 206 [.int .i64] [PV.dg 2 x0] N Q:=
  eE (H:=zEs) (by kernel_rfl) (by kernel_rfl) h
theorem ro (N:Nat) (a0:Option Addr) (e0:List D) (c0:Nat) (Q:QT [.ag 9]) (h :
Bel N (D.sl a0 0 e0 c0)->∀ b,N<=b->ACalls prog 58 [Sh.cu] [.sv a0 0 e0 c0] b (fun a c d n e f=>b<=f->∀ b,f<=b->BCalls prog 61 [.int
 .i64,.sl 0,.int .i64,.int .i64] [.pb 0 0 0 0,.int .i64 3] [Bx.var [.sv a 0 c d,.int .i64 n,.int .i64 e]] b (fun a c d e f g h=>b <=
 h->Bel h (D.sl c 0 d e)->Br (a==0) (∀ a,h<=a->BCalls prog 90 [.ag 9,.sl 0,.int .i64,.int .i64] [.pb 0 0 0 0] [Bx.var [.sv c 0 d
 e,.int .i64 f,.int .i64 g]] a (fun x b c d _ _ e=>a<=e->Bel e x->Bel e (D.sl b 0 c d)->∀ a,e<=a->Q x a)) (Br
 (a==1) (∀ a,h<=a->BCalls prog 88 [.ag 9,.sl 0,.int .i64,.int .i64] [.pb 0 0 0 0] [Bx.var [.sv c 0 d e,.int .i64 f,.int .i64 g]] a
 (fun b c d e _ _ f=>a<=f->Bel f b->Bel f (D.sl c 0 d e)->∀ a,f<=a->ACalls prog 118 [.ag 11] [.dg 9 b,.int .i64
 60] a (fun b c=>a<=c->Bel c b->∀ a,c<=a->Q (D.sub b 1 9) a))) (∀ a,h<=a->BCalls prog 88 [.ag 9,.sl 0,.int .i64,
 .int .i64] [.pb 0 0 0 0] [Bx.var [.sv c 0 d e,.int .i64 f,.int .i64 g]] a (fun b c d e _ _ f=>a<=f->Bel f b->Bel
 f (D.sl c 0 d e)->∀ a,f<=a->Q b a)))))):ACalls prog 45 [.ag 9] [PV.sv a0 0 e0 c0] N Q:=
  eE (H:=rp) (by kernel_rfl) (by kernel_rfl) h
theorem r7 (N:Nat) (aB0_0:Option Addr) (eB0_0:List D) (cB0_0:Nat) (nB0_1 nB0_2:Int) (Q:QT [(Sh.ag 9),(Sh.sl 0),(Sh.int IntKind.i64),(Sh.int IntKind.i64)]) (h:∀ E:Env,
Bel N (D.sl aB0_0 0 eB0_0 cB0_0)->∀ d,N<=d->BCalls prog 81 [.bool,.sl 0,.int .i64,.int .i64] [.pb 0 0 0 0,.int .i64 4] [Bx.var [.sv aB0_0 0 eB0_0 cB0_0,
 .int .i64 nB0_1,.int .i64 nB0_2]] d (fun b a c e n f g=>d<=g->Bel g (D.sl a 0 c e)->Br b (∀ b,g<=b->BCalls prog 150 [.ag 9,.sl 0,.int
 .i64,.int .i64] [.pb 0 0 0 0] [Bx.var [.sv a 0 c e,.int .i64 n,.int .i64 f]] b (fun x a c d e f g=>b<=g->Bel g x->Bel g (D.sl a
 0 c d)->zO E [.var [.sv none 0 [] 0,.int .i64 0,.int .i64 0]]/\∀ b,g<=b->Q x a c d e f b)) (∀ b,g<=b->ACalls prog 130 [.ag
 2] [] b (fun d g=>b<=g->Bel g d->∀ b,g<=b->ACalls prog 151 [.ag 2] [] b (fun g h=>b<=h->Bel h g->∀ b,h<=b
 -> ACalls prog 152 [.ag 2] [.dg 2 d] b (fun h i=>b<=i->Bel i h->∀ b,i<=b->ACalls prog 153 [.ag 2] [.dg 2 d,.dg 2 d] b
 (fun i j=>b<=j->Bel j i->∀ b,j<=b->ACalls prog 152 [.ag 2] [.dg 2 i] b (fun i j=>b<=j->Bel j i->∀ b,
 j<=b->ACalls prog 153 [.ag 2] [.dg 2 d,.dg 2 d] b (fun j k=>b<=k->Bel k j->∀ b,k<=b->ACalls prog 152 [.ag 2] [.dg
 2 d] b (fun k l=>b<=l->Bel l k->∀ b,l<=b->ACalls prog 152 [.ag 2] [.dg 2 k] b (fun k l=>b<=l->Bel l
 k->∀ b,l<=b->ACalls prog 152 [.ag 2] [.dg 2 d] b (fun l m=>b<=m->Bel m l->∀ b,m<=b->BCalls prog 61 [.int .i64,
 .sl 0,.int .i64,.int .i64] [.pb 0 0 0 0,.int .i64 8] [Bx.var [.sv a 0 c e,.int .i64 n,.int .i64 f]] b (fun a c e f m n o=>b<=o
 -> Bel o (D.sl c 0 e f)->(0<=a/\a<8/\(0+a.toNat:Nat)<([d,g,h,i,j,k,d,l]).length)/\(0+a.toNat:Nat)<([d,
 g,h,i,j,k,d,l]).length/\∀ b,o<=b->BCalls prog 61 [.int .i64,.sl 0,.int .i64,.int .i64] [.pb 0 0 0 0,.int .i64 3] [Bx.var [.sv
 c 0 e f,.int .i64 m,.int .i64 n]] b (fun c e f m n o p=>b<=p->Bel p (D.sl e 0 f m)->(0=0/\0=0)/\∀ b
 q,p<=q->Fresh N q b [D.ag []]->∀ p,q<=p->BCalls prog 92 [.ag 9,.sl 0,.int .i64,.int .i64] [.pb 0 0 0 0,.sv b 4 [] 0,.dg 2 (List.getD
 [d,g,h,i,j,k,d,l] (0+a.toNat:Nat) default),.int .i64 0,.int .i64 (IntKind.i64.wrap (3+c))] [Bx.var [.sv e 0 f m,.int .i64
 n,.int .i64 o]] p (fun a b c d e f g=>p<=g->Bel g a->Bel g (D.sl b 0 c d)->zO E [.var [.sv none 0 [] 0,
 .int .i64 0,.int .i64 0]]/\∀ h,g<=h->Q a b c d e f h))))))))))))))):BCalls prog 88 [(Sh.ag 9),(Sh.sl 0),(Sh.int IntKind.i64),(Sh.int IntKind.i64)] [.pb 0 0 0 0] [.var [.sv aB0_0 0 eB0_0 cB0_0,.int .i64 nB0_1,.int .i64 nB0_2]] N Q:=
  bE (H:=zCD) (by kernel_rfl) (fun E=>by kernel_rfl) h
theorem pL (N:Nat) (aB0_0:Option Addr) (eB0_0:List D) (cB0_0:Nat) (nB0_1 nB0_2:Int) (Q:QT [(Sh.ag 9),(Sh.sl 0),(Sh.int IntKind.i64),(Sh.int IntKind.i64)]) (h:∀ E:Env,
Bel N (D.sl aB0_0 0 eB0_0 cB0_0)->∀ d,N<=d->BCalls prog 132 [.str,.sl 0,.int .i64,.int .i64,.sl 0] [.pb 0 0 0 0,.sb 1 0 0 11 11] [Bx.var [.sv aB0_0
 0 eB0_0 cB0_0,.int .i64 nB0_1,.int .i64 nB0_2],Bx.arr 9 0 [D.lit (.string (bytes [60,40,92,120,58,73,46,126,40,40,114,101,99,32,112,32,110,58,
 73,62,60,73,62,46,40,105,102,32,40,110,61,48,41,32,60,49,62,32,60,40,120,42,126,40,112,32,40,110,45,49,41,41,41,62,41,41,32,
 51,41,41,62])),D.lit (.string (bytes [40,40,114,117,110,32,60,40,92,120,58,73,46,126,40,40,114,101,99,32,112,32,110,58,73,62,60,73,
 62,46,40,105,102,32,40,110,61,48,41,32,60,49,62,32,60,40,120,42,126,40,112,32,40,110,45,49,41,41,41,62,41,41,32,51,41,41,62,
 41,32,50,41])),D.lit (.string (bytes [40,108,101,116,32,99,61,60,40,49,43,50,41,62,32,60,40,126,99,42,126,99,41,62,41])),D.lit (.string
 (bytes [60,40,92,121,58,73,46,126,40,40,92,122,58,60,73,62,46,60,40,92,121,58,73,46,40,126,122,43,121,41,41,62,41,32,60,121,62,
 41,41,62])),D.lit (.string (bytes [40,114,117,110,32,60,40,114,117,110,32,60,53,62,41,62,41])),D.lit (.string (bytes [40,108,101,116,32,
 110,61,55,32,40,114,117,110,32,60,126,40,108,105,102,116,32,40,110,42,110,41,41,62,41,41])),D.lit (.string (bytes [40,40,114,101,99,
 32,102,32,120,58,73,62,73,46,40,105,102,32,40,120,60,49,41,32,48,32,40,120,43,40,102,32,40,120,45,49,41,41,41,41,41,32,52,41])),
 D.lit (.string (bytes [40,40,114,101,99,32,102,32,120,58,73,62,73,46,40,102,32,120,41,41,32,49,41])),D.lit (.string (bytes [60,60,126,40,
 108,105,102,116,32,51,41,62,62])),D.lit (.string (bytes [40,114,117,110,32,60,40,92,102,58,40,73,62,73,41,46,40,102,32,50,41,41,62,
 41])),D.lit (.string (bytes [60,40,108,101,116,32,103,61,40,92,120,58,73,46,120,41,32,126,40,105,102,32,35,116,32,60,40,103,32,49,
 41,62,32,60,50,62,41,41,62]))] 11] d (fun s a c e n f g h i j=>d<=j->Bel j (D.sl a 0 c e)->Bel j (D.sl g 0 h i)->∀ d,
 j<=d->ACalls prog 202 [.ag 9,.bool] [.str s] d (fun x _ b=>d<=b->Bel b x->zO E [.var [.sv none 0 [] 0,.int .i64 0,.int .i64 0]]/\∀ d,
 b<=d->Q x a c e n f d))):BCalls prog 150 [(Sh.ag 9),(Sh.sl 0),(Sh.int IntKind.i64),(Sh.int IntKind.i64)] [.pb 0 0 0 0] [.var [.sv aB0_0 0 eB0_0 cB0_0,.int .i64 nB0_1,.int .i64 nB0_2]] N Q:=
  bE (H:=zCa) (by kernel_rfl) (fun E=>by kernel_rfl) h
theorem ti (N:Nat) (a1:Option Addr) (e1:List D) (c1:Nat) (x2:D) (n3 n4:Int) (aB0_0:Option Addr) (eB0_0:List D) (cB0_0:Nat) (nB0_1 nB0_2:Int) (Q:QT [(Sh.ag 9),(Sh.sl 0),(Sh.int IntKind.i64),(Sh.int IntKind.i64)]) (h:∀ E:Env,
Bel N (D.sl a1 4 e1 c1)->Bel N x2->Bel N (D.sl aB0_0 0 eB0_0 cB0_0)->∀ d,N<=d->BCalls prog 81 [.bool,.sl 0,.int .i64,.int .i64] [.pb 0 0 0 0,.int .i64
 3] [Bx.var [.sv aB0_0 0 eB0_0 cB0_0,.int .i64 nB0_1,.int .i64 nB0_2]] d (fun b a c e n f g=>d<=g->Bel g (D.sl a 0 c e)->Br (!b) (∀ b,g
 <= b->BCalls prog 157 [.ag 9,.bool,.sl 0,.int .i64,.int .i64] [.pb 0 0 0 0,.sv a1 4 e1 c1,.dg 2 x2,.int .i64 n3] [Bx.var [.sv a 0 c e,.int .i64 n,.int
 .i64 f]] b (fun x a c d e f g h=>b<=h->Bel h x->Bel h (D.sl c 0 d e)->Br a (zO E [.var [.sv none 0 [] 0,.int .i64 0,
 .int .i64 0]]/\∀ a,h<=a->Q x c d e f g a) (xJ E Q N a1 e1 c1 n3 n4 c d e f g x2 0 (bytes []) (bytes []) 0 0 Option.none
 [] 0 0 Option.none [] 0 Option.none [] 0 h))) (xJ E Q N a1 e1 c1 n3 n4 a c e n f x2 0 (bytes []) (bytes []) 0 0 Option.none [] 0 0 Option.none []
 0 Option.none [] 0 g))):BCalls prog 92 [(Sh.ag 9),(Sh.sl 0),(Sh.int IntKind.i64),(Sh.int IntKind.i64)] [.pb 0 0 0 0,.sv a1 4 e1 c1,.dg 2 x2,.int .i64 n3,.int .i64 n4] [.var [.sv aB0_0 0 eB0_0 cB0_0,.int .i64 nB0_1,.int .i64 nB0_2]] N Q:=
  bE (H:=tY) (by kernel_rfl) (fun E=>by kernel_rfl) h
theorem rg (E:Env) (Q:QT [(Sh.ag 9),(Sh.sl 0),(Sh.int IntKind.i64),(Sh.int IntKind.i64)]) (N0:Nat) (a1:Option Addr) (e1:List D) (c1:Nat) (n3 n4:Int) (a0_0:Option Addr) (e0_0:List D) (c0_0:Nat) (n0_1 n0_2:Int) (y1:D) (n2_0:Int) (s2_1 s2_2:ByteArray) (n2_3 n2_4:Int) (a2_5:Option Addr) (e2_5:List D) (c2_5:Nat) (n2_6:Int) (a2_7:Option Addr) (e2_7:List D) (c2_7:Nat) (a2_8:Option Addr) (e2_8:List D) (c2_8:Nat) (N:Nat) (h :
Br (decide (n4<2)) (∀ b,N<=b->BCalls prog 158 [.ag 9,.sl 0,.int .i64,.int .i64] [.pb 0 0 0 0,.dg 2 y1,.int .i64 n3] [Bx.var [.sv a0_0 0 e0_0 c0_0,
 .int .i64 n0_1,.int .i64 n0_2]] b (fun x a c d n e f=>b<=f->Bel f x->Bel f (D.sl a 0 c d)->zO E [.var [.sv none 0 [] 0,.int .i64 0,.int
 .i64 0]]/\∀ b,f<=b->Q x a c d n e b)) (∀ a,N<=a->BCalls prog 81 [.bool,.sl 0,.int .i64,.int .i64] [.pb 0 0 0 0,.int .i64 3] [Bx.var [.sv
 a0_0 0 e0_0 c0_0,.int .i64 n0_1,.int .i64 n0_2]] a (fun b c d e f g h=>a<=h->Bel h (D.sl c 0 d e)->Br b (∀ a,h<=a->BCalls
 prog 159 [.ag 9,.sl 0,.int .i64,.int .i64] [.pb 0 0 0 0,.sv a1 4 e1 c1,.dg 2 y1,.int .i64 n3,.int .i64 n4] [Bx.var [.sv c 0 d e,.int .i64 f,.int
 .i64 g]] a (fun b c d e f g h=>a<=h->Bel h b->Bel h (D.sl c 0 d e)->zO E [.var [.sv none 0 [] 0,.int .i64 0,.int .i64
 0]]/\∀ a,h<=a->Q b c d e f g a)) (∃ a:Int,(y1.cell 0)=D.lit (.int .i64 a)/\Br (a==1) (∀ a,h<=a->BCalls prog 160 [.ag
 9,.sl 0,.int .i64,.int .i64] [.pb 0 0 0 0,.sv a1 4 e1 c1,.dg 2 y1,.int .i64 n3,.int .i64 n4] [Bx.var [.sv c 0 d e,.int .i64 f,.int .i64 g]] a
 (fun b c d e f g h=>a<=h->Bel h b->Bel h (D.sl c 0 d e)->zO E [.var [.sv none 0 [] 0,.int .i64 0,.int .i64 0]]/\∀
 a,h<=a->Q b c d e f g a)) (Br (a==2) (∀ a,h<=a->BCalls prog 160 [.ag 9,.sl 0,.int .i64,.int .i64] [.pb 0 0 0 0,.sv
 a1 4 e1 c1,.dg 2 y1,.int .i64 n3,.int .i64 n4] [Bx.var [.sv c 0 d e,.int .i64 f,.int .i64 g]] a (fun b c d e f g h=>a <=
 h->Bel h b->Bel h (D.sl c 0 d e)->zO E [.var [.sv none 0 [] 0,.int .i64 0,.int .i64 0]]/\∀ a,h<=a->Q b c d e f g
 a)) (Br (a==3) (∀ a,h<=a->BCalls prog 132 [.str,.sl 0,.int .i64,.int .i64,.sl 0] [.pb 0 0 0 0,.sb 1 0 0 2 2] [Bx.var [.sv c 0 d e,
 .int .i64 f,.int .i64 g],Bx.arr 9 0 [D.lit (.string (bytes [120])),D.lit (.string (bytes [121]))] 2] a (fun s b c d e f g h i j
 => a<=j->Bel j (D.sl b 0 c d)->Bel j (D.sl g 0 h i)->∃ a g,∃ h:Nat,(y1.cell 1)=D.sl a 2 g h/\((0:Int)<=(0 :
 Int)/\0<(g.length:Int))/\∃ a h,∃ i:Nat,(y1.cell 1)=D.sl a 2 h i/\((0:Int)<=(0:Int)/\0<(h.length:Int))/\∃ a i,∃
 k:Nat,(y1.cell 1)=D.sl a 2 i k/\((0:Int)<=(1:Int)/\1<(i.length:Int))/\∀ a,j<=a->ACalls prog 162 [.sl 4] [.sv a1 4 e1 c1,
 .str s,.dg 2 (List.getD h 0 default),.int .i64 n3] a (fun h j k l=>a<=l->Bel l (D.sl h 4 j k)->∀ a,l<=a ->
 BCalls prog 92 [.ag 9,.sl 0,.int .i64,.int .i64] [.pb 0 0 0 0,.sv h 4 j k,.dg 2 (List.getD i 1 default),.int .i64 n3,.int .i64 (IntKind.i64.wrap
 (n4 - 1))] [Bx.var [.sv b 0 c d,.int .i64 e,.int .i64 f]] a (fun b c d e f h i=>a<=i->Bel i b->Bel i (D.sl
 c 0 d e)->∀ a,i<=a->ACalls prog 161 [.ag 9] [.str s,.dg 2 (List.getD g 0 default),.dg 9 b] a (fun b g=>a<=g->Bel
 g b->zO E [.var [.sv none 0 [] 0,.int .i64 0,.int .i64 0]]/\∀ a,g<=a->Q b c d e f h a))))) (∃ a b,∃ i:Nat,
 (y1.cell 1)=D.sl a 2 b i/\((0:Int)<=(0:Int)/\0<(b.length:Int))/\∀ a,h<=a->ACalls prog 108 [.bool] [.dg 2 (List.getD b
 0 default)] a (fun b h=>a<=h->Br b (∀ a,h<=a->BCalls prog 81 [.bool,.sl 0,.int .i64,.int .i64] [.pb 0 0 0 0,.int .i64 4] [Bx.var
 [.sv c 0 d e,.int .i64 f,.int .i64 g]] a (fun b c d e f g h=>a<=h->Bel h (D.sl c 0 d e)->Br b (∃ a
 b,∃ i:Nat,(y1.cell 1)=D.sl a 2 b i/\((0:Int)<=(0:Int)/\0<(b.length:Int))/\∀ a,h<=a->BCalls prog 92 [.ag 9,.sl
 0,.int .i64,.int .i64] [.pb 0 0 0 0,.sv a1 4 e1 c1,.dg 2 (List.getD b 0 default),.int .i64 n3,.int .i64 (IntKind.i64.wrap (n4 - 1))] [Bx.var [.sv c
 0 d e,.int .i64 f,.int .i64 g]] a (fun b c d e f g h=>a<=h->Bel h b->Bel h (D.sl c 0 d e)->(1
 = ([b]).length/\1=1)/\∀ a,ApA a [b]->∀ i,h<=i->ww i [a]->ACalls prog 123 [.ag 9] [.int .i64 13,.sv a 9 [b] 1] i (fun
 b h=>i<=h->Off [a] b/\(Bel h b->zO E [.var [.sv none 0 [] 0,.int .i64 0,.int .i64 0]]/\∀ a,h<=a->Q b c d e
 f g a)))) (xk E Q N0 a1 e1 c1 n3 n4 c d e f g y1 n2_0 s2_1 s2_2 n2_3 n2_4 a2_5 e2_5 c2_5 n2_6 a2_7 e2_7 c2_7 a2_8 e2_8 c2_8
 h))) (xk E Q N0 a1 e1 c1 n3 n4 c d e f g y1 n2_0 s2_1 s2_2 n2_3 n2_4 a2_5 e2_5 c2_5 n2_6 a2_7 e2_7 c2_7 a2_8 e2_8 c2_8 h))))))))):xJ E Q N0 a1 e1 c1 n3 n4 a0_0 e0_0 c0_0 n0_1 n0_2 y1 n2_0 s2_1 s2_2 n2_3 n2_4 a2_5 e2_5 c2_5 n2_6 a2_7 e2_7 c2_7 a2_8 e2_8 c2_8 N:=
  hE (H:=tY) (by kernel_rfl) h
theorem zB5 (N:Nat) (a1:Option Addr) (e1:List D) (c1:Nat) (x2:D) (n3 n4:Int) (aB0_0:Option Addr) (eB0_0:List D) (cB0_0:Nat) (nB0_1 nB0_2:Int) (Q:QT [(Sh.ag 9),(Sh.sl 0),(Sh.int IntKind.i64),(Sh.int IntKind.i64)]) (h:∀ E:Env,
Bel N (D.sl a1 4 e1 c1)->Bel N x2->Bel N (D.sl aB0_0 0 eB0_0 cB0_0)->∀ b,N<=b->BCalls prog 132 [.str,.sl 0,.int .i64,.int .i64,.sl 0] [.pb 0 0 0 0,
 .sb 1 0 0 3 3] [Bx.var [.sv aB0_0 0 eB0_0 cB0_0,.int .i64 nB0_1,.int .i64 nB0_2],Bx.arr 9 0 [D.lit (.string (bytes [120])),D.lit (.string (bytes [121])),D.lit
 (.string (bytes [122]))] 3] b (fun s a c d n e f g h i=>b<=i->Bel i (D.sl a 0 c d)->Bel i (D.sl f 0 g h)->∀ b,i<=b ->
 BCalls prog 61 [.int .i64,.sl 0,.int .i64,.int .i64] [.pb 0 0 0 0,.int .i64 5] [Bx.var [.sv a 0 c d,.int .i64 n,.int .i64 e]] b (fun a c d e
 f g h=>b<=h->Bel h (D.sl c 0 d e)->Br (a==0) (∀ a,h<=a->ACalls prog 151 [.ag 2] [] a (fun x b=>a<=b->Bel b x ->
 ∀ a,b<=a->BCalls prog 92 [.ag 9,.sl 0,.int .i64,.int .i64] [.pb 0 0 0 0,.sv a1 4 e1 c1,.dg 2 x,.int .i64 n3,.int .i64 (IntKind.i64.wrap (n4 - 1))]
 [Bx.var [.sv c 0 d e,.int .i64 f,.int .i64 g]] a (fun b c d e f g h=>a<=h->Bel h b->Bel h (D.sl c 0 d e)->∀
 a,h<=a->BCalls prog 92 [.ag 9,.sl 0,.int .i64,.int .i64] [.pb 0 0 0 0,.sv a1 4 e1 c1,.dg 2 x2,.int .i64 n3,.int .i64 (IntKind.i64.wrap (n4 - 1))]
 [Bx.var [.sv c 0 d e,.int .i64 f,.int .i64 g]] a (fun c d e f g h i=>a<=i->Bel i c->Bel i (D.sl d 0 e f)
 -> ∀ a,i<=a->BCalls prog 92 [.ag 9,.sl 0,.int .i64,.int .i64] [.pb 0 0 0 0,.sv a1 4 e1 c1,.dg 2 x2,.int .i64 n3,.int .i64 (IntKind.i64.wrap (n4
 - 1))] [Bx.var [.sv d 0 e f,.int .i64 g,.int .i64 h]] a (fun d e f g h i j=>a<=j->Bel j d->Bel j (D.sl e 0
 f g)->(3=([b,c,d]).length/\3=3)/\∀ a,ApA a [b,c,d]->∀ k,j<=k->ww k [a]->ACalls prog 123 [.ag 9] [.int .i64
 5,.sv a 9 [b,c,d] 3] k (fun b c=>k<=c->Off [a] b/\(Bel c b->zO E [.var [.sv none 0 [] 0,.int .i64 0,.int .i64 0]]/\∀
 a,c<=a->Q b e f g h i a))))))) (Br (a==1) (∀ a,h<=a->BCalls prog 91 [.ag 2,.sl 0,.int .i64,.int .i64] [.pb 0 0 0 0,
 .int .i64 n3] [Bx.var [.sv c 0 d e,.int .i64 f,.int .i64 g]] a (fun b c d e f g h=>a<=h->Bel h b->Bel h (D.sl
 c 0 d e)->∀ a,h<=a->BCalls prog 92 [.ag 9,.sl 0,.int .i64,.int .i64] [.pb 0 0 0 0,.sv a1 4 e1 c1,.dg 2 b,.int .i64 n3,.int .i64 (IntKind.i64.wrap
 (n4 - 1))] [Bx.var [.sv c 0 d e,.int .i64 f,.int .i64 g]] a (fun c d e f g h i=>a<=i->Bel i c->Bel i (D.sl
 d 0 e f)->∀ a,i<=a->ACalls prog 162 [.sl 4] [.sv a1 4 e1 c1,.str s,.dg 2 b,.int .i64 n3] a (fun b i j k=>a<=k->Bel
 k (D.sl b 4 i j)->∀ a,k<=a->BCalls prog 92 [.ag 9,.sl 0,.int .i64,.int .i64] [.pb 0 0 0 0,.sv b 4 i j,.dg 2 x2,.int .i64 n3,
 .int .i64 (IntKind.i64.wrap (n4 - 1))] [Bx.var [.sv d 0 e f,.int .i64 g,.int .i64 h]] a (fun b d e f g h i=>a<=i ->
 Bel i b->Bel i (D.sl d 0 e f)->∀ a,i<=a->ACalls prog 186 [.ag 9] [.str s,.dg 9 c,.dg 9 b] a (fun b c=>a<=c ->
 Bel c b->zO E [.var [.sv none 0 [] 0,.int .i64 0,.int .i64 0]]/\∀ a,c<=a->Q b d e f g h a)))))) (Br (a==2) (∀ a,
 h<=a->BCalls prog 91 [.ag 2,.sl 0,.int .i64,.int .i64] [.pb 0 0 0 0,.int .i64 n3] [Bx.var [.sv c 0 d e,.int .i64 f,.int .i64 g]] a (fun
 b c d e f g h=>a<=h->Bel h b->Bel h (D.sl c 0 d e)->∀ a,h<=a->ACalls prog 162 [.sl 4] [.sv a1 4 e1
 c1,.str s,.dg 2 b,.int .i64 n3] a (fun h i j k=>a<=k->Bel k (D.sl h 4 i j)->∀ a,k<=a->BCalls prog 92 [.ag
 9,.sl 0,.int .i64,.int .i64] [.pb 0 0 0 0,.sv h 4 i j,.dg 2 x2,.int .i64 n3,.int .i64 (IntKind.i64.wrap (n4 - 1))] [Bx.var [.sv c 0 d e,
 .int .i64 f,.int .i64 g]] a (fun c d e f g h i=>a<=i->Bel i c->Bel i (D.sl d 0 e f)->∀ a,i
 <= a->ACalls prog 161 [.ag 9] [.str s,.dg 2 b,.dg 9 c] a (fun c i=>a<=i->Bel i c->∀ a,i<=a->BCalls prog 92 [.ag 9,
 .sl 0,.int .i64,.int .i64] [.pb 0 0 0 0,.sv a1 4 e1 c1,.dg 2 b,.int .i64 n3,.int .i64 (IntKind.i64.wrap (n4 - 1))] [Bx.var [.sv d 0 e f,.int .i64
 g,.int .i64 h]] a (fun b d e f g h i=>a<=i->Bel i b->Bel i (D.sl d 0 e f)->(2=([c,b]).length
 /\ 2=2)/\∀ a,ApA a [c,b]->∀ j,i<=j->ww j [a]->ACalls prog 123 [.ag 9] [.int .i64 7,.sv a 9 [c,b] 2] j (fun b
 c=>j<=c->Off [a] b/\(Bel c b->zO E [.var [.sv none 0 [] 0,.int .i64 0,.int .i64 0]]/\∀ a,c<=a->Q b d e f
 g h a)))))))) (Br (a==3) (∀ a,h<=a->ACalls prog 206 [.int .i64] [.dg 2 x2] a (fun b h=>a<=h->Br (decide (IntKind.i64.wrap
 (n3+b)<2)) (∀ a,h<=a->ACalls prog 42 [.sl 4] [.sv a1 4 e1 c1,.int .i64 n3] a (fun b h i j=>a<=j->Bel j (D.sl b
 4 h i)->∀ a,j<=a->ACalls prog 152 [.ag 2] [.dg 2 x2] a (fun j k=>a<=k->Bel k j->∀ a,k<=a->BCalls prog 92
 [.ag 9,.sl 0,.int .i64,.int .i64] [.pb 0 0 0 0,.sv b 4 h i,.dg 2 j,.int .i64 n3,.int .i64 (IntKind.i64.wrap (n4 - 1))] [Bx.var [.sv c 0 d
 e,.int .i64 f,.int .i64 g]] a (fun b c d e f g h=>a<=h->Bel h b->Bel h (D.sl c 0 d e)->(1=([b]).length
 /\ 1=1)/\∀ a,ApA a [b]->∀ i,h<=i->ww i [a]->ACalls prog 123 [.ag 9] [.int .i64 12,.sv a 9 [b] 1] i (fun b h=>
 i<=h->Off [a] b/\(Bel h b->zO E [.var [.sv none 0 [] 0,.int .i64 0,.int .i64 0]]/\∀ a,h<=a->Q b c d e f g
 a)))))) (Br (decide (n3>0)) (∀ a,h<=a->ACalls prog 152 [.ag 2] [.dg 2 x2] a (fun b h=>a<=h->Bel h b->∀ a,h<=a
 -> BCalls prog 92 [.ag 9,.sl 0,.int .i64,.int .i64] [.pb 0 0 0 0,.sv a1 4 e1 c1,.dg 2 b,.int .i64 (IntKind.i64.wrap (n3 - 1)),.int .i64 (IntKind.i64.wrap
 (n4 - 1))] [Bx.var [.sv c 0 d e,.int .i64 f,.int .i64 g]] a (fun b c d e f g h=>a<=h->Bel h b->Bel h (D.sl
 c 0 d e)->(1=([b]).length/\1=1)/\∀ a,ApA a [b]->∀ i,h<=i->ww i [a]->ACalls prog 123 [.ag 9] [.int .i64 11,.sv
 a 9 [b] 1] i (fun b h=>i<=h->Off [a] b/\(Bel h b->zO E [.var [.sv none 0 [] 0,.int .i64 0,.int .i64 0]]/\∀ a,h
 <= a->Q b c d e f g a))))) (∀ a,h<=a->BCalls prog 158 [.ag 9,.sl 0,.int .i64,.int .i64] [.pb 0 0 0 0,.dg 2 x2,.int .i64
 n3] [Bx.var [.sv c 0 d e,.int .i64 f,.int .i64 g]] a (fun b c d e f g h=>a<=h->Bel h b->Bel h (D.sl c
 0 d e)->zO E [.var [.sv none 0 [] 0,.int .i64 0,.int .i64 0]]/\∀ a,h<=a->Q b c d e f g a))))) (Br (decide (n3>0))
 (∀ a,h<=a->ACalls prog 152 [.ag 2] [.dg 2 x2] a (fun b h=>a<=h->Bel h b->∀ a,h<=a->BCalls prog 92 [.ag 9,.sl 0,
 .int .i64,.int .i64] [.pb 0 0 0 0,.sv a1 4 e1 c1,.dg 2 b,.int .i64 (IntKind.i64.wrap (n3 - 1)),.int .i64 (IntKind.i64.wrap (n4 - 1))] [Bx.var [.sv c 0
 d e,.int .i64 f,.int .i64 g]] a (fun b c d e f g h=>a<=h->Bel h b->Bel h (D.sl c 0 d e)->(1 =
 ([b]).length/\1=1)/\∀ a,ApA a [b]->∀ i,h<=i->ww i [a]->ACalls prog 123 [.ag 9] [.int .i64 11,.sv a 9 [b] 1] i (fun
 b h=>i<=h->Off [a] b/\(Bel h b->zO E [.var [.sv none 0 [] 0,.int .i64 0,.int .i64 0]]/\∀ a,h<=a->Q b c d
 e f g a))))) (∀ a,h<=a->BCalls prog 158 [.ag 9,.sl 0,.int .i64,.int .i64] [.pb 0 0 0 0,.dg 2 x2,.int .i64 n3] [Bx.var [.sv c 0 d
 e,.int .i64 f,.int .i64 g]] a (fun b c d e f g h=>a<=h->Bel h b->Bel h (D.sl c 0 d e)->zO E [.var
 [.sv none 0 [] 0,.int .i64 0,.int .i64 0]]/\∀ a,h<=a->Q b c d e f g a))))))))):BCalls prog 159 [(Sh.ag 9),(Sh.sl 0),(Sh.int IntKind.i64),(Sh.int IntKind.i64)] [.pb 0 0 0 0,.sv a1 4 e1 c1,.dg 2 x2,.int .i64 n3,.int .i64 n4] [.var [.sv aB0_0 0 eB0_0 cB0_0,.int .i64 nB0_1,.int .i64 nB0_2]] N Q:=
  bE (H:=zHC) (by kernel_rfl) (fun E=>by kernel_rfl) h
theorem zBL (N:Nat) (a1:Option Addr) (e1:List D) (c1:Nat) (x2:D) (n3 n4:Int) (aB0_0:Option Addr) (eB0_0:List D) (cB0_0:Nat) (nB0_1 nB0_2:Int) (Q:QT [(Sh.ag 9),(Sh.sl 0),(Sh.int IntKind.i64),(Sh.int IntKind.i64)]) (h:∀ E:Env,
Bel N (D.sl a1 4 e1 c1)->Bel N x2->Bel N (D.sl aB0_0 0 eB0_0 cB0_0)->∀ b,N<=b->ACalls prog 130 [.ag 2] [] b (fun x d=>b<=d->Bel d x->∀ b,
 d<=b->ACalls prog 151 [.ag 2] [] b (fun d e=>b<=e->Bel e d->∃ n:Int,(x2.cell 0)=D.lit (.int .i64 n)/\Br (n==1) (∀ b,e<=b
 -> BCalls prog 132 [.str,.sl 0,.int .i64,.int .i64,.sl 0] [.pb 0 0 0 0,.sb 1 0 0 4 4] [Bx.var [.sv aB0_0 0 eB0_0 cB0_0,.int .i64 nB0_1,.int .i64 nB0_2],Bx.arr
 9 0 [D.lit (.string (bytes [43])),D.lit (.string (bytes [42])),D.lit (.string (bytes [45])),D.lit (.string (bytes [43]))] 4] b (fun s a c d e f g h
 i j=>b<=j->Bel j (D.sl a 0 c d)->Bel j (D.sl g 0 h i)->∀ b,j<=b->BCalls prog 92 [.ag 9,.sl 0,.int .i64,.int .i64] [.pb 0 0
 0 0,.sv a1 4 e1 c1,.dg 2 x,.int .i64 n3,.int .i64 (IntKind.i64.wrap (n4 - 1))] [Bx.var [.sv a 0 c d,.int .i64 e,.int .i64 f]] b (fun a c d e
 f g h=>b<=h->Bel h a->Bel h (D.sl c 0 d e)->∀ b,h<=b->BCalls prog 92 [.ag 9,.sl 0,.int .i64,.int .i64] [.pb 0 0 0 0,.sv
 a1 4 e1 c1,.dg 2 x,.int .i64 n3,.int .i64 (IntKind.i64.wrap (n4 - 1))] [Bx.var [.sv c 0 d e,.int .i64 f,.int .i64 g]] b (fun c d e f g
 h i=>b<=i->Bel i c->Bel i (D.sl d 0 e f)->(2=([a,c]).length/\2=2)/\∀ b,ApA b [a,c]->∀ j,i<=j->ww
 j [b]->ACalls prog 187 [.ag 9] [.str s,.sv b 9 [a,c] 2] j (fun a c=>j<=c->Off [b] a/\(Bel c a->zO E [.var [.sv none
 0 [] 0,.int .i64 0,.int .i64 0]]/\∀ b,c<=b->Q a d e f g h b)))))) (∀ a,e<=a->BCalls prog 61 [.int .i64,.sl 0,.int .i64,
 .int .i64] [.pb 0 0 0 0,.int .i64 4] [Bx.var [.sv aB0_0 0 eB0_0 cB0_0,.int .i64 nB0_1,.int .i64 nB0_2]] a (fun b c e f g h i=>a<=i
 -> Bel i (D.sl c 0 e f)->Br (b==0) (∀ a,i<=a->BCalls prog 92 [.ag 9,.sl 0,.int .i64,.int .i64] [.pb 0 0 0 0,.sv a1 4 e1 c1,.dg 2 d,
 .int .i64 n3,.int .i64 (IntKind.i64.wrap (n4 - 1))] [Bx.var [.sv c 0 e f,.int .i64 g,.int .i64 h]] a (fun b c d e f g h=>a
 <= h->Bel h b->Bel h (D.sl c 0 d e)->(1=([b]).length/\1=1)/\∀ a,ApA a [b]->∀ i,h<=i->ww i [a]->ACalls prog
 187 [.ag 9] [.str (bytes [33]),.sv a 9 [b] 1] i (fun b h=>i<=h->Off [a] b/\(Bel h b->zO E [.var [.sv none 0 [] 0,.int .i64 0,
 .int .i64 0]]/\∀ a,h<=a->Q b c d e f g a)))) (Br (b==1) (∀ a,i<=a->BCalls prog 132 [.str,.sl 0,.int .i64,.int .i64,
 .sl 0] [.pb 0 0 0 0,.sb 1 0 0 2 2] [Bx.var [.sv c 0 e f,.int .i64 g,.int .i64 h],Bx.arr 9 0 [D.lit (.string (bytes [38])),D.lit (.string (bytes [124]))]
 2] a (fun b c e f g h i j k l=>a<=l->Bel l (D.sl c 0 e f)->Bel l (D.sl i 0 j k)->∀ a,l<=a
 -> BCalls prog 92 [.ag 9,.sl 0,.int .i64,.int .i64] [.pb 0 0 0 0,.sv a1 4 e1 c1,.dg 2 d,.int .i64 n3,.int .i64 (IntKind.i64.wrap (n4 - 1))] [Bx.var [.sv
 c 0 e f,.int .i64 g,.int .i64 h]] a (fun c e f g h i j=>a<=j->Bel j c->Bel j (D.sl e 0 f g)->∀ a,
 j<=a->BCalls prog 92 [.ag 9,.sl 0,.int .i64,.int .i64] [.pb 0 0 0 0,.sv a1 4 e1 c1,.dg 2 d,.int .i64 n3,.int .i64 (IntKind.i64.wrap (n4 - 1))] [Bx.var
 [.sv e 0 f g,.int .i64 h,.int .i64 i]] a (fun d e f g h i j=>a<=j->Bel j d->Bel j (D.sl e 0 f g)
 -> (2=([c,d]).length/\2=2)/\∀ a,ApA a [c,d]->∀ k,j<=k->ww k [a]->ACalls prog 187 [.ag 9] [.str b,.sv a 9 [c,
 d] 2] k (fun b c=>k<=c->Off [a] b/\(Bel c b->zO E [.var [.sv none 0 [] 0,.int .i64 0,.int .i64 0]]/\∀ a,c<=a->Q
 b e f g h i a)))))) (∀ a,i<=a->BCalls prog 132 [.str,.sl 0,.int .i64,.int .i64,.sl 0] [.pb 0 0 0 0,.sb 1 0 0 2 2] [Bx.var [.sv
 c 0 e f,.int .i64 g,.int .i64 h],Bx.arr 9 0 [D.lit (.string (bytes [61])),D.lit (.string (bytes [60]))] 2] a (fun b c d e f g
 h i j k=>a<=k->Bel k (D.sl c 0 d e)->Bel k (D.sl h 0 i j)->∀ a,k<=a->BCalls prog 92 [.ag 9,.sl 0,
 .int .i64,.int .i64] [.pb 0 0 0 0,.sv a1 4 e1 c1,.dg 2 x,.int .i64 n3,.int .i64 (IntKind.i64.wrap (n4 - 1))] [Bx.var [.sv c 0 d e,.int .i64 f,
 .int .i64 g]] a (fun c d e f g h i=>a<=i->Bel i c->Bel i (D.sl d 0 e f)->∀ a,i<=a->BCalls
 prog 92 [.ag 9,.sl 0,.int .i64,.int .i64] [.pb 0 0 0 0,.sv a1 4 e1 c1,.dg 2 x,.int .i64 n3,.int .i64 (IntKind.i64.wrap (n4 - 1))] [Bx.var [.sv d 0 e
 f,.int .i64 g,.int .i64 h]] a (fun d e f g h i j=>a<=j->Bel j d->Bel j (D.sl e 0 f g)->(2=([c,
 d]).length/\2=2)/\∀ a,ApA a [c,d]->∀ k,j<=k->ww k [a]->ACalls prog 187 [.ag 9] [.str b,.sv a 9 [c,d] 2] k
 (fun b c=>k<=c->Off [a] b/\(Bel c b->zO E [.var [.sv none 0 [] 0,.int .i64 0,.int .i64 0]]/\∀ a,c<=a->Q b e
 f g h i a)))))))))))):BCalls prog 160 [(Sh.ag 9),(Sh.sl 0),(Sh.int IntKind.i64),(Sh.int IntKind.i64)] [.pb 0 0 0 0,.sv a1 4 e1 c1,.dg 2 x2,.int .i64 n3,.int .i64 n4] [.var [.sv aB0_0 0 eB0_0 cB0_0,.int .i64 nB0_1,.int .i64 nB0_2]] N Q:=
  bE (H:=zFK) (by kernel_rfl) (fun E=>by kernel_rfl) h
theorem zB1 (E:Env) (Q:QT [(Sh.ag 9),(Sh.sl 0),(Sh.int IntKind.i64),(Sh.int IntKind.i64)]) (N0:Nat) (a1:Option Addr) (e1:List D) (c1:Nat) (n3 n4:Int) (a0_0:Option Addr) (e0_0:List D) (c0_0:Nat) (n0_1 n0_2:Int) (y1:D) (n2_0:Int) (s2_1 s2_2:ByteArray) (n2_3 n2_4:Int) (a2_5:Option Addr) (e2_5:List D) (c2_5:Nat) (n2_6:Int) (a2_7:Option Addr) (e2_7:List D) (c2_7:Nat) (a2_8:Option Addr) (e2_8:List D) (c2_8:Nat) (N:Nat) (h :
∃ a b,∃ c:Nat,(y1.cell 1)=D.sl a 2 b c/\((0:Int)<=(0:Int)/\0<(b.length:Int))/\∀ a,N<=a->BCalls prog 92 [.ag 9,.sl 0,.int .i64,.int
 .i64] [.pb 0 0 0 0,.sv a1 4 e1 c1,.dg 2 (List.getD b 0 default),.int .i64 (IntKind.i64.wrap (n3+1)),.int .i64 (IntKind.i64.wrap (n4 - 1))] [Bx.var [.sv a0_0
 0 e0_0 c0_0,.int .i64 n0_1,.int .i64 n0_2]] a (fun x b c d n e f=>a<=f->Bel f x->Bel f (D.sl b 0 c d)->(1=([x]).length/\1
 = 1)/\∀ a,ApA a [x]->∀ g,f<=g->ww g [a]->ACalls prog 123 [.ag 9] [.int .i64 10,.sv a 9 [x] 1] g (fun f h=>g<=h->Off [a]
 f/\(Bel h f->zO E [.var [.sv none 0 [] 0,.int .i64 0,.int .i64 0]]/\∀ a,h<=a->Q f b c d n e a)))):xk E Q N0 a1 e1 c1 n3 n4 a0_0 e0_0 c0_0 n0_1 n0_2 y1 n2_0 s2_1 s2_2 n2_3 n2_4 a2_5 e2_5 c2_5 n2_6 a2_7 e2_7 c2_7 a2_8 e2_8 c2_8 N:=
  hE (H:=tY) (by kernel_rfl) h
theorem zA1 (N:Nat) (n1:Int) (aB0_0:Option Addr) (eB0_0:List D) (cB0_0:Nat) (nB0_1 nB0_2:Int) (Q:QT [(Sh.ag 2),(Sh.sl 0),(Sh.int IntKind.i64),(Sh.int IntKind.i64)]) (h:∀ E:Env,
Bel N (D.sl aB0_0 0 eB0_0 cB0_0)->∀ d,N<=d->ACalls prog 130 [.ag 2] [] d (fun x e=>d<=e->Bel e x->Br (decide (n1<2)) (∀ d,e<=d ->
 BCalls prog 81 [.bool,.sl 0,.int .i64,.int .i64] [.pb 0 0 0 0,.int .i64 2] [Bx.var [.sv aB0_0 0 eB0_0 cB0_0,.int .i64 nB0_1,.int .i64 nB0_2]] d (fun b a
 c e n f g=>d<=g->Bel g (D.sl a 0 c e)->Br b (∀ b,g<=b->ACalls prog 152 [.ag 2] [.dg 2 x] b (fun d g=>b<=g->Bel g d ->
 zO E [.var [.sv none 0 [] 0,.int .i64 0,.int .i64 0]]/\∀ b,g<=b->Q d a c e n f b)) (∀ b,g<=b->BCalls prog 81 [.bool,.sl 0,.int .i64,
 .int .i64] [.pb 0 0 0 0,.int .i64 3] [Bx.var [.sv a 0 c e,.int .i64 n,.int .i64 f]] b (fun a c d e f g h=>b<=h->Bel h (D.sl c
 0 d e)->Br a (∀ a,h<=a->ACalls prog 153 [.ag 2] [.dg 2 x,.dg 2 x] a (fun b h=>a<=h->Bel h b->zO E [.var [.sv none 0
 [] 0,.int .i64 0,.int .i64 0]]/\∀ a,h<=a->Q b c d e f g a)) (zO E [.var [.sv none 0 [] 0,.int .i64 0,.int .i64 0]]/\∀ a,h
 <= a->Q x c d e f g a))))) (∀ a,e<=a->BCalls prog 81 [.bool,.sl 0,.int .i64,.int .i64] [.pb 0 0 0 0,.int .i64 3] [Bx.var [.sv aB0_0
 0 eB0_0 cB0_0,.int .i64 nB0_1,.int .i64 nB0_2]] a (fun b c d e f g h=>a<=h->Bel h (D.sl c 0 d e)->Br b (∀ a,h
 <= a->ACalls prog 153 [.ag 2] [.dg 2 x,.dg 2 x] a (fun b h=>a<=h->Bel h b->zO E [.var [.sv none 0 [] 0,.int .i64 0,.int .i64 0]]
 /\ ∀ a,h<=a->Q b c d e f g a)) (zO E [.var [.sv none 0 [] 0,.int .i64 0,.int .i64 0]]/\∀ a,h<=a->Q x c d e f
 g a))))):BCalls prog 91 [(Sh.ag 2),(Sh.sl 0),(Sh.int IntKind.i64),(Sh.int IntKind.i64)] [.pb 0 0 0 0,.int .i64 n1] [.var [.sv aB0_0 0 eB0_0 cB0_0,.int .i64 nB0_1,.int .i64 nB0_2]] N Q:=
  bE (H:=zEu) (by kernel_rfl) (fun E=>by kernel_rfl) h
end Go.Proofs.YtkdjhkfiolhkiaaGreat
set_option maxRecDepth 100000
namespace Go.Proofs.YtkdjhkfiolhkiaaGreat
open Go Go.Proofs Go.Proofs.Tryz
def zBh:Hint:=⟨[],[],[(1,hs 7 [ec 1 [3],ec 4 [6]])]⟩
def zFY:Hint:=⟨[],[],[(1,hs 8 [ec 1 [3],ec 4 [6]])]⟩
def zCc:Hint:=⟨[],[],[(1,hs 5 [ec 1 [3]])]⟩
def zC5:Hint:=⟨[],[],[(1,hs 8 [ec 1 [4]]),(3,hs 7 [ec 4 [16]])]⟩
def zFq:Hint:=⟨[],[],[(1,hs 13 [ec 1 [4]])]⟩
def zDO:Hint:=⟨[],[],[]⟩
def zF4:Hint:=⟨[],[],[(1,hs 8 [ec 1 [3],ec 5 [7]])]⟩
def zCe:Hint:=⟨[],[],[(1,hs 5 [ec 1 [3]])]⟩
def zDX:Hint:=⟨[],[],[]⟩
def rl:Hint:=⟨[],[],[]⟩
def zBI:Hint:=⟨[],[],[(4,hs 8 [ec 1 [20]]),(5,hs 8 [ec 1 [25]]),(6,hs 8 [ec 1 [30]]),(7,hs 8 [ec 1 [35]]),(9,[en 0,en 2,ec 1 [41],ec 3 [43],en 4,en 5,en 6,en 7,en 8,en 9,en 10,en 11,en 12,ec 13 [52,53],en 14,en 15,en 16,en 17,en 18,en 19,en 20,en 21,en 22,en 23,ec 24 [63,64],en 25,en 26,en 27,en 28,en 30,ec 29 [69],ec 31 [71],en 32,en 33,en 34,en 35,en 37,eh 36,eh 38,en 39,en 40]),(11,hs 8 [ec 1 [83]]),(12,hs 15 [ec 7 [92,93],ec 11 [97]])]⟩
def tO:Hint:=⟨[hc 4 [2,3,5]],[],[(1,hs 51 [ec 31 [34,36],ec 39 [42,44]]),(6,[en 0,en 1,en 2,en 3,en 4,en 5,en 6,en 7,en 8,en 9,ec 10 [68,73],en 11])]⟩
def yq (Q:QT [.bool]) (N0:Nat) (n5:Int) (y0 y1:D) (N:Nat):Prop:=AT prog 53 [.bool] Q N0 .ord (zF prog 53 4) ⟨an 2 (.pb 0 0 0 0::.pb 1 0 0 0::an 1 (.int .i64 n5::an 70 [])),[.vd y0 9,.vd y1 9],N,none⟩
theorem zC6 (N:Nat) (x0:D) (Q:QT [.bool]) (h :
Bel N x0->∀ a,N<=a->ACalls prog 122 [.bool] [.dg 9 x0] a (fun b c=>a<=c->Br b (∀ a,c<=a->ACalls prog 126 [.bool] [.dg 9 x0] a (fun
 b c=>a<=c->∀ a,c<=a->Q b a)) (∀ a,c<=a->Q false a))):ACalls prog 52 [.bool] [PV.dg 9 x0] N Q:=
  eE (H:=zBh) (by kernel_rfl) (by kernel_rfl) h
theorem zGZ (N:Nat) (x0:D) (Q:QT [.bool]) (h :
Bel N x0->∀ a,N<=a->ACalls prog 96 [.bool] [.dg 9 x0,.int .i64 0] a (fun b c=>a<=c->Br b (∀ a,c<=a->ACalls prog 40 [.bool] [.dg 9 x0]
 a (fun b c=>a<=c->∀ a,c<=a->Q (!b) a)) (∀ a,c<=a->Q false a))):ACalls prog 55 [.bool] [PV.dg 9 x0] N Q:=
  eE (H:=zFY) (by kernel_rfl) (by kernel_rfl) h
theorem zBk (N:Nat) (x0:D) (Q:QT [.bool]) (h :
Bel N x0->∀ b,N<=b->ACalls prog 21 [.sl 0] [.dg 9 x0] b (fun a c d e=>b<=e->Bel e (D.sl a 0 c d)->∀ a,e<=a->Q ((c.length:Int)
 == 0) a)):ACalls prog 40 [.bool] [PV.dg 9 x0] N Q:=
  eE (H:=zCc) (by kernel_rfl) (by kernel_rfl) h
theorem zCY (N:Nat) (x0:D) (Q:QT [.ag 9,.bool]) (h :
Bel N x0->∀ d,N<=d->ACalls prog 52 [.bool] [.dg 9 x0] d (fun b e=>d<=e->Br (!b) (∀ a,e<=a->Q (D.ag [D.lit (.int .i64 0),D.lit (.string
 (bytes [])),D.lit (.string (bytes [])),D.lit (.int .i64 0),D.lit (.int .i64 0),D.sl Option.none 2 [] 0,D.lit (.int .i64 0),D.sl Option.none 2 [] 0,D.sl Option.none
 9 [] 0]) false a) (∃ n:Int,(x0.cell 0)=D.lit (.int .i64 n)/\Br (bne n 10) (∀ a,e<=a->Q (D.ag [D.lit (.int .i64 0),D.lit (.string (bytes [])),D.lit
 (.string (bytes [])),D.lit (.int .i64 0),D.lit (.int .i64 0),D.sl Option.none 2 [] 0,D.lit (.int .i64 0),D.sl Option.none 2 [] 0,D.sl Option.none 9 [] 0])
 false a) (∃ a b,∃ c:Nat,(x0.cell 8)=D.sl a 9 b c/\((0:Int)<=(0:Int)/\0<(b.length:Int))/\∀ a,e<=a->ACalls prog 124 [Sh.pk,.int .i64,
 .str,.str,.int .i64,Sh.dc,Sh.dc,Sh.dc,Sh.dc,.row (OfNat.ofNat 30) 9] [.dg 9 (List.getD b 0 default)] a (fun b s c d x e f g h i j=>
 a<=j->Bel j (D.ag h)->(h.length=h.length/\i=i)/\(h.length=h.length/\i=i)/\∀ a k,j<=k->Fresh N k a [D.ag
 h,x,e,f,g]->∀ j,k<=j->Q (D.ag [D.lit (.int .i64 b),D.lit (.string s),D.lit (.string c),D.lit (.int .i64 d),x,e,f,g,D.sl
 a 9 h i]) true j))))):ACalls prog 49 [.ag 9,.bool] [PV.dg 9 x0] N Q:=
  eE (H:=zC5) (by kernel_rfl) (by kernel_rfl) h
theorem zF3 (N:Nat) (x0:D) (Q:QT [.ag 9,.bool]) (h :
Bel N x0->∀ c,N<=c->ACalls prog 122 [.bool] [.dg 9 x0] c (fun b d=>c<=d->Br (!b) (∀ a,d<=a->Q (D.ag [D.lit (.int .i64 0),D.lit (.string
 (bytes [])),D.lit (.string (bytes [])),D.lit (.int .i64 0),D.lit (.int .i64 0),D.sl Option.none 2 [] 0,D.lit (.int .i64 0),D.sl Option.none 2 [] 0,D.sl Option.none
 9 [] 0]) false a) (∃ n:Int,(x0.cell 0)=D.lit (.int .i64 n)/\Br (bne n 2) (∃ b:Int,(x0.cell 0)=D.lit (.int .i64 b)/\Br (bne b 3) (∀ a,d <=
 a->Q (D.ag [D.lit (.int .i64 0),D.lit (.string (bytes [])),D.lit (.string (bytes [])),D.lit (.int .i64 0),D.lit (.int .i64 0),D.sl Option.none 2 [] 0,D.lit
 (.int .i64 0),D.sl Option.none 2 [] 0,D.sl Option.none 9 [] 0]) false a) ((1=([x0]).length/\1=1)/\∀ a,ApA a [x0]->∀ b,d<=b->ww b [a]->ACalls
 prog 123 [.ag 9] [.int .i64 10,.sv a 9 [x0] 1] b (fun x c=>b<=c->Off [a] x/\(Bel c x->∀ a,c<=a->Q x true a)))) ((1=([x0]).length /\
 1=1)/\∀ a,ApA a [x0]->∀ b,d<=b->ww b [a]->ACalls prog 123 [.ag 9] [.int .i64 10,.sv a 9 [x0] 1] b (fun c d=>b<=d->Off [a]
 c/\(Bel d c->∀ a,d<=a->Q c true a)))))):ACalls prog 47 [.ag 9,.bool] [PV.dg 9 x0] N Q:=
  eE (H:=zFq) (by kernel_rfl) (by kernel_rfl) h
theorem zCd (N:Nat) (n0:Int) (Q:QT [.str]) (h :
∀ a,N<=a->ACalls prog 117 [.bool] [.int .i64 n0,.int .i64 1,.int .i64 13] a (fun b c=>a<=c->Br (!b) (∀ a,c<=a->Q (bytes [63]) a)
 ((0<=IntKind.i64.wrap (n0 - 1)/\IntKind.i64.wrap (n0 - 1)<13/\(0+(IntKind.i64.wrap (n0 - 1)).toNat:Nat)<13)/\(0+(IntKind.i64.wrap (n0 - 1)).toNat :
 Nat)<13/\∃ s,List.getD [D.lit (.string (bytes [118,97,114])),D.lit (.string (bytes [105,110,116])),D.lit (.string (bytes [98,111,111,108])),D.lit (.string
 (bytes [111,112])),D.lit (.string (bytes [105,102])),D.lit (.string (bytes [108,97,109])),D.lit (.string (bytes [97,112,112])),D.lit (.string (bytes [108,
 101,116])),D.lit (.string (bytes [114,101,99])),D.lit (.string (bytes [113,117,111,116,101])),D.lit (.string (bytes [115,112,108,105,99,101])),D.lit
 (.string (bytes [114,117,110])),D.lit (.string (bytes [108,105,102,116]))] (0+(IntKind.i64.wrap (n0 - 1)).toNat:Nat) default=D.lit (.string s)/\∀ a,
 c<=a->Q s a))):ACalls prog 57 [.str] [PV.int .i64 n0] N Q:=
  eE (H:=zDO) (by kernel_rfl) (by kernel_rfl) h
theorem zEz (N:Nat) (x0:D) (Q:QT [.bool]) (h :
Bel N x0->∀ a,N<=a->ACalls prog 127 [.bool] [.dg 9 x0] a (fun b c=>a<=c->Br (!b) (∀ a,c<=a->ACalls prog 94 [.bool] [.dg 9 x0,.int .i64
 0] a (fun b c=>a<=c->∀ a,c<=a->Q b a)) (∀ a,c<=a->Q false a))):ACalls prog 54 [.bool] [PV.dg 9 x0] N Q:=
  eE (H:=zF4) (by kernel_rfl) (by kernel_rfl) h
theorem zBf (N:Nat) (x0:D) (Q:QT [.bool]) (h :
Bel N x0->∀ a,N<=a->ACalls prog 185 [.row (OfNat.ofNat 9) 0] [.dg 9 x0] a (fun b _ c=>a<=c->Bel c (D.ag b)->∀ a,c<=a->Q ((b.length
 : Int)==0) a)):ACalls prog 127 [.bool] [PV.dg 9 x0] N Q:=
  eE (H:=zCe) (by kernel_rfl) (by kernel_rfl) h
theorem zCt (N:Nat) (n0:Int) (Q:QT [.str]) (h :
∀ a,N<=a->ACalls prog 115 [.bool] [.int .i64 n0,.int .i64 1,.int .i64 13] a (fun b c=>a<=c->Br (!b) (∀ a,c<=a->Q (bytes [63]) a)
 ((0<=IntKind.i64.wrap (n0 - 1)/\IntKind.i64.wrap (n0 - 1)<13/\(0+(IntKind.i64.wrap (n0 - 1)).toNat:Nat)<13)/\(0+(IntKind.i64.wrap (n0 - 1)).toNat :
 Nat)<13/\∃ s,List.getD [D.lit (.string (bytes [118,97,114])),D.lit (.string (bytes [105,110,116])),D.lit (.string (bytes [98,111,111,108])),D.lit (.string
 (bytes [111,112])),D.lit (.string (bytes [105,102])),D.lit (.string (bytes [108,97,109])),D.lit (.string (bytes [97,112,112])),D.lit (.string (bytes [108,
 101,116])),D.lit (.string (bytes [114,101,99])),D.lit (.string (bytes [113,117,111,116,101])),D.lit (.string (bytes [115,112,108,105,99,101])),D.lit
 (.string (bytes [114,117,110])),D.lit (.string (bytes [108,105,102,116]))] (0+(IntKind.i64.wrap (n0 - 1)).toNat:Nat) default=D.lit (.string s)/\∀ a,
 c<=a->Q s a))):ACalls prog 56 [.str] [PV.int .i64 n0] N Q:=
  eE (H:=zDX) (by kernel_rfl) (by kernel_rfl) h
theorem ri (N:Nat) (a0:Option Addr) (e0:List D) (c0:Nat) (Q:QT [.int .i64]) (h :
Bel N (D.sl a0 0 e0 c0)->∀ b,N<=b->ACalls prog 58 [Sh.cu] [.sv a0 0 e0 c0] b (fun a c d n e f=>b<=f->∀ b,f<=b->BCalls prog 61 [.int
 .i64,.sl 0,.int .i64,.int .i64] [.pb 0 0 0 0,.int .i64 16] [Bx.var [.sv a 0 c d,.int .i64 n,.int .i64 e]] b (fun a c d e _ _ f=>b <=
 f->Bel f (D.sl c 0 d e)->∀ b,f<=b->Q (IntKind.i64.wrap (a - 1)) b))):ACalls prog 50 [.int .i64] [PV.sv a0 0 e0 c0] N Q:=
  eE (H:=rl) (by kernel_rfl) (by kernel_rfl) h
theorem zBR (N:Nat) (a0:Option Addr) (e0:List D) (c0:Nat) (Q:QT [.bool]) (h :
Bel N (D.sl a0 0 e0 c0)->∀ a,N<=a->ACalls prog 7 [.bool] [.sv a0 0 e0 c0] a (fun b c=>a<=c->Br b (∀ a,c<=a->Q true a) (∀ a,c
 <= a->ACalls prog 45 [.ag 9] [.sv a0 0 e0 c0] a (fun x b=>a<=b->Bel b x->∀ a,b<=a->ACalls prog 46 [.ag 9,.bool] [.dg 9 x] a (fun b
 c d=>a<=d->Bel d b->∀ a,d<=a->ACalls prog 47 [.ag 9,.bool] [.dg 9 x] a (fun d e f=>a<=f->Bel f d->∀ a,f<=a
 -> ACalls prog 48 [.ag 9,.bool] [.dg 9 x] a (fun f g h=>a<=h->Bel h f->∀ a,h<=a->ACalls prog 49 [.ag 9,.bool] [.dg 9 x] a
 (fun h i j=>a<=j->Bel j h->∀ a,j<=a->ACalls prog 50 [.int .i64] [.sv a0 0 e0 c0] a (fun n j=>a<=j->∀ a,j
 <= a->ACalls prog 51 [.bool] [.dg 9 x] a (fun j k=>a<=k->∀ a,k<=a->ACalls prog 52 [.bool] [.dg 9 x] a (fun k l=>a <=
 l->Br (!(j==k)) (∀ a,l<=a->Q false a) (Br (!(c==e)) (∀ a,l<=a->Q false a) (∀ a,l<=a->ACalls prog 53 [.bool]
 [.dg 9 b,.dg 9 d] a (fun d e=>a<=e->Br (!d) (∀ a,e<=a->Q false a) (Br (!(g==i)) (∀ a,e<=a->Q false a)
 (∀ a,e<=a->ACalls prog 53 [.bool] [.dg 9 f,.dg 9 h] a (fun d e=>a<=e->Br (!d) (∀ a,e<=a->Q false a) (∀ a,
 e<=a->ACalls prog 54 [.bool] [.dg 9 x] a (fun d e=>a<=e->∀ a,e<=a->ACalls prog 55 [.bool] [.dg 9 x] a (fun e f=>
 a<=f->Br (!(d==e)) (∀ a,f<=a->Q false a) (∀ a,f<=a->ACalls prog 56 [.str] [.int .i64 n] a (fun s d=>a<=d
 -> ∀ a,d<=a->ACalls prog 57 [.str] [.int .i64 n] a (fun d e=>a<=e->Br (!(ByteArray.toList s==ByteArray.toList d)) (∀ a,e
 <= a->Q false a) (∀ a,e<=a->ACalls prog 48 [.ag 9,.bool] [.dg 9 b] a (fun b d e=>a<=e->Bel e b->Br (!c) (∀ a,
 e<=a->Q true a) (Br d (∀ a,e<=a->ACalls prog 53 [.bool] [.dg 9 b,.dg 9 x] a (fun b c=>a<=c->Br b (∀ a,c
 <= a->ACalls prog 51 [.bool] [.dg 9 x] a (fun b c=>a<=c->∀ a,c<=a->Q b a)) (∀ a,c<=a->Q false a))) (∀ a,
 e<=a->Q false a))))))))))))))))))))))))))):ACalls prog 6 [.bool] [PV.sv a0 0 e0 c0] N Q:=
  eE (H:=zBI) (by kernel_rfl) (by kernel_rfl) h
theorem zA3 (N:Nat) (x0 x1:D) (Q:QT [.bool]) (h :
Bel N x0->Bel N x1->∃ n:Int,(x0.cell 0)=D.lit (.int .i64 n)/\∃ d:Int,(x1.cell 0)=D.lit (.int .i64 d)/\Br (bne n d) (∀ a,N<=a->Q false
 a) (∃ s,(x0.cell 1)=D.lit (.string s)/\∃ d,(x1.cell 1)=D.lit (.string d)/\Br (!(ByteArray.toList s==ByteArray.toList d)) (∀ a,N<=a->Q false
 a) (∃ d,(x0.cell 2)=D.lit (.string d)/\∃ e,(x1.cell 2)=D.lit (.string e)/\Br (!(ByteArray.toList d==ByteArray.toList e)) (∀ a,N<=a
 -> Q false a) (∃ d:Int,(x0.cell 3)=D.lit (.int .i64 d)/\∃ e:Int,(x1.cell 3)=D.lit (.int .i64 e)/\Br (bne d e) (∀ a,N<=a->Q false
 a) (∀ d,N<=d->ACalls prog 107 [.bool] [.dg 2 (D.sub x0 4 2),.dg 2 (D.sub x1 4 2)] d (fun b e=>d<=e->Br (!b) (∀ a,e<=a->Q false a)
 (∀ b,e<=b->ACalls prog 107 [.bool] [.dg 2 (D.sub x0 6 2),.dg 2 (D.sub x1 6 2)] b (fun d e=>b<=e->Br (!d) (∀ a,e<=a->Q false
 a) (∃ a b,∃ c:Nat,(x0.cell 8)=D.sl a 9 b c/\∃ a c,∃ d:Nat,(x1.cell 8)=D.sl a 9 c d/\Br (bne (b.length:Int) (c.length:Int))
 (∀ a,e<=a->Q false a) (yq Q N 0 x0 x1 e)))))))))):ACalls prog 53 [.bool] [PV.dg 9 x0,PV.dg 9 x1] N Q:=
  eE (H:=tO) (by kernel_rfl) (by kernel_rfl) h
theorem uH (Q:QT [.bool]) (N0:Nat) (n5:Int) (y0 y1:D) (N:Nat) (h :
∃ a d,∃ c:Nat,(y0.cell 8)=D.sl a 9 d c/\Br (decide (n5<(d.length:Int))) (∃ a c,∃ d:Nat,(y0.cell 8)=D.sl a 9 c d/\(0<=n5/\n5
 < (c.length:Int))/\∃ a d,∃ e:Nat,(y1.cell 8)=D.sl a 9 d e/\(0<=n5/\n5<(d.length:Int))/\∀ a,N<=a->ACalls prog 53 [.bool]
 [.dg 9 (List.getD c n5.toNat default),.dg 9 (List.getD d n5.toNat default)] a (fun b c=>a<=c->Br (!b) (∀ a,c<=a->Q false a) (yq
 Q N0 (IntKind.i64.wrap (n5+1)) y0 y1 c))) (∀ a,N<=a->Q true a)):yq Q N0 n5 y0 y1 N:=
  hE (H:=tO) (by kernel_rfl) h
end Go.Proofs.YtkdjhkfiolhkiaaGreat
set_option maxRecDepth 100000
namespace Go.Proofs.YtkdjhkfiolhkiaaGreat
open Go Go.Proofs Go.Proofs.Tryz
def zHG:Hint:=⟨[],[],[(3,hs 4 [ec 1 [13]])]⟩
theorem zHA (N:Nat) (s0:ByteArray) (x1 x2:D) (Q:QT [.ag 9]) (h :
Bel N x1->Bel N x2->(1=([x2]).length/\1=1)/\∀ a,ApA a [x2]->∀ b,N<=b->ww b [a]->ACalls prog 123 [.ag 9] [.int .i64 6,.sv a 9 [x2] 1] b (fun
 x c=>b<=c->Off [a] x/\(Bel c x->∀ a,c<=a->ACalls prog 110 [.ag 2] [.dg 2 x1] a (fun b c=>a<=c->Bel c b->∀ a,c<=a
 -> Q (D.ag [(x.cell 0),D.lit (.string s0),(x.cell 2),(x.cell 3),(b.cell 0),(b.cell 1),(x.cell 6),(x.cell 7),(x.cell 8)]) a)))):ACalls prog 161 [.ag 9] [PV.str s0,PV.dg 2 x1,PV.dg 9 x2] N Q:=
  eE (H:=zHG) (by kernel_rfl) (by kernel_rfl) h
end Go.Proofs.YtkdjhkfiolhkiaaGreat
