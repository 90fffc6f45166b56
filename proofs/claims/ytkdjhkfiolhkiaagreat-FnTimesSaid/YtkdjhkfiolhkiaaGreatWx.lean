/- Printed by gen.py: what the functions come to. -/
import Derived.Test.YtkdjhkfiolhkiaaGreatJh
set_option linter.unusedVariables false
set_option maxRecDepth 100000
namespace Go.Proofs.YtkdjhkfiolhkiaaGreat
open Go Go.Proofs Go.Proofs.Tryz
def zFs:Hint:=⟨[],[],[]⟩
def zHo:Hint:=⟨[],[],[]⟩
theorem zF1 (N:Nat) (n0:Int) (Q:QT [.ag 9]) (h :
∀ a,N<=a->Q (D.ag [D.lit (.int .i64 3),D.lit (.string (bytes [])),D.lit (.string (bytes [])),D.lit (.int .i64 n0),D.lit (.int .i64 0),D.sl Option.none
 2 [] 0,D.lit (.int .i64 0),D.sl Option.none 2 [] 0,D.sl Option.none 9 [] 0]) a):ACalls prog 205 [.ag 9] [PV.int .i64 n0] N Q:=
  eE (H:=zFs) (by kernel_rfl) (by kernel_rfl) h
theorem zIb (N:Nat) (n0:Int) (Q:QT [.ag 9]) (h :
∀ a,N<=a->Q (D.ag [D.lit (.int .i64 2),D.lit (.string (bytes [])),D.lit (.string (bytes [])),D.lit (.int .i64 n0),D.lit (.int .i64 0),D.sl Option.none
 2 [] 0,D.lit (.int .i64 0),D.sl Option.none 2 [] 0,D.sl Option.none 9 [] 0]) a):ACalls prog 204 [.ag 9] [PV.int .i64 n0] N Q:=
  eE (H:=zHo) (by kernel_rfl) (by kernel_rfl) h
end Go.Proofs.YtkdjhkfiolhkiaaGreat
set_option maxRecDepth 100000
namespace Go.Proofs.YtkdjhkfiolhkiaaGreat
open Go Go.Proofs Go.Proofs.Tryz
end Go.Proofs.YtkdjhkfiolhkiaaGreat
set_option maxRecDepth 100000
namespace Go.Proofs.YtkdjhkfiolhkiaaGreat
open Go Go.Proofs Go.Proofs.Tryz
def zIP:Hint:=⟨[],[],[(3,hs 4 [ec 1 [13]])]⟩
theorem zIr (N:Nat) (s0:ByteArray) (x1 x2:D) (Q:QT [.ag 9]) (h :
Bel N x1->Bel N x2->(1=([x2]).length/\1=1)/\∀ a,ApA a [x2]->∀ b,N<=b->vw b [a]->ACalls prog 123 [.ag 9] [.int .i64 6,.sv a 9 [x2] 1] b (fun
 x c=>b<=c->Off [a] x/\(Bel c x->∀ a,c<=a->ACalls prog 110 [.ag 2] [.dg 2 x1] a (fun b c=>a<=c->Bel c b->∀ a,c<=a
 -> Q (D.ag [(x.cell 0),D.lit (.string s0),(x.cell 2),(x.cell 3),(b.cell 0),(b.cell 1),(x.cell 6),(x.cell 7),(x.cell 8)]) a)))):ACalls prog 161 [.ag 9] [PV.str s0,PV.dg 2 x1,PV.dg 9 x2] N Q:=
  eE (H:=zIP) (by kernel_rfl) (by kernel_rfl) h
end Go.Proofs.YtkdjhkfiolhkiaaGreat
set_option maxRecDepth 100000
namespace Go.Proofs.YtkdjhkfiolhkiaaGreat
open Go Go.Proofs Go.Proofs.Tryz
def zH4:Hint:=⟨[],[],[]⟩
def zBY:Hint:=⟨[hc 3 [0,3,4]],[],[]⟩
def zGB:Hint:=⟨[],[],[(2,[en 0,en 1,en 2,en 3,en 4,en 5,en 6,en 7,en 8,en 9,en 10,en 11,en 12]),(3,[en 0,en 1,en 2,en 3,en 4,en 5,en 6,en 7,en 8,en 9]),(4,[en 0,en 1,en 2,en 3,en 4,en 5,en 6,en 7,en 8,en 9,en 10,en 11,en 12,en 13,eh 14])]⟩
def zD7:Hint:=⟨[],[],[]⟩
def zFU:Hint:=⟨[],[],[]⟩
def zGC:Hint:=⟨[],[],[]⟩
def zBz:Hint:=⟨[],[],[]⟩
def qJ:Hint:=⟨[hc 3 [0,1,3,6,8,10,11] [(10,30,9)]],[],[(5,[en 0,en 1,en 2,en 3,en 4,en 5,en 6,en 7,en 8,en 9,en 10,en 11,en 12,en 13,ec 14 [31,32],en 15,en 16,en 17,en 18,en 19,en 20,en 21,en 22,en 24,eh 23,en 25,en 26])]⟩
def zEN:Hint:=⟨[],[],[(7,[en 0,en 1,en 2,en 3,en 4,en 5,en 6,en 7,en 8,en 9,eh 10,ec 11 [24,31],eh 12])]⟩
def zIy:Hint:=⟨[],[],[]⟩
def t5:Hint:=⟨[hc 4 [0,3,4,5] [(3,47,4)]],[],[(9,[en 0,en 1,en 2,en 3,en 4,en 5,en 6,eh 7,en 8,en 9,eh 10,eh 11])]⟩
def zAE:Hint:=⟨[],[hc 5 [0,1,3,6,8]],[(10,[en 0,en 1,en 3,en 4,en 6,en 7,en 8,en 9,en 10,en 12,en 13,en 14,en 15,en 16,eh 2,eh 5,eh 11,eh 17,en 18,eh 19,eh 20]),(13,[en 0,en 1,en 2,en 3,en 4,en 5,en 7,en 8,en 9,en 10,en 12,en 13,en 14,eh 6,ec 11 [74],eh 15,ec 16 [70,79],eh 17]),(15,[en 0,en 1,en 3,en 4,en 5,en 6,en 7,en 9,en 10,en 11,en 12,en 13,eh 2,eh 8,eh 14,en 15,eh 16,eh 17]),(18,[en 0,en 1,en 3,en 4,en 5,en 6,en 7,en 9,en 10,en 11,en 12,en 13,eh 2,eh 8,eh 14,en 15,eh 16,eh 17])]⟩
def zDt:Hint:=⟨[],[],[]⟩
def qO:Hint:=⟨[hc 3 [0,1,5,6] [(5,3,0)]],[],[]⟩
def wu (Q:QT [.cu]) (N0:Nat) (a0:Option Addr) (e0:List D) (c0:Nat) (n3 n4:Int) (N:Nat):Prop:=AT prog 58 [.cu] Q N0 .ord (zC prog 58 3) ⟨.sv a0 0 e0 c0::an 2 (.int .i64 n3::.int .i64 n4::an 27 []),[],N,none⟩
def yJ (E:Env) (Q:QT [(Sh.row (OfNat.ofNat 3) 0),(Sh.sl 0),(Sh.int IntKind.i64),(Sh.int IntKind.i64)]) (N0:Nat) (a1:Option Addr) (e1:List D) (c1 m5 c5:Nat) (n6:Int) (a0_0:Option Addr) (e0_0:List D) (c0_0:Nat) (n0_1 n0_2:Int) (r1:List D) (q1:Nat) (N:Nat):Prop:=AT prog 60 [(Sh.row (OfNat.ofNat 3) 0),(Sh.sl 0),(Sh.int IntKind.i64),(Sh.int IntKind.i64)] Q N0 (.io E [.var [.sv none 0 [] 0,.int .i64 0,.int .i64 0]]) (zC prog 60 3) ⟨.pb 0 0 0 0::.sv a1 4 e1 c1::an 3 (.sb 1 0 0 m5 c5::.int .i64 n6::an 25 []),[.var [.sv a0_0 0 e0_0 c0_0,.int .i64 n0_1,.int .i64 n0_2],.arr 3 0 r1 q1],N,some (xE E 0 [.var [.sv none 0 [] 0,.int .i64 0,.int .i64 0]],[])⟩
def z4 (E:Env) (Q:QT [(Sh.row (OfNat.ofNat 47) 4),(Sh.sl 0),(Sh.int IntKind.i64),(Sh.int IntKind.i64)]) (N0:Nat) (m3 c3:Nat) (n4 n5:Int) (a0_0:Option Addr) (e0_0:List D) (c0_0:Nat) (n0_1 n0_2:Int) (r1:List D) (q1:Nat) (N:Nat):Prop:=AT prog 128 [(Sh.row (OfNat.ofNat 47) 4),(Sh.sl 0),(Sh.int IntKind.i64),(Sh.int IntKind.i64)] Q N0 (.io E [.var [.sv none 0 [] 0,.int .i64 0,.int .i64 0]]) (zC prog 128 4) ⟨.pb 0 0 0 0::an 2 (.sb 1 4 0 m3 c3::.int .i64 n4::.int .i64 n5::an 26 []),[.var [.sv a0_0 0 e0_0 c0_0,.int .i64 n0_1,.int .i64 n0_2],.arr 47 4 r1 q1],N,some (xE E 0 [.var [.sv none 0 [] 0,.int .i64 0,.int .i64 0]],[])⟩
def zr (E:Env) (Q:QT [(Sh.ag 9),(Sh.sl 0),(Sh.int IntKind.i64),(Sh.int IntKind.i64)]) (N0:Nat) (a1:Option Addr) (e1:List D) (c1:Nat) (n3:Int) (a0_0:Option Addr) (e0_0:List D) (c0_0:Nat) (n0_1 n0_2:Int) (y1:D) (n2_0:Int) (s2_1 s2_2:ByteArray) (n2_3 n2_4:Int) (a2_5:Option Addr) (e2_5:List D) (c2_5:Nat) (n2_6:Int) (a2_7:Option Addr) (e2_7:List D) (c2_7:Nat) (a2_8:Option Addr) (e2_8:List D) (c2_8:Nat) (N:Nat):Prop:=AT prog 129 [(Sh.ag 9),(Sh.sl 0),(Sh.int IntKind.i64),(Sh.int IntKind.i64)] Q N0 (.io E [.var [.sv none 0 [] 0,.int .i64 0,.int .i64 0]]) (qw prog 129 5) ⟨.pb 0 0 0 0::.sv a1 4 e1 c1::an 1 (.int .i64 n3::an 2 (.pb 1 0 0 0::an 1 (.pb 2 0 0 0::an 119 []))),[.var [.sv a0_0 0 e0_0 c0_0,.int .i64 n0_1,.int .i64 n0_2],.vd y1 2,.var [.int .i64 n2_0,.str s2_1,.str s2_2,.int .i64 n2_3,.int .i64 n2_4,.sv a2_5 2 e2_5 c2_5,.int .i64 n2_6,.sv a2_7 2 e2_7 c2_7,.sv a2_8 9 e2_8 c2_8]],N,some (xE E 0 [.var [.sv none 0 [] 0,.int .i64 0,.int .i64 0]],[])⟩
def ze (E:Env) (Q:QT [(Sh.ag 9),Sh.bool,(Sh.sl 0),(Sh.int IntKind.i64),(Sh.int IntKind.i64)]) (N0:Nat) (a1:Option Addr) (e1:List D) (c1:Nat) (n3:Int) (m10 c10:Nat) (n11:Int) (a0_0:Option Addr) (e0_0:List D) (c0_0:Nat) (n0_1 n0_2:Int) (y1:D) (n2_0:Int) (s2_1 s2_2:ByteArray) (n2_3 n2_4:Int) (a2_5:Option Addr) (e2_5:List D) (c2_5:Nat) (n2_6:Int) (a2_7:Option Addr) (e2_7:List D) (c2_7:Nat) (a2_8:Option Addr) (e2_8:List D) (c2_8:Nat) (r3:List D) (q3:Nat) (N:Nat):Prop:=AT prog 157 [(Sh.ag 9),Sh.bool,(Sh.sl 0),(Sh.int IntKind.i64),(Sh.int IntKind.i64)] Q N0 (.io E [.var [.sv none 0 [] 0,.int .i64 0,.int .i64 0]]) (zC prog 157 3) ⟨.pb 0 0 0 0::.sv a1 4 e1 c1::an 1 (.int .i64 n3::an 2 (.pb 1 0 0 0::an 1 (.pb 2 0 0 0::an 1 (.sb 3 9 0 m10 c10::.int .i64 n11::an 54 [])))),[.var [.sv a0_0 0 e0_0 c0_0,.int .i64 n0_1,.int .i64 n0_2],.vd y1 2,.var [.int .i64 n2_0,.str s2_1,.str s2_2,.int .i64 n2_3,.int .i64 n2_4,.sv a2_5 2 e2_5 c2_5,.int .i64 n2_6,.sv a2_7 2 e2_7 c2_7,.sv a2_8 9 e2_8 c2_8],.arr 30 9 r3 q3],N,some (xE E 0 [.var [.sv none 0 [] 0,.int .i64 0,.int .i64 0]],[])⟩
theorem zIa (N:Nat) (s0:ByteArray) (Q:QT [.ag 9]) (h :
∀ a,N<=a->Q (D.ag [D.lit (.int .i64 1),D.lit (.string s0),D.lit (.string (bytes [])),D.lit (.int .i64 0),D.lit (.int .i64 0),D.sl Option.none 2 [] 0,
 D.lit (.int .i64 0),D.sl Option.none 2 [] 0,D.sl Option.none 9 [] 0]) a):ACalls prog 155 [.ag 9] [PV.str s0] N Q:=
  eE (H:=zH4) (by kernel_rfl) (by kernel_rfl) h
theorem zHY (N:Nat) (a0:Option Addr) (e0:List D) (c0:Nat) (Q:QT [.cu]) (h :
Bel N (D.sl a0 0 e0 c0)->wu Q N a0 e0 c0 (IntKind.i64.wrap (26583+(e0.length:Int))) 0 N):ACalls prog 58 [.cu] [PV.sv a0 0 e0 c0] N Q:=
 eE (H:=zBY) (by kernel_rfl) (by kernel_rfl) h
theorem zJY (N:Nat) (s0:ByteArray) (a1:Option Addr) (e1:List D) (c1:Nat) (Q:QT [.ag 9]) (h :
Bel N (D.sl a1 9 e1 c1)->∀ a,N<=a->ACalls prog 123 [.ag 9] [.int .i64 4,.sv a1 9 e1 c1] a (fun x b=>a<=b->Bel b x->∀ a,b<=a->Q (D.ag
 [(x.cell 0),D.lit (.string s0),(x.cell 2),(x.cell 3),(x.cell 4),(x.cell 5),(x.cell 6),(x.cell 7),(x.cell 8)]) a)):ACalls prog 187 [.ag 9] [PV.str s0,PV.sv a1 9 e1 c1] N Q:=
  eE (H:=zIy) (by kernel_rfl) (by kernel_rfl) h
theorem qN (Q:QT [.cu]) (N0:Nat) (a0:Option Addr) (e0:List D) (c0:Nat) (n3 n4:Int) (N:Nat) (h :
Br (decide (n4<(e0.length:Int))) (Br (decide (n4<4000)) ((0<=n4/\n4<(e0.length:Int))/\∃ n:Int,List.getD e0 n4.toNat default=D.lit (.int IntKind.u8
 n)/\wu Q N0 a0 e0 c0 (IntKind.i64.wrap (BitVec.toNat (HAnd.hAnd (BitVec.ofInt 64 (IntKind.i64.wrap (IntKind.i64.wrap (IntKind.i64.wrap (n3*131) +
 IntKind.i64.wrap n)+7))) (BitVec.ofInt 64 1073741823)):Int)) (IntKind.i64.wrap (n4+1)) N) (∀ a,N<=a->Q a0 e0 c0 0 n3 a)) (∀ a,N<=a->Q a0 e0
 c0 0 n3 a)):wu Q N0 a0 e0 c0 n3 n4 N:=
  hE (H:=zBY) (by kernel_rfl) h
theorem zBI (N:Nat) (aB0_0:Option Addr) (eB0_0:List D) (cB0_0:Nat) (nB0_1 nB0_2:Int) (Q:QT [(Sh.row (OfNat.ofNat 47) 4),(Sh.ag 9),(Sh.sl 0),(Sh.int IntKind.i64),(Sh.int IntKind.i64)]) (h:∀ E:Env,
Bel N (D.sl aB0_0 0 eB0_0 cB0_0)->∀ b,N<=b->BCalls prog 128 [.row (OfNat.ofNat 47) 4,.sl 0,.int .i64,.int .i64] [.pb 0 0 0 0] [Bx.var [.sv aB0_0 0 eB0_0
 cB0_0,.int .i64 nB0_1,.int .i64 nB0_2]] b (fun a c d e f n g h=>b<=h->Bel h (D.sl d 0 e f)->Bel h (D.ag a)->(a.length=a.length
 /\ c=c)/\∀ b,ApA b a->∀ i,h<=i->vw i [b]->ACalls prog 87 [.sl 4] [.sv b 4 a c] i (fun h j k l=>i<=l->Off [b] (D.sl
 h 4 j k)/\(Bel l (D.sl h 4 j k)->∀ b,l<=b->ACalls prog 130 [.ag 2] [] b (fun x i=>b<=i->Bel i x->∀ b,i<=b->BCalls
 prog 61 [.int .i64,.sl 0,.int .i64,.int .i64] [.pb 0 0 0 0,.int .i64 4] [Bx.var [.sv d 0 e f,.int .i64 n,.int .i64 g]] b (fun d e f g i
 l m=>b<=m->Bel m (D.sl e 0 f g)->∀ b,m<=b->BCalls prog 129 [.ag 9,.sl 0,.int .i64,.int .i64] [.pb 0 0 0 0,.sv h 4 j k,
 .dg 2 x,.int .i64 (IntKind.i64.wrap (2+d))] [Bx.var [.sv e 0 f g,.int .i64 i,.int .i64 l]] b (fun d e f g h i j=>b<=j
 -> Bel j d->Bel j (D.sl e 0 f g)->wh E [.var [.sv none 0 [] 0,.int .i64 0,.int .i64 0]]/\(a.length=a.length/\c=c)/\∀ b,j<=b
 -> Q a c d e f g h i b))))))):BCalls prog 59 [(Sh.row (OfNat.ofNat 47) 4),(Sh.ag 9),(Sh.sl 0),(Sh.int IntKind.i64),(Sh.int IntKind.i64)] [.pb 0 0 0 0] [.var [.sv aB0_0 0 eB0_0 cB0_0,.int .i64 nB0_1,.int .i64 nB0_2]] N Q:=
  bE (H:=zDt) (by kernel_rfl) (fun E=>by kernel_rfl) h
theorem zAq (N:Nat) (a1:Option Addr) (e1:List D) (c1:Nat) (aB0_0:Option Addr) (eB0_0:List D) (cB0_0:Nat) (nB0_1 nB0_2:Int) (Q:QT [(Sh.row (OfNat.ofNat 3) 0),(Sh.sl 0),(Sh.int IntKind.i64),(Sh.int IntKind.i64)]) (h:∀ E:Env,
Bel N (D.sl a1 4 e1 c1)->Bel N (D.sl aB0_0 0 eB0_0 cB0_0)->yJ E Q N a1 e1 c1 0 0 0 aB0_0 eB0_0 cB0_0 nB0_1 nB0_2 [] 0 N):BCalls prog 60 [(Sh.row (OfNat.ofNat 3) 0),(Sh.sl 0),(Sh.int IntKind.i64),(Sh.int IntKind.i64)] [.pb 0 0 0 0,.sv a1 4 e1 c1] [.var [.sv aB0_0 0 eB0_0 cB0_0,.int .i64 nB0_1,.int .i64 nB0_2]] N Q:=
 bE (H:=qO) (by kernel_rfl) (fun E=>by kernel_rfl) h
theorem zBx (N:Nat) (n1:Int) (aB0_0:Option Addr) (eB0_0:List D) (cB0_0:Nat) (nB0_1 nB0_2:Int) (Q:QT [Sh.bool,(Sh.sl 0),(Sh.int IntKind.i64),(Sh.int IntKind.i64)]) (h:∀ E:Env,
Bel N (D.sl aB0_0 0 eB0_0 cB0_0)->∀ b,N<=b->BCalls prog 61 [.int .i64,.sl 0,.int .i64,.int .i64] [.pb 0 0 0 0,.int .i64 n1] [Bx.var [.sv aB0_0 0 eB0_0
 cB0_0,.int .i64 nB0_1,.int .i64 nB0_2]] b (fun n a c d e f g=>b<=g->Bel g (D.sl a 0 c d)->wh E [.var [.sv none 0 [] 0,.int .i64 0,.int
 .i64 0]]/\∀ b,g<=b->Q (n==0) a c d e f b)):BCalls prog 81 [Sh.bool,(Sh.sl 0),(Sh.int IntKind.i64),(Sh.int IntKind.i64)] [.pb 0 0 0 0,.int .i64 n1] [.var [.sv aB0_0 0 eB0_0 cB0_0,.int .i64 nB0_1,.int .i64 nB0_2]] N Q:=
  bE (H:=zFU) (by kernel_rfl) (fun E=>by kernel_rfl) h
theorem qd (N:Nat) (aB0_0:Option Addr) (eB0_0:List D) (cB0_0:Nat) (nB0_1 nB0_2:Int) (Q:QT [(Sh.row (OfNat.ofNat 47) 4),(Sh.sl 0),(Sh.int IntKind.i64),(Sh.int IntKind.i64)]) (h:∀ E:Env,
Bel N (D.sl aB0_0 0 eB0_0 cB0_0)->∀ b,N<=b->BCalls prog 61 [.int .i64,.sl 0,.int .i64,.int .i64] [.pb 0 0 0 0,.int .i64 4] [Bx.var [.sv aB0_0 0 eB0_0
 cB0_0,.int .i64 nB0_1,.int .i64 nB0_2]] b (fun n a c d e f g=>b<=g->Bel g (D.sl a 0 c d)->z4 E Q N 0 0 (IntKind.i64.wrap (1
 + n)) 0 a c d e f [] 0 g)):BCalls prog 128 [(Sh.row (OfNat.ofNat 47) 4),(Sh.sl 0),(Sh.int IntKind.i64),(Sh.int IntKind.i64)] [.pb 0 0 0 0] [.var [.sv aB0_0 0 eB0_0 cB0_0,.int .i64 nB0_1,.int .i64 nB0_2]] N Q:=
  bE (H:=t5) (by kernel_rfl) (fun E=>by kernel_rfl) h
theorem zAf (N:Nat) (n1:Int) (aB0_0:Option Addr) (eB0_0:List D) (cB0_0:Nat) (nB0_1 nB0_2:Int) (Q:QT [(Sh.int IntKind.i64),(Sh.sl 0),(Sh.int IntKind.i64),(Sh.int IntKind.i64)]) (h:∀ E:Env,
Bel N (D.sl aB0_0 0 eB0_0 cB0_0)->Br (decide (n1<=0)) (wh E [.var [.sv none 0 [] 0,.int .i64 0,.int .i64 0]]/\∀ a,N<=a->Q 0 aB0_0 eB0_0 cB0_0 nB0_1
 nB0_2 a) (Br (decide (n1<=256)) (∀ b,N<=b->BCalls prog 131 [.int .i64,.sl 0,.int .i64,.int .i64] [.pb 0 0 0 0] [Bx.var [.sv aB0_0 0 eB0_0 cB0_0,.int
 .i64 nB0_1,.int .i64 nB0_2]] b (fun n a c d e f g=>b<=g->Bel g (D.sl a 0 c d)->n1≠0/\wh E [.var [.sv none 0 [] 0,.int .i64 0,.int .i64
 0]]/\∀ b,g<=b->Q (Int.tmod n n1) a c d e f b)) (∀ a,N<=a->BCalls prog 131 [.int .i64,.sl 0,.int .i64,.int .i64] [.pb 0 0 0 0] [Bx.var
 [.sv aB0_0 0 eB0_0 cB0_0,.int .i64 nB0_1,.int .i64 nB0_2]] a (fun b c d e f g h=>a<=h->Bel h (D.sl c 0 d e)->∀ a,h<=a
 -> BCalls prog 131 [.int .i64,.sl 0,.int .i64,.int .i64] [.pb 0 0 0 0] [Bx.var [.sv c 0 d e,.int .i64 f,.int .i64 g]] a (fun c d e f g
 h i=>a<=i->Bel i (D.sl d 0 e f)->∀ a,i<=a->BCalls prog 131 [.int .i64,.sl 0,.int .i64,.int .i64] [.pb 0 0 0 0] [Bx.var [.sv d
 0 e f,.int .i64 g,.int .i64 h]] a (fun d e f g h i j=>a<=j->Bel j (D.sl e 0 f g)->∀ a,j<=a->BCalls
 prog 131 [.int .i64,.sl 0,.int .i64,.int .i64] [.pb 0 0 0 0] [Bx.var [.sv e 0 f g,.int .i64 h,.int .i64 i]] a (fun e f g h i j
 k=>a<=k->Bel k (D.sl f 0 g h)->n1≠0/\wh E [.var [.sv none 0 [] 0,.int .i64 0,.int .i64 0]]/\∀ a,k<=a->Q (Int.tmod (IntKind.i64.wrap
 (IntKind.i64.wrap (IntKind.i64.wrap (IntKind.i64.wrap (b*16777216)+IntKind.i64.wrap (c*65536))+IntKind.i64.wrap (d*256))+e)) n1) f g h
 i j a))))))):BCalls prog 61 [(Sh.int IntKind.i64),(Sh.sl 0),(Sh.int IntKind.i64),(Sh.int IntKind.i64)] [.pb 0 0 0 0,.int .i64 n1] [.var [.sv aB0_0 0 eB0_0 cB0_0,.int .i64 nB0_1,.int .i64 nB0_2]] N Q:=
  bE (H:=zD7) (by kernel_rfl) (fun E=>by kernel_rfl) h
theorem sB (N:Nat) (a1:Option Addr) (e1:List D) (c1:Nat) (x2:D) (n3:Int) (aB0_0:Option Addr) (eB0_0:List D) (cB0_0:Nat) (nB0_1 nB0_2:Int) (Q:QT [(Sh.ag 9),(Sh.sl 0),(Sh.int IntKind.i64),(Sh.int IntKind.i64)]) (h:∀ E:Env,
Bel N (D.sl a1 4 e1 c1)->Bel N x2->Bel N (D.sl aB0_0 0 eB0_0 cB0_0)->∀ d,N<=d->BCalls prog 81 [.bool,.sl 0,.int .i64,.int .i64] [.pb 0 0 0 0,.int .i64
 3] [Bx.var [.sv aB0_0 0 eB0_0 cB0_0,.int .i64 nB0_1,.int .i64 nB0_2]] d (fun b a c e n f g=>d<=g->Bel g (D.sl a 0 c e)->Br (!b) (∀ b,g
 <= b->BCalls prog 157 [.ag 9,.bool,.sl 0,.int .i64,.int .i64] [.pb 0 0 0 0,.sv a1 4 e1 c1,.dg 2 x2,.int .i64 0] [Bx.var [.sv a 0 c e,.int .i64 n,.int
 .i64 f]] b (fun x a c d e f g h=>b<=h->Bel h x->Bel h (D.sl c 0 d e)->Br a (wh E [.var [.sv none 0 [] 0,.int .i64 0,
 .int .i64 0]]/\∀ a,h<=a->Q x c d e f g a) (zr E Q N a1 e1 c1 n3 c d e f g x2 0 (bytes []) (bytes []) 0 0 Option.none
 [] 0 0 Option.none [] 0 Option.none [] 0 h))) (Br (decide (n3<2)) (∀ b,g<=b->BCalls prog 157 [.ag 9,.bool,.sl 0,.int .i64,.int .i64] [.pb 0 0 0
 0,.sv a1 4 e1 c1,.dg 2 x2,.int .i64 0] [Bx.var [.sv a 0 c e,.int .i64 n,.int .i64 f]] b (fun a c d e f g h i=>b<=i->Bel i a
 -> Bel i (D.sl d 0 e f)->Br c (wh E [.var [.sv none 0 [] 0,.int .i64 0,.int .i64 0]]/\∀ b,i<=b->Q a d e f g h b) (zr
 E Q N a1 e1 c1 n3 d e f g h x2 0 (bytes []) (bytes []) 0 0 Option.none [] 0 0 Option.none [] 0 Option.none [] 0 i))) (zr E Q N a1 e1 c1
 n3 a c e n f x2 0 (bytes []) (bytes []) 0 0 Option.none [] 0 0 Option.none [] 0 Option.none [] 0 g)))):BCalls prog 129 [(Sh.ag 9),(Sh.sl 0),(Sh.int IntKind.i64),(Sh.int IntKind.i64)] [.pb 0 0 0 0,.sv a1 4 e1 c1,.dg 2 x2,.int .i64 n3] [.var [.sv aB0_0 0 eB0_0 cB0_0,.int .i64 nB0_1,.int .i64 nB0_2]] N Q:=
  bE (H:=zAE) (by kernel_rfl) (fun E=>by kernel_rfl) h
theorem sC (E:Env) (Q:QT [(Sh.row (OfNat.ofNat 3) 0),(Sh.sl 0),(Sh.int IntKind.i64),(Sh.int IntKind.i64)]) (N0:Nat) (a1:Option Addr) (e1:List D) (c1 m5 c5:Nat) (n6:Int) (a0_0:Option Addr) (e0_0:List D) (c0_0:Nat) (n0_1 n0_2:Int) (r1:List D) (q1:Nat) (N:Nat) (h :
Br (decide (n6<(e1.length:Int))) (∀ b,N<=b->BCalls prog 63 [.int .i64,.sl 0,.int .i64,.int .i64,.sl 0] [.pb 0 0 0 0,.sb 1 0 0 6 6] [Bx.var [.sv a0_0
 0 e0_0 c0_0,.int .i64 n0_1,.int .i64 n0_2],Bx.arr 3 0 [D.lit (.int .i64 0),D.lit (.int .i64 1),D.lit (.int .i64 2),D.lit (.int .i64 3),D.lit (.int .i64 10006),
 D.lit (.int .i64 500)] 6] b (fun n a c d e f g h i j=>b<=j->Bel j (D.sl a 0 c d)->Bel j (D.sl g 0 h i)->(0<=n6/\n6<(e1.length
 : Int))/\∃ b:Int,(if 0=0 then D.cell (if 2=0 then D.cell (List.getD e1 n6.toNat default) 1 else D.sub (List.getD e1 n6.toNat default) 1 2) 0 else D.sub
 (if 2=0 then D.cell (List.getD e1 n6.toNat default) 1 else D.sub (List.getD e1 n6.toNat default) 1 2) 0 0)=D.lit (.int .i64 b)/\Br (b==2) ((2:Int) ≠
 (0:Int)/\(m5=r1.length/\c5=q1)/\zA r1 [D.lit (.int .i64 (Int.tmod n 2))] 8/\∀ (b:Nat),yJ E Q N0 a1 e1 c1 (r1++[D.lit (.int .i64
 (Int.tmod n 2))]).length b (IntKind.i64.wrap (n6+1)) a c d e f (r1++[D.lit (.int .i64 (Int.tmod n 2))]) b j) ((m5=r1.length/\c5=q1)/\zA
 r1 [D.lit (.int .i64 n)] 8/\∀ (b:Nat),yJ E Q N0 a1 e1 c1 (r1++[D.lit (.int .i64 n)]).length b (IntKind.i64.wrap (n6+1)) a c d e f
 (r1++[D.lit (.int .i64 n)]) b j))) (wh E [.var [.sv none 0 [] 0,.int .i64 0,.int .i64 0]]/\(m5=r1.length/\c5=q1)/\∀ a,N<=a->Q r1 c5 a0_0
 e0_0 c0_0 n0_1 n0_2 a)):yJ E Q N0 a1 e1 c1 m5 c5 n6 a0_0 e0_0 c0_0 n0_1 n0_2 r1 q1 N:=
  hE (H:=qO) (by kernel_rfl) h
theorem uU (E:Env) (Q:QT [(Sh.row (OfNat.ofNat 47) 4),(Sh.sl 0),(Sh.int IntKind.i64),(Sh.int IntKind.i64)]) (N0:Nat) (m3 c3:Nat) (n4 n5:Int) (a0_0:Option Addr) (e0_0:List D) (c0_0:Nat) (n0_1 n0_2:Int) (r1:List D) (q1:Nat) (N:Nat) (h :
Br (decide (n5<n4)) (∀ d,N<=d->ACalls prog 130 [.ag 2] [] d (fun x e=>d<=e->Bel e x->Br (n5==3) (∀ d,e<=d->ACalls prog 151 [.ag
 2] [] d (fun e f=>d<=f->Bel f e->(0<=n5/\n5<4/\(0+n5.toNat:Nat)<4)/\(0+n5.toNat:Nat)<4/\∃ s,List.getD [D.lit (.string (bytes
 [120])),D.lit (.string (bytes [121])),D.lit (.string (bytes [110])),D.lit (.string (bytes [98]))] (0+n5.toNat:Nat) default=D.lit (.string s)/\∀ d,f
 <= d->BCalls prog 81 [.bool,.sl 0,.int .i64,.int .i64] [.pb 0 0 0 0,.int .i64 2] [Bx.var [.sv a0_0 0 e0_0 c0_0,.int .i64 n0_1,.int .i64 n0_2]] d (fun b
 a c f n g h=>d<=h->Bel h (D.sl a 0 c f)->(m3=r1.length/\c3=q1)/\zA r1 [D.ag [D.lit (.string s),(e.cell 0),(e.cell 1),D.lit (.bool
 b)]] 56/\∀ (d:Nat),z4 E Q N0 (r1++[D.ag [D.lit (.string s),(e.cell 0),(e.cell 1),D.lit (.bool b)]]).length d n4 (IntKind.i64.wrap
 (n5+1)) a c f n g (r1++[D.ag [D.lit (.string s),(e.cell 0),(e.cell 1),D.lit (.bool b)]]) d h))) ((0<=n5/\n5<4/\(0+n5.toNat:Nat)<4) /\
 (0+n5.toNat:Nat)<4/\∃ a,List.getD [D.lit (.string (bytes [120])),D.lit (.string (bytes [121])),D.lit (.string (bytes [110])),D.lit (.string (bytes [98]))]
 (0+n5.toNat:Nat) default=D.lit (.string a)/\∀ b,e<=b->BCalls prog 81 [.bool,.sl 0,.int .i64,.int .i64] [.pb 0 0 0 0,.int .i64 2] [Bx.var [.sv
 a0_0 0 e0_0 c0_0,.int .i64 n0_1,.int .i64 n0_2]] b (fun c d e f g h i=>b<=i->Bel i (D.sl d 0 e f)->(m3=r1.length/\c3=q1)
 /\ zA r1 [D.ag [D.lit (.string a),(x.cell 0),(x.cell 1),D.lit (.bool c)]] 56/\∀ (b:Nat),z4 E Q N0 (r1++[D.ag [D.lit (.string a),
 (x.cell 0),(x.cell 1),D.lit (.bool c)]]).length b n4 (IntKind.i64.wrap (n5+1)) d e f g h (r1++[D.ag [D.lit (.string a),(x.cell 0),(x.cell
 1),D.lit (.bool c)]]) b i)))) (wh E [.var [.sv none 0 [] 0,.int .i64 0,.int .i64 0]]/\(m3=r1.length/\c3=q1)/\∀ a,N<=a->Q r1 c3 a0_0 e0_0
 c0_0 n0_1 n0_2 a)):z4 E Q N0 m3 c3 n4 n5 a0_0 e0_0 c0_0 n0_1 n0_2 r1 q1 N:=
  hE (H:=t5) (by kernel_rfl) h
theorem zBl (N:Nat) (aB0_0:Option Addr) (eB0_0:List D) (cB0_0:Nat) (nB0_1 nB0_2:Int) (Q:QT [(Sh.int IntKind.i64),(Sh.sl 0),(Sh.int IntKind.i64),(Sh.int IntKind.i64)]) (h:∀ E:Env,
Bel N (D.sl aB0_0 0 eB0_0 cB0_0)->(0:Int)<=(33:Int)/\(0:Int)<=(45:Int)/\Br (decide (nB0_1<(eB0_0.length:Int))) ((0<=nB0_1/\nB0_1<(eB0_0.length
 : Int))/\∃ n:Int,List.getD eB0_0 nB0_1.toNat default=D.lit (.int IntKind.u8 n)/\wh E [.var [.sv none 0 [] 0,.int .i64 0,.int .i64 0]]/\∀ a,N<=a
 -> Q (IntKind.i64.wrap (BitVec.toNat (HAnd.hAnd (BitVec.ofInt 64 (IntKind.i64.wrap (IntKind.i64.wrap (BitVec.toNat (HAnd.hAnd (BitVec.ofInt 64 (IntKind.i64.wrap (BitVec.toNat
 (HXor.hXor (BitVec.ofInt 64 (Int.fdiv (IntKind.i64.wrap (IntKind.i64.wrap (nB0_2*6364136223846793005)+1442695040888963407)) 8589934592)) (BitVec.ofInt 64 (Int.fdiv
 (IntKind.i64.wrap (IntKind.i64.wrap (nB0_2*6364136223846793005)+1442695040888963407)) 35184372088832))):Int))) (BitVec.ofInt 64 255)):Int)+IntKind.i64.wrap
 n))) (BitVec.ofInt 64 255)):Int)) aB0_0 eB0_0 cB0_0 (IntKind.i64.wrap (nB0_1+1)) (IntKind.i64.wrap (IntKind.i64.wrap (nB0_2*6364136223846793005)+1442695040888963407))
 a) (wh E [.var [.sv none 0 [] 0,.int .i64 0,.int .i64 0]]/\∀ a,N<=a->Q (IntKind.i64.wrap (BitVec.toNat (HAnd.hAnd (BitVec.ofInt 64 (IntKind.i64.wrap
 (BitVec.toNat (HXor.hXor (BitVec.ofInt 64 (Int.fdiv (IntKind.i64.wrap (IntKind.i64.wrap (nB0_2*6364136223846793005)+1442695040888963407)) 8589934592)) (BitVec.ofInt
 64 (Int.fdiv (IntKind.i64.wrap (IntKind.i64.wrap (nB0_2*6364136223846793005)+1442695040888963407)) 35184372088832))):Int))) (BitVec.ofInt 64 255)):Int))
 aB0_0 eB0_0 cB0_0 nB0_1 (IntKind.i64.wrap (IntKind.i64.wrap (nB0_2*6364136223846793005)+1442695040888963407)) a)):BCalls prog 131 [(Sh.int IntKind.i64),(Sh.sl 0),(Sh.int IntKind.i64),(Sh.int IntKind.i64)] [.pb 0 0 0 0] [.var [.sv aB0_0 0 eB0_0 cB0_0,.int .i64 nB0_1,.int .i64 nB0_2]] N Q:=
  bE (H:=zGB) (by kernel_rfl) (fun E=>by kernel_rfl) h
theorem zAx (N:Nat) (a1:Option Addr) (e1:List D) (c1:Nat) (x2:D) (n3:Int) (aB0_0:Option Addr) (eB0_0:List D) (cB0_0:Nat) (nB0_1 nB0_2:Int) (Q:QT [(Sh.ag 9),Sh.bool,(Sh.sl 0),(Sh.int IntKind.i64),(Sh.int IntKind.i64)]) (h:∀ E:Env,
Bel N (D.sl a1 4 e1 c1)->Bel N x2->Bel N (D.sl aB0_0 0 eB0_0 cB0_0)->ze E Q N a1 e1 c1 n3 0 0 0 aB0_0 eB0_0 cB0_0 nB0_1 nB0_2 x2 0 (bytes []) (bytes
 []) 0 0 Option.none [] 0 0 Option.none [] 0 Option.none [] 0 [] 0 N):BCalls prog 157 [(Sh.ag 9),Sh.bool,(Sh.sl 0),(Sh.int IntKind.i64),(Sh.int IntKind.i64)] [.pb 0 0 0 0,.sv a1 4 e1 c1,.dg 2 x2,.int .i64 n3] [.var [.sv aB0_0 0 eB0_0 cB0_0,.int .i64 nB0_1,.int .i64 nB0_2]] N Q:=
  bE (H:=qJ) (by kernel_rfl) (fun E=>by kernel_rfl) h
theorem sL (E:Env) (Q:QT [(Sh.ag 9),(Sh.sl 0),(Sh.int IntKind.i64),(Sh.int IntKind.i64)]) (N0:Nat) (a1:Option Addr) (e1:List D) (c1:Nat) (n3:Int) (a0_0:Option Addr) (e0_0:List D) (c0_0:Nat) (n0_1 n0_2:Int) (y1:D) (n2_0:Int) (s2_1 s2_2:ByteArray) (n2_3 n2_4:Int) (a2_5:Option Addr) (e2_5:List D) (c2_5:Nat) (n2_6:Int) (a2_7:Option Addr) (e2_7:List D) (c2_7:Nat) (a2_8:Option Addr) (e2_8:List D) (c2_8:Nat) (N:Nat) (h :
Br (decide (n3<2)) (∀ b,N<=b->BCalls prog 158 [.ag 9,.sl 0,.int .i64,.int .i64] [.pb 0 0 0 0,.dg 2 y1,.int .i64 0] [Bx.var [.sv a0_0 0 e0_0 c0_0,.int
 .i64 n0_1,.int .i64 n0_2]] b (fun x a c d n e f=>b<=f->Bel f x->Bel f (D.sl a 0 c d)->wh E [.var [.sv none 0 [] 0,.int .i64 0,.int .i64
 0]]/\∀ b,f<=b->Q x a c d n e b)) (∀ a,N<=a->ACalls prog 130 [.ag 2] [] a (fun c d=>a<=d->Bel d c->∀ a,d<=a->BCalls
 prog 61 [.int .i64,.sl 0,.int .i64,.int .i64] [.pb 0 0 0 0,.int .i64 5] [Bx.var [.sv a0_0 0 e0_0 c0_0,.int .i64 n0_1,.int .i64 n0_2]] a (fun d e f
 g h i j=>a<=j->Bel j (D.sl e 0 f g)->Br (d==0) (∀ a,j<=a->ACalls prog 151 [.ag 2] [] a (fun b c=>a<=c->Bel c
 b->∀ a,c<=a->BCalls prog 129 [.ag 9,.sl 0,.int .i64,.int .i64] [.pb 0 0 0 0,.sv a1 4 e1 c1,.dg 2 b,.int .i64 (IntKind.i64.wrap (n3 - 1))] [Bx.var
 [.sv e 0 f g,.int .i64 h,.int .i64 i]] a (fun b c d e f g h=>a<=h->Bel h b->Bel h (D.sl c 0 d e)->∀ a,
 h<=a->BCalls prog 129 [.ag 9,.sl 0,.int .i64,.int .i64] [.pb 0 0 0 0,.sv a1 4 e1 c1,.dg 2 y1,.int .i64 (IntKind.i64.wrap (n3 - 1))] [Bx.var [.sv c
 0 d e,.int .i64 f,.int .i64 g]] a (fun c d e f g h i=>a<=i->Bel i c->Bel i (D.sl d 0 e f)->∀ a,i
 <= a->BCalls prog 129 [.ag 9,.sl 0,.int .i64,.int .i64] [.pb 0 0 0 0,.sv a1 4 e1 c1,.dg 2 y1,.int .i64 (IntKind.i64.wrap (n3 - 1))] [Bx.var [.sv d 0 e
 f,.int .i64 g,.int .i64 h]] a (fun d e f g h i j=>a<=j->Bel j d->Bel j (D.sl e 0 f g)->(3=([b,c,d]).length
 /\ 3=3)/\∀ a,ApA a [b,c,d]->∀ k,j<=k->vw k [a]->ACalls prog 123 [.ag 9] [.int .i64 5,.sv a 9 [b,c,d] 3] k (fun
 b c=>k<=c->Off [a] b/\(Bel c b->wh E [.var [.sv none 0 [] 0,.int .i64 0,.int .i64 0]]/\∀ a,c<=a->Q b e f g h
 i a))))))) (Br (d==1) (∀ a,j<=a->BCalls prog 132 [.str,.sl 0,.int .i64,.int .i64,.sl 0] [.pb 0 0 0 0,.sb 1 0 0 4 4] [Bx.var [.sv e 0
 f g,.int .i64 h,.int .i64 i],Bx.arr 9 0 [D.lit (.string (bytes [120])),D.lit (.string (bytes [117])),D.lit (.string (bytes [118])),D.lit (.string
 (bytes [121]))] 4] a (fun s b d e f g h i j k=>a<=k->Bel k (D.sl b 0 d e)->Bel k (D.sl h 0 i j)->∀ a,
 k<=a->BCalls prog 129 [.ag 9,.sl 0,.int .i64,.int .i64] [.pb 0 0 0 0,.sv a1 4 e1 c1,.dg 2 c,.int .i64 (IntKind.i64.wrap (n3 - 1))] [Bx.var [.sv b
 0 d e,.int .i64 f,.int .i64 g]] a (fun b d e f g h i=>a<=i->Bel i b->Bel i (D.sl d 0 e f)->∀ a,i
 <= a->ACalls prog 162 [.sl 4] [.sv a1 4 e1 c1,.str s,.dg 2 c,.int .i64 0] a (fun c i j k=>a<=k->Bel k (D.sl c 4 i j)->∀
 a,k<=a->BCalls prog 129 [.ag 9,.sl 0,.int .i64,.int .i64] [.pb 0 0 0 0,.sv c 4 i j,.dg 2 y1,.int .i64 (IntKind.i64.wrap (n3 - 1))] [Bx.var
 [.sv d 0 e f,.int .i64 g,.int .i64 h]] a (fun c d e f g h i=>a<=i->Bel i c->Bel i (D.sl d 0 e f)
 -> ∀ a,i<=a->ACalls prog 186 [.ag 9] [.str s,.dg 9 b,.dg 9 c] a (fun b c=>a<=c->Bel c b->wh E [.var [.sv none 0 [] 0,
 .int .i64 0,.int .i64 0]]/\∀ a,c<=a->Q b d e f g h a)))))) (∃ a:Int,(y1.cell 0)=D.lit (.int .i64 a)/\Br (a==1)
 (∀ a,j<=a->BCalls prog 132 [.str,.sl 0,.int .i64,.int .i64,.sl 0] [.pb 0 0 0 0,.sb 1 0 0 3 3] [Bx.var [.sv e 0 f g,.int .i64 h,.int .i64
 i],Bx.arr 9 0 [D.lit (.string (bytes [43])),D.lit (.string (bytes [42])),D.lit (.string (bytes [45]))] 3] a (fun b d e f g h i j
 k l=>a<=l->Bel l (D.sl d 0 e f)->Bel l (D.sl i 0 j k)->∀ a,l<=a->BCalls prog 129 [.ag 9,.sl 0,.int .i64,
 .int .i64] [.pb 0 0 0 0,.sv a1 4 e1 c1,.dg 2 c,.int .i64 (IntKind.i64.wrap (n3 - 1))] [Bx.var [.sv d 0 e f,.int .i64 g,.int .i64 h]] a
 (fun d e f g h i j=>a<=j->Bel j d->Bel j (D.sl e 0 f g)->∀ a,j<=a->BCalls prog 129 [.ag 9,.sl 0,
 .int .i64,.int .i64] [.pb 0 0 0 0,.sv a1 4 e1 c1,.dg 2 c,.int .i64 (IntKind.i64.wrap (n3 - 1))] [Bx.var [.sv e 0 f g,.int .i64 h,.int .i64 i]]
 a (fun c e f g h i j=>a<=j->Bel j c->Bel j (D.sl e 0 f g)->(2=([d,c]).length/\2=2)/\∀ a,
 ApA a [d,c]->∀ k,j<=k->vw k [a]->ACalls prog 187 [.ag 9] [.str b,.sv a 9 [d,c] 2] k (fun b c=>k<=c
 -> Off [a] b/\(Bel c b->wh E [.var [.sv none 0 [] 0,.int .i64 0,.int .i64 0]]/\∀ a,c<=a->Q b e f g h i a))))))
 (∀ a,j<=a->BCalls prog 81 [.bool,.sl 0,.int .i64,.int .i64] [.pb 0 0 0 0,.int .i64 4] [Bx.var [.sv e 0 f g,.int .i64 h,.int .i64 i]]
 a (fun b d e f g h i=>a<=i->Bel i (D.sl d 0 e f)->Br b (∀ a,i<=a->BCalls prog 129 [.ag 9,.sl 0,.int .i64,
 .int .i64] [.pb 0 0 0 0,.sv a1 4 e1 c1,.dg 2 y1,.int .i64 (IntKind.i64.wrap (n3 - 1))] [Bx.var [.sv d 0 e f,.int .i64 g,.int .i64 h]] a (fun
 b c d e f g h=>a<=h->Bel h b->Bel h (D.sl c 0 d e)->(1=([b]).length/\1=1)/\∀ a,ApA a [b]
 -> ∀ i,h<=i->vw i [a]->ACalls prog 187 [.ag 9] [.str (bytes [33]),.sv a 9 [b] 1] i (fun b h=>i<=h->Off [a] b
 /\ (Bel h b->wh E [.var [.sv none 0 [] 0,.int .i64 0,.int .i64 0]]/\∀ a,h<=a->Q b c d e f g a)))) (∀ a,i<=a
 -> BCalls prog 132 [.str,.sl 0,.int .i64,.int .i64,.sl 0] [.pb 0 0 0 0,.sb 1 0 0 2 2] [Bx.var [.sv d 0 e f,.int .i64 g,.int .i64 h],Bx.arr
 9 0 [D.lit (.string (bytes [61])),D.lit (.string (bytes [60]))] 2] a (fun b d e f g h i j k l=>a<=l->Bel l (D.sl
 d 0 e f)->Bel l (D.sl i 0 j k)->∀ a,l<=a->BCalls prog 129 [.ag 9,.sl 0,.int .i64,.int .i64] [.pb 0 0 0 0,.sv a1 4 e1 c1,
 .dg 2 c,.int .i64 (IntKind.i64.wrap (n3 - 1))] [Bx.var [.sv d 0 e f,.int .i64 g,.int .i64 h]] a (fun d e f g h i j
 => a<=j->Bel j d->Bel j (D.sl e 0 f g)->∀ a,j<=a->BCalls prog 129 [.ag 9,.sl 0,.int .i64,.int .i64] [.pb 0 0 0 0,.sv
 a1 4 e1 c1,.dg 2 c,.int .i64 (IntKind.i64.wrap (n3 - 1))] [Bx.var [.sv e 0 f g,.int .i64 h,.int .i64 i]] a (fun c e f g h
 i j=>a<=j->Bel j c->Bel j (D.sl e 0 f g)->(2=([d,c]).length/\2=2)/\∀ a,ApA a [d,c]->∀ k,j
 <= k->vw k [a]->ACalls prog 187 [.ag 9] [.str b,.sv a 9 [d,c] 2] k (fun b c=>k<=c->Off [a] b/\(Bel c b ->
 wh E [.var [.sv none 0 [] 0,.int .i64 0,.int .i64 0]]/\∀ a,c<=a->Q b e f g h i a)))))))))))))):zr E Q N0 a1 e1 c1 n3 a0_0 e0_0 c0_0 n0_1 n0_2 y1 n2_0 s2_1 s2_2 n2_3 n2_4 a2_5 e2_5 c2_5 n2_6 a2_7 e2_7 c2_7 a2_8 e2_8 c2_8 N:=
  hE (H:=zAE) (by kernel_rfl) h
theorem qi (N:Nat) (m1 c1:Nat) (aB0_0:Option Addr) (eB0_0:List D) (cB0_0:Nat) (nB0_1 nB0_2:Int) (rB1:List D) (qB1:Nat) (Q:QT [(Sh.int IntKind.i64),(Sh.sl 0),(Sh.int IntKind.i64),(Sh.int IntKind.i64),(Sh.sl 0)]) (h:∀ E:Env,
Bel N (D.sl aB0_0 0 eB0_0 cB0_0)->Bel N (D.sl Option.none 0 rB1 qB1)->∀ b,N<=b->BCalls prog 61 [.int .i64,.sl 0,.int .i64,.int .i64] [.pb 0 0 0 0,.int
 .i64 (m1:Int)] [Bx.var [.sv aB0_0 0 eB0_0 cB0_0,.int .i64 nB0_1,.int .i64 nB0_2]] b (fun n a c d e f g=>b<=g->Bel g (D.sl a 0 c d)->(0 <=
 n/\n<(m1:Int)/\(0+n.toNat:Nat)<rB1.length)/\(0+n.toNat:Nat)<rB1.length/\∃ b:Int,List.getD rB1 (0+n.toNat:Nat) default=D.lit (.int
 .i64 b)/\wh E [.var [.sv none 0 [] 0,.int .i64 0,.int .i64 0],.arr 3 0 [] 0]/\∀ h,g<=h->Q b a c d e f Option.none rB1 qB1 h)):BCalls prog 63 [(Sh.int IntKind.i64),(Sh.sl 0),(Sh.int IntKind.i64),(Sh.int IntKind.i64),(Sh.sl 0)] [.pb 0 0 0 0,.sb 1 0 0 m1 c1] [.var [.sv aB0_0 0 eB0_0 cB0_0,.int .i64 nB0_1,.int .i64 nB0_2],.arr 3 0 rB1 qB1] N Q:=
  bE (H:=zBz) (by kernel_rfl) (fun E=>by kernel_rfl) h
theorem tw (E:Env) (Q:QT [(Sh.ag 9),Sh.bool,(Sh.sl 0),(Sh.int IntKind.i64),(Sh.int IntKind.i64)]) (N0:Nat) (a1:Option Addr) (e1:List D) (c1:Nat) (n3:Int) (m10 c10:Nat) (n11:Int) (a0_0:Option Addr) (e0_0:List D) (c0_0:Nat) (n0_1 n0_2:Int) (y1:D) (n2_0:Int) (s2_1 s2_2:ByteArray) (n2_3 n2_4:Int) (a2_5:Option Addr) (e2_5:List D) (c2_5:Nat) (n2_6:Int) (a2_7:Option Addr) (e2_7:List D) (c2_7:Nat) (a2_8:Option Addr) (e2_8:List D) (c2_8:Nat) (r3:List D) (q3:Nat) (N:Nat) (h :
Br (decide (n11<(e1.length:Int))) ((0<=n11/\n11<(e1.length:Int))/\∃ n:Int,(if 0=0 then D.cell (List.getD e1 n11.toNat default) 3 else D.sub (List.getD
 e1 n11.toNat default) 3 0)=D.lit (.int .i64 n)/\Br (n==n3) ((0<=n11/\n11<(e1.length:Int))/\∀ a,N<=a->ACalls prog 107 [.bool] [.dg 2 (if 2=0
 then D.cell (List.getD e1 n11.toNat default) 1 else D.sub (List.getD e1 n11.toNat default) 1 2),.dg 2 y1] a (fun b d=>a<=d->Br b ((0<=n11/\n11<(e1.length
 : Int))/\∃ s,(if 0=0 then D.cell (List.getD e1 n11.toNat default) 0 else D.sub (List.getD e1 n11.toNat default) 0 0)=D.lit (.string s)/\∀ a,d<=a ->
 ACalls prog 109 [.int .i64] [.sv a1 4 e1 c1,.str s] a (fun b d=>a<=d->Br (b==n11) ((0<=n11/\n11<(e1.length:Int))/\∃ a,(if 0=0 then
 D.cell (List.getD e1 n11.toNat default) 0 else D.sub (List.getD e1 n11.toNat default) 0 0)=D.lit (.string a)/\∀ b,d<=b->ACalls prog 155 [.ag 9] [.str
 a] b (fun x a=>b<=a->Bel a x->(m10=r3.length/\c10=q3)/\zA r3 [x] 136/\∀ (c:Nat),ze E Q N0 a1 e1 c1 n3 (r3++[x]).length
 c (IntKind.i64.wrap (n11+1)) a0_0 e0_0 c0_0 n0_1 n0_2 y1 n2_0 s2_1 s2_2 n2_3 n2_4 a2_5 e2_5 c2_5 n2_6 a2_7 e2_7 c2_7 a2_8 e2_8 c2_8 (r3++[x]) c a)) (ze
 E Q N0 a1 e1 c1 n3 m10 c10 (IntKind.i64.wrap (n11+1)) a0_0 e0_0 c0_0 n0_1 n0_2 y1 n2_0 s2_1 s2_2 n2_3 n2_4 a2_5 e2_5 c2_5 n2_6 a2_7 e2_7 c2_7 a2_8 e2_8 c2_8 r3
 q3 d))) (ze E Q N0 a1 e1 c1 n3 m10 c10 (IntKind.i64.wrap (n11+1)) a0_0 e0_0 c0_0 n0_1 n0_2 y1 n2_0 s2_1 s2_2 n2_3 n2_4 a2_5 e2_5 c2_5 n2_6 a2_7
 e2_7 c2_7 a2_8 e2_8 c2_8 r3 q3 d))) (ze E Q N0 a1 e1 c1 n3 m10 c10 (IntKind.i64.wrap (n11+1)) a0_0 e0_0 c0_0 n0_1 n0_2 y1 n2_0 s2_1 s2_2 n2_3 n2_4
 a2_5 e2_5 c2_5 n2_6 a2_7 e2_7 c2_7 a2_8 e2_8 c2_8 r3 q3 N)) (Br ((m10:Int)==0) (wh E [.var [.sv none 0 [] 0,.int .i64 0,.int .i64 0]]/\∀ a,N<=a ->
 Q (D.ag [D.lit (.int .i64 0),D.lit (.string (bytes [])),D.lit (.string (bytes [])),D.lit (.int .i64 0),D.lit (.int .i64 0),D.sl Option.none 2 [] 0,D.lit (.int
 .i64 0),D.sl Option.none 2 [] 0,D.sl Option.none 9 [] 0]) false a0_0 e0_0 c0_0 n0_1 n0_2 a) (∀ b,N<=b->BCalls prog 61 [.int .i64,.sl 0,.int .i64,.int
 .i64] [.pb 0 0 0 0,.int .i64 (m10:Int)] [Bx.var [.sv a0_0 0 e0_0 c0_0,.int .i64 n0_1,.int .i64 n0_2]] b (fun a c d e f g h=>b<=h->Bel h
 (D.sl c 0 d e)->(0<=a/\a<(m10:Int)/\(0+a.toNat:Nat)<r3.length)/\(0+a.toNat:Nat)<r3.length/\wh E [.var [.sv none 0 [] 0,.int .i64
 0,.int .i64 0]]/\∀ b,h<=b->Q (List.getD r3 (0+a.toNat:Nat) default) true c d e f g b)))):ze E Q N0 a1 e1 c1 n3 m10 c10 n11 a0_0 e0_0 c0_0 n0_1 n0_2 y1 n2_0 s2_1 s2_2 n2_3 n2_4 a2_5 e2_5 c2_5 n2_6 a2_7 e2_7 c2_7 a2_8 e2_8 c2_8 r3 q3 N:=
  hE (H:=qJ) (by kernel_rfl) h
theorem xM (N:Nat) (x1:D) (n2:Int) (aB0_0:Option Addr) (eB0_0:List D) (cB0_0:Nat) (nB0_1 nB0_2:Int) (Q:QT [(Sh.ag 9),(Sh.sl 0),(Sh.int IntKind.i64),(Sh.int IntKind.i64)]) (h:∀ E:Env,
Bel N x1->Bel N (D.sl aB0_0 0 eB0_0 cB0_0)->∃ n:Int,(x1.cell 0)=D.lit (.int .i64 n)/\Br (n==1) (∀ b,N<=b->BCalls prog 61 [.int .i64,.sl 0,.int
 .i64,.int .i64] [.pb 0 0 0 0,.int .i64 4] [Bx.var [.sv aB0_0 0 eB0_0 cB0_0,.int .i64 nB0_1,.int .i64 nB0_2]] b (fun a c d e f g h=>b<=h->Bel
 h (D.sl c 0 d e)->∀ b,h<=b->ACalls prog 204 [.ag 9] [.int .i64 a] b (fun x a=>b<=a->Bel a x->wh E [.var [.sv none 0 [] 0,.int .i64
 0,.int .i64 0]]/\∀ b,a<=b->Q x c d e f g b))) (Br (n==2) (∀ a,N<=a->BCalls prog 61 [.int .i64,.sl 0,.int .i64,.int .i64] [.pb 0 0 0
 0,.int .i64 2] [Bx.var [.sv aB0_0 0 eB0_0 cB0_0,.int .i64 nB0_1,.int .i64 nB0_2]] a (fun b c d e f g h=>a<=h->Bel h (D.sl c 0 d
 e)->∀ a,h<=a->ACalls prog 205 [.ag 9] [.int .i64 b] a (fun b h=>a<=h->Bel h b->wh E [.var [.sv none 0 [] 0,.int .i64 0,.int
 .i64 0]]/\∀ a,h<=a->Q b c d e f g a))) (Br (n==3) (∃ a b,∃ c:Nat,(x1.cell 1)=D.sl a 2 b c/\((0:Int)<=(0:Int)
 /\ 0<(b.length:Int))/\∃ a c,∃ d:Nat,(x1.cell 1)=D.sl a 2 c d/\((0:Int)<=(1:Int)/\1<(c.length:Int))/\∀ a,N<=a ->
 BCalls prog 158 [.ag 9,.sl 0,.int .i64,.int .i64] [.pb 0 0 0 0,.dg 2 (List.getD c 1 default),.int .i64 n2] [Bx.var [.sv aB0_0 0 eB0_0 cB0_0,.int .i64 nB0_1,
 .int .i64 nB0_2]] a (fun c d e f g h i=>a<=i->Bel i c->Bel i (D.sl d 0 e f)->∀ a,i<=a->ACalls prog 161
 [.ag 9] [.str (bytes [119]),.dg 2 (List.getD b 0 default),.dg 9 c] a (fun b c=>a<=c->Bel c b->wh E [.var [.sv none 0 [] 0,.int
 .i64 0,.int .i64 0]]/\∀ a,c<=a->Q b d e f g h a))) (∃ a b,∃ c:Nat,(x1.cell 1)=D.sl a 2 b c/\((0:Int)<=(0 :
 Int)/\0<(b.length:Int))/\∀ a,N<=a->BCalls prog 158 [.ag 9,.sl 0,.int .i64,.int .i64] [.pb 0 0 0 0,.dg 2 (List.getD b 0 default),.int .i64
 (IntKind.i64.wrap (n2+1))] [Bx.var [.sv aB0_0 0 eB0_0 cB0_0,.int .i64 nB0_1,.int .i64 nB0_2]] a (fun b c d e f g h=>a<=h->Bel h
 b->Bel h (D.sl c 0 d e)->(1=([b]).length/\1=1)/\(1=([b]).length/\1=1)/\(1=([b]).length/\1=1)/\∀ a i,h<=i->Fresh
 N i a [D.ag [b],D.sl Option.none 2 [] 0,D.sl Option.none 2 [] 0]->wh E [.var [.sv none 0 [] 0,.int .i64 0,.int .i64 0]]/\∀ h,i<=h->Q (D.ag
 [D.lit (.int .i64 10),D.lit (.string (bytes [])),D.lit (.string (bytes [])),D.lit (.int .i64 0),D.lit (.int .i64 0),D.sl Option.none 2 [] 0,D.lit (.int .i64
 0),D.sl Option.none 2 [] 0,D.sl a 9 [b] 1]) c d e f g h))))):BCalls prog 158 [(Sh.ag 9),(Sh.sl 0),(Sh.int IntKind.i64),(Sh.int IntKind.i64)] [.pb 0 0 0 0,.dg 2 x1,.int .i64 n2] [.var [.sv aB0_0 0 eB0_0 cB0_0,.int .i64 nB0_1,.int .i64 nB0_2]] N Q:=
  bE (H:=zEN) (by kernel_rfl) (fun E=>by kernel_rfl) h
theorem zB5 (N:Nat) (m1 c1:Nat) (aB0_0:Option Addr) (eB0_0:List D) (cB0_0:Nat) (nB0_1 nB0_2:Int) (rB1:List D) (qB1:Nat) (Q:QT [Sh.str,(Sh.sl 0),(Sh.int IntKind.i64),(Sh.int IntKind.i64),(Sh.sl 0)]) (h:∀ E:Env,
Bel N (D.sl aB0_0 0 eB0_0 cB0_0)->Bel N (D.sl Option.none 0 rB1 qB1)->∀ b,N<=b->BCalls prog 61 [.int .i64,.sl 0,.int .i64,.int .i64] [.pb 0 0 0 0,.int
 .i64 (m1:Int)] [Bx.var [.sv aB0_0 0 eB0_0 cB0_0,.int .i64 nB0_1,.int .i64 nB0_2]] b (fun n a c d e f g=>b<=g->Bel g (D.sl a 0 c d)->(0 <=
 n/\n<(m1:Int)/\(0+n.toNat:Nat)<rB1.length)/\(0+n.toNat:Nat)<rB1.length/\∃ s,List.getD rB1 (0+n.toNat:Nat) default=D.lit (.string s) /\
 wh E [.var [.sv none 0 [] 0,.int .i64 0,.int .i64 0],.arr 9 0 [] 0]/\∀ b,g<=b->Q s a c d e f Option.none rB1 qB1 b)):BCalls prog 132 [Sh.str,(Sh.sl 0),(Sh.int IntKind.i64),(Sh.int IntKind.i64),(Sh.sl 0)] [.pb 0 0 0 0,.sb 1 0 0 m1 c1] [.var [.sv aB0_0 0 eB0_0 cB0_0,.int .i64 nB0_1,.int .i64 nB0_2],.arr 9 0 rB1 qB1] N Q:=
  bE (H:=zGC) (by kernel_rfl) (fun E=>by kernel_rfl) h
end Go.Proofs.YtkdjhkfiolhkiaaGreat
set_option maxRecDepth 100000
namespace Go.Proofs.YtkdjhkfiolhkiaaGreat
open Go Go.Proofs Go.Proofs.Tryz
def pG:Hint:=⟨[hc 3 [1,3,4]],[],[(5,hs 9 [ec 6 [17]])]⟩
def zK6:Hint:=⟨[],[],[]⟩
def wd (Q:QT [.int .i64]) (N0:Nat) (n3 n4:Int) (y0:D) (N:Nat):Prop:=AT prog 20 [.int .i64] Q N0 .ord (zC prog 20 3) ⟨an 1 (.pb 0 0 0 0::an 1 (.int .i64 n3::.int .i64 n4::an 16 [])),[.vd y0 9],N,none⟩
theorem zFf (N:Nat) (x0:D) (Q:QT [.int .i64]) (h :
Bel N x0->wd Q N 1 0 x0 N):ACalls prog 20 [.int .i64] [PV.dg 9 x0] N Q:=
 eE (H:=pG) (by kernel_rfl) (by kernel_rfl) h
theorem zLU (N:Nat) (a0:Option Addr) (e0:List D) (c0:Nat) (Q:QT [.bool]) (h :
Bel N (D.sl a0 0 e0 c0)->∀ a,N<=a->Q (decide ((e0.length:Int)>1048576)) a):ACalls prog 7 [.bool] [PV.sv a0 0 e0 c0] N Q:=
 eE (H:=zK6) (by kernel_rfl) (by kernel_rfl) h
theorem s5 (Q:QT [.int .i64]) (N0:Nat) (n3 n4:Int) (y0:D) (N:Nat) (h :
∃ a b,∃ c:Nat,(y0.cell 8)=D.sl a 9 b c/\Br (decide (n4<(b.length:Int))) (∃ a b,∃ c:Nat,(y0.cell 8)=D.sl a 9 b c/\(0<=n4/\n4
 < (b.length:Int))/\∀ a,N<=a->ACalls prog 20 [.int .i64] [.dg 9 (List.getD b n4.toNat default)] a (fun n b=>a<=b->wd Q N0
 (IntKind.i64.wrap (n3+n)) (IntKind.i64.wrap (n4+1)) y0 b)) (∀ a,N<=a->Q n3 a)):wd Q N0 n3 n4 y0 N:=
  hE (H:=pG) (by kernel_rfl) h
end Go.Proofs.YtkdjhkfiolhkiaaGreat
set_option maxRecDepth 100000
namespace Go.Proofs.YtkdjhkfiolhkiaaGreat
open Go Go.Proofs Go.Proofs.Tryz
def shA:FuncId->List Sh:=fun f=>match zMw f [(204,[.pk,.int .i64,.str,.str,.int .i64,.dc,.dc,.dc,.dc,.row 30 9]),(205,[.pk,.int .i64,.str,.str,.int .i64,.dc,.dc,.dc,.dc,.row 30 9]),(155,[.pk,.int .i64,.str,.str,.int .i64,.dc,.dc,.dc,.dc,.row 30 9]),(203,[.row 0 1000007,.pk,.int .i64,.str,.str,.int .i64,.dc,.dc,.dc,.dc,.row 30 9]),(154,[.row 0 1000007,.pk,.int .i64,.str,.str,.int .i64,.dc,.dc,.dc,.dc,.row 30 9])] with
 | []=>sh f
 | l=>l
theorem zJN {f:FuncId} {rs:List Sh} {Q:QT rs} {N:Nat} {H:Hint} {args:List PV} {F:Prop} (hc:yg prog f=true) (he:F=zIS prog shA f rs Q N H 400 args) (h:F):ACalls prog f rs args N Q:=zPG zLO hc he h
theorem zKp {f:FuncId} {full:List Sh} {Q:QT full} {N:Nat} {H:Hint} {args:List PV} {bx:List Bx} {F:Env->Prop} (hc:yg prog f=true) (he:∀ E,F E=zH0 prog shA f full Q N H 400 args bx E) (h:∀ E,F E):BCalls prog f full args bx N Q:=zM6 zLO hc he h
theorem s7 {f:FuncId} {rs:List Sh} {Q:QT rs} {N0:Nat} {M:Mode} {H:Hint} {items:List Item} {st:St} {F:Prop} (he:F=zCA st fun st=>W prog shA f rs Q N0 M H 400 true items st) (h:F):AT prog f rs Q N0 M items st:=zQr zLO he h
def zD9:Hint:=⟨[],[],[]⟩
def zCQ:Hint:=⟨[],[],[]⟩
def zEY:Hint:=⟨[],[],[]⟩
def zF3:Hint:=⟨[],[],[(4,hs 6 [ec 4 [21]]),(6,[en 0,en 1,en 2,en 3,eh 4,ec 5 [27,31],eh 6])]⟩
def zHE:Hint:=⟨[],[],[]⟩
def za:Hint:=⟨[hc 18 [0,1,4,5,6,7] [] [(5,8,30,9)]],[hc 11 [0,1,4,5] [] [(5,8,30,9)],hc 13 [0,1,4,5] [] [(5,8,30,9)],hc 16 [0,1,4,5] [] [(5,8,30,9)]],[(20,[en 0,en 1,en 2,en 3,en 4,eh 5,{ i:=6,hard:=true,cl:=[69],fs:=[5,69] },eh 7,en 8,eh 9])]⟩
def tZ:Hint:=⟨[hc 10 [2,3,4,5],hc 15 [2,3,6]],[],[(6,[en 0,en 1,eh 2,en 3,eh 4,en 5,eh 6]),(12,hs 3 [ec 1 [34]]),(17,hs 4 [ec 2 [42,43]])]⟩
def zGr:Hint:=⟨[],[],[(10,[en 0,en 1,eh 2,{ i:=3,hard:=true,cl:=[32],fs:=[3,32] },eh 4,en 5,eh 6])]⟩
def qG:Hint:=⟨[],[hc 9 [3,4,5]],[(9,[en 0,en 1,en 2,eh 3])]⟩
def qb:Hint:=⟨[],[],[(3,hs 4 [ec 2 [17]]),(11,[en 0,en 1,en 2,en 3,eh 4,en 5])]⟩
def tv:Hint:=⟨[hc 4 [0,1,5]],[],[(6,[en 0,en 1,en 2,en 3,en 4,en 5,en 6,en 7,en 8])]⟩
def sE:Hint:=⟨[hc 4 [0,1,5]],[],[(6,[en 0,en 1,en 2,en 3,en 4,en 5,en 6,en 7,en 8])]⟩
def qE:Hint:=⟨[hc 18 [3,4,6,8,10,11,12,13,14]],[],[(4,hs 4 [ec 2 [26]]),(5,hs 4 [ec 2 [29]]),(6,[en 0,en 1,en 2,ec 3 [33],en 4,en 5,en 6,en 7,en 8,ec 9 [39],eh 10,en 11,en 12,en 13,en 14,en 15,en 17,en 18,ec 16 [46],ec 19 [49],en 20,en 21,en 22,en 23,en 24,en 26,en 27,ec 25 [55],ec 28 [58],eh 29,en 30,en 31]),(8,hs 9 [ec 3 [65]]),(11,hs 12 [ec 3 [74]]),(15,hs 3 [ec 1 [90]]),(16,hs 4 [ec 2 [93]]),(25,[en 0,en 1,en 2,en 3,en 4,en 5,en 8,en 9,en 10,en 11,en 12,en 13,eh 6,en 7,eh 14,en 15,en 16]),(27,hs 9 [ec 3 [160]]),(28,[en 0,en 1,en 3,en 4,ec 2 [166],ec 5 [169],en 6,en 7,en 8,en 9,en 10,en 11,en 12,en 13,en 14,en 15,en 16,en 17,en 18])]⟩
def xA (Q:QT [.bool]) (N0:Nat) (a0:Option Addr) (e0:List D) (c0:Nat) (a1:Option Addr) (e1:List D) (c1:Nat) (n5:Int) (N:Nat):Prop:=AT prog 12 [.bool] Q N0 .ord (zC prog 12 4) ⟨.sv a0 0 e0 c0::.sv a1 0 e1 c1::an 3 (.int .i64 n5::an 20 []),[],N,none⟩
def yx (Q:QT [.bool]) (N0:Nat) (a0:Option Addr) (e0:List D) (c0:Nat) (a1:Option Addr) (e1:List D) (c1:Nat) (n5:Int) (N:Nat):Prop:=AT prog 16 [.bool] Q N0 .ord (zC prog 16 4) ⟨.sv a0 0 e0 c0::.sv a1 0 e1 c1::an 3 (.int .i64 n5::an 20 []),[],N,none⟩
def zL (Q:QT [.bool]) (N0:Nat) (a3:Option Addr) (e3:List D) (c3:Nat) (b6:Bool) (n8:Int) (m10 c10 m11 c11:Nat) (a12:Option Addr) (e12:List D) (c12:Nat) (a13:Option Addr) (e13:List D) (c13:Nat) (n14:Int) (y0:D) (r1:List D) (q1:Nat) (r2:List D) (q2:Nat) (N:Nat):Prop:=AT prog 3 [.bool] Q N0 .ord (zC prog 3 18) ⟨an 3 (.sv a3 4 e3 c3::.pb 0 0 0 0::an 1 (.bool b6::an 1 (.int .i64 n8::an 1 (.sb 1 0 0 m10 c10::.sb 2 4 0 m11 c11::.sv a12 0 e12 c12::.sv a13 0 e13 c13::.int .i64 n14::an 168 [])))),[.vd y0 9,.arr 3 0 r1 q1,.arr 47 4 r2 q2],N,none⟩
def yu (E:Env) (Q:QT [(Sh.sl 4),(Sh.ag 9),(Sh.sl 0),(Sh.int IntKind.i64),(Sh.int IntKind.i64)]) (N0:Nat) (m4 c4:Nat) (a0_0:Option Addr) (e0_0:List D) (c0_0:Nat) (n0_1 n0_2 n1_0:Int) (s1_1 s1_2:ByteArray) (n1_3 n1_4:Int) (a1_5:Option Addr) (e1_5:List D) (c1_5:Nat) (n1_6:Int) (a1_7:Option Addr) (e1_7:List D) (c1_7:Nat) (a1_8:Option Addr) (e1_8:List D) (c1_8:Nat) (r2:List D) (q2:Nat) (y3:D) (N:Nat):Prop:=AT prog 62 [(Sh.sl 4),(Sh.ag 9),(Sh.sl 0),(Sh.int IntKind.i64),(Sh.int IntKind.i64)] Q N0 (.io E [.var [.sv none 0 [] 0,.int .i64 0,.int .i64 0]]) (qw prog 62 9) ⟨an 3 (.pb 1 0 0 0::.sb 2 4 0 m4 c4::.pb 3 0 0 0::an 29 []),[.var [.sv a0_0 0 e0_0 c0_0,.int .i64 n0_1,.int .i64 n0_2],.var [.int .i64 n1_0,.str s1_1,.str s1_2,.int .i64 n1_3,.int .i64 n1_4,.sv a1_5 2 e1_5 c1_5,.int .i64 n1_6,.sv a1_7 2 e1_7 c1_7,.sv a1_8 9 e1_8 c1_8],.arr 47 4 r2 q2,.vd y3 9],N,some (xE E 0 [.var [.sv none 0 [] 0,.int .i64 0,.int .i64 0]],[])⟩
def zt (E:Env) (Q:QT [Sh.pk,(Sh.int IntKind.i64),Sh.str,Sh.str,(Sh.int IntKind.i64),Sh.dc,Sh.dc,Sh.dc,Sh.dc,(Sh.row (OfNat.ofNat 30) 9),(Sh.sl 0),(Sh.int IntKind.i64),(Sh.int IntKind.i64)]) (N0:Nat) (n1:Int) (a0_0:Option Addr) (e0_0:List D) (c0_0:Nat) (n0_1 n0_2 n1_0:Int) (s1_1 s1_2:ByteArray) (n1_3 n1_4:Int) (a1_5:Option Addr) (e1_5:List D) (c1_5:Nat) (n1_6:Int) (a1_7:Option Addr) (e1_7:List D) (c1_7:Nat) (a1_8:Option Addr) (e1_8:List D) (c1_8:Nat) (n2_0:Int) (s2_1 s2_2:ByteArray) (n2_3 n2_4:Int) (a2_5:Option Addr) (e2_5:List D) (c2_5:Nat) (n2_6:Int) (a2_7:Option Addr) (e2_7:List D) (c2_7 m2_8 c2_8:Nat) (r3:List D) (q3:Nat) (N:Nat):Prop:=AT prog 154 [Sh.pk,(Sh.int IntKind.i64),Sh.str,Sh.str,(Sh.int IntKind.i64),Sh.dc,Sh.dc,Sh.dc,Sh.dc,(Sh.row (OfNat.ofNat 30) 9),(Sh.sl 0),(Sh.int IntKind.i64),(Sh.int IntKind.i64)] Q N0 (.io E [.var [.sv none 0 [] 0,.int .i64 0,.int .i64 0]]) (qw prog 154 11) ⟨.pb 0 0 0 0::.int .i64 n1::an 2 (.pb 1 0 0 0::.pb 2 0 0 0::an 68 []),[.var [.sv a0_0 0 e0_0 c0_0,.int .i64 n0_1,.int .i64 n0_2],.var [.int .i64 n1_0,.str s1_1,.str s1_2,.int .i64 n1_3,.int .i64 n1_4,.sv a1_5 2 e1_5 c1_5,.int .i64 n1_6,.sv a1_7 2 e1_7 c1_7,.sv a1_8 9 e1_8 c1_8],.var [.int .i64 n2_0,.str s2_1,.str s2_2,.int .i64 n2_3,.int .i64 n2_4,.sv a2_5 2 e2_5 c2_5,.int .i64 n2_6,.sv a2_7 2 e2_7 c2_7,.sb 3 9 0 m2_8 c2_8],.arr 30 9 r3 q3],N,some (xE E 0 [.var [.sv none 0 [] 0,.int .i64 0,.int .i64 0]],[])⟩
def xd (E:Env) (Q:QT [(Sh.ag 2),(Sh.sl 0),(Sh.int IntKind.i64),(Sh.int IntKind.i64)]) (N0:Nat) (n4 n5:Int) (a0_0:Option Addr) (e0_0:List D) (c0_0:Nat) (n0_1 n0_2 n1_0:Int) (a1_1:Option Addr) (e1_1:List D) (c1_1:Nat) (y2:D) (N:Nat):Prop:=AT prog 156 [(Sh.ag 2),(Sh.sl 0),(Sh.int IntKind.i64),(Sh.int IntKind.i64)] Q N0 (.io E [.var [.sv none 0 [] 0,.int .i64 0,.int .i64 0]]) (zC prog 156 10) ⟨an 2 (.pb 1 0 0 0::.pb 2 0 0 0::.int .i64 n4::.int .i64 n5::an 40 []),[.var [.sv a0_0 0 e0_0 c0_0,.int .i64 n0_1,.int .i64 n0_2],.var [.int .i64 n1_0,.sv a1_1 2 e1_1 c1_1],.vd y2 2],N,some (xE E 0 [.var [.sv none 0 [] 0,.int .i64 0,.int .i64 0]],[])⟩
def xh (E:Env) (Q:QT [(Sh.ag 2),(Sh.sl 0),(Sh.int IntKind.i64),(Sh.int IntKind.i64)]) (N0:Nat) (n6:Int) (a0_0:Option Addr) (e0_0:List D) (c0_0:Nat) (n0_1 n0_2 n1_0:Int) (a1_1:Option Addr) (e1_1:List D) (c1_1:Nat) (y2:D) (N:Nat):Prop:=AT prog 156 [(Sh.ag 2),(Sh.sl 0),(Sh.int IntKind.i64),(Sh.int IntKind.i64)] Q N0 (.io E [.var [.sv none 0 [] 0,.int .i64 0,.int .i64 0]]) (zC prog 156 15) ⟨an 2 (.pb 1 0 0 0::.pb 2 0 0 0::an 2 (.int .i64 n6::an 39 [])),[.var [.sv a0_0 0 e0_0 c0_0,.int .i64 n0_1,.int .i64 n0_2],.var [.int .i64 n1_0,.sv a1_1 2 e1_1 c1_1],.vd y2 2],N,some (xE E 0 [.var [.sv none 0 [] 0,.int .i64 0,.int .i64 0]],[])⟩
def wU (E:Env) (Q:QT [Sh.pk,(Sh.int IntKind.i64),Sh.str,Sh.str,(Sh.int IntKind.i64),Sh.dc,Sh.dc,Sh.dc,Sh.dc,(Sh.row (OfNat.ofNat 30) 9),(Sh.sl 0),(Sh.int IntKind.i64),(Sh.int IntKind.i64)]) (N0:Nat) (n1:Int) (a0_0:Option Addr) (e0_0:List D) (c0_0:Nat) (n0_1 n0_2 n1_0:Int) (s1_1 s1_2:ByteArray) (n1_3 n1_4:Int) (a1_5:Option Addr) (e1_5:List D) (c1_5:Nat) (n1_6:Int) (a1_7:Option Addr) (e1_7:List D) (c1_7:Nat) (a1_8:Option Addr) (e1_8:List D) (c1_8:Nat) (n2_0:Int) (s2_1 s2_2:ByteArray) (n2_3:Int) (x2_4 x2_5:D) (n2_6:Int) (a2_7:Option Addr) (e2_7:List D) (c2_7 m2_8 c2_8:Nat) (r3:List D) (q3:Nat) (N:Nat):Prop:=AT prog 154 [Sh.pk,(Sh.int IntKind.i64),Sh.str,Sh.str,(Sh.int IntKind.i64),Sh.dc,Sh.dc,Sh.dc,Sh.dc,(Sh.row (OfNat.ofNat 30) 9),(Sh.sl 0),(Sh.int IntKind.i64),(Sh.int IntKind.i64)] Q N0 (.io E [.var [.sv none 0 [] 0,.int .i64 0,.int .i64 0]]) (qw prog 154 13) ⟨.pb 0 0 0 0::.int .i64 n1::an 2 (.pb 1 0 0 0::.pb 2 0 0 0::an 68 []),[.var [.sv a0_0 0 e0_0 c0_0,.int .i64 n0_1,.int .i64 n0_2],.var [.int .i64 n1_0,.str s1_1,.str s1_2,.int .i64 n1_3,.int .i64 n1_4,.sv a1_5 2 e1_5 c1_5,.int .i64 n1_6,.sv a1_7 2 e1_7 c1_7,.sv a1_8 9 e1_8 c1_8],.var [.int .i64 n2_0,.str s2_1,.str s2_2,.int .i64 n2_3,.dc x2_4,.dc x2_5,.int .i64 n2_6,.sv a2_7 2 e2_7 c2_7,.sb 3 9 0 m2_8 c2_8],.arr 30 9 r3 q3],N,some (xE E 0 [.var [.sv none 0 [] 0,.int .i64 0,.int .i64 0]],[])⟩
def wE (E:Env) (Q:QT [Sh.pk,(Sh.int IntKind.i64),Sh.str,Sh.str,(Sh.int IntKind.i64),Sh.dc,Sh.dc,Sh.dc,Sh.dc,(Sh.row (OfNat.ofNat 30) 9),(Sh.sl 0),(Sh.int IntKind.i64),(Sh.int IntKind.i64)]) (N0:Nat) (n1:Int) (a0_0:Option Addr) (e0_0:List D) (c0_0:Nat) (n0_1 n0_2 n1_0:Int) (s1_1 s1_2:ByteArray) (n1_3 n1_4:Int) (a1_5:Option Addr) (e1_5:List D) (c1_5:Nat) (n1_6:Int) (a1_7:Option Addr) (e1_7:List D) (c1_7:Nat) (a1_8:Option Addr) (e1_8:List D) (c1_8:Nat) (n2_0:Int) (s2_1 s2_2:ByteArray) (n2_3 n2_4:Int) (a2_5:Option Addr) (e2_5:List D) (c2_5:Nat) (n2_6:Int) (a2_7:Option Addr) (e2_7:List D) (c2_7 m2_8 c2_8:Nat) (r3:List D) (q3:Nat) (N:Nat):Prop:=AT prog 154 [Sh.pk,(Sh.int IntKind.i64),Sh.str,Sh.str,(Sh.int IntKind.i64),Sh.dc,Sh.dc,Sh.dc,Sh.dc,(Sh.row (OfNat.ofNat 30) 9),(Sh.sl 0),(Sh.int IntKind.i64),(Sh.int IntKind.i64)] Q N0 (.io E [.var [.sv none 0 [] 0,.int .i64 0,.int .i64 0]]) (qw prog 154 13) ⟨.pb 0 0 0 0::.int .i64 n1::an 2 (.pb 1 0 0 0::.pb 2 0 0 0::an 68 []),[.var [.sv a0_0 0 e0_0 c0_0,.int .i64 n0_1,.int .i64 n0_2],.var [.int .i64 n1_0,.str s1_1,.str s1_2,.int .i64 n1_3,.int .i64 n1_4,.sv a1_5 2 e1_5 c1_5,.int .i64 n1_6,.sv a1_7 2 e1_7 c1_7,.sv a1_8 9 e1_8 c1_8],.var [.int .i64 n2_0,.str s2_1,.str s2_2,.int .i64 n2_3,.int .i64 n2_4,.sv a2_5 2 e2_5 c2_5,.int .i64 n2_6,.sv a2_7 2 e2_7 c2_7,.sb 3 9 0 m2_8 c2_8],.arr 30 9 r3 q3],N,some (xE E 0 [.var [.sv none 0 [] 0,.int .i64 0,.int .i64 0]],[])⟩
def uA (E:Env) (Q:QT [Sh.pk,(Sh.int IntKind.i64),Sh.str,Sh.str,(Sh.int IntKind.i64),Sh.dc,Sh.dc,Sh.dc,Sh.dc,(Sh.row (OfNat.ofNat 30) 9),(Sh.sl 0),(Sh.int IntKind.i64),(Sh.int IntKind.i64)]) (N0:Nat) (n1:Int) (a0_0:Option Addr) (e0_0:List D) (c0_0:Nat) (n0_1 n0_2 n1_0:Int) (s1_1 s1_2:ByteArray) (n1_3 n1_4:Int) (a1_5:Option Addr) (e1_5:List D) (c1_5:Nat) (n1_6:Int) (a1_7:Option Addr) (e1_7:List D) (c1_7:Nat) (a1_8:Option Addr) (e1_8:List D) (c1_8:Nat) (n2_0:Int) (s2_1 s2_2:ByteArray) (n2_3:Int) (x2_4 x2_5 x2_6 x2_7:D) (m2_8 c2_8:Nat) (r3:List D) (q3:Nat) (N:Nat):Prop:=AT prog 154 [Sh.pk,(Sh.int IntKind.i64),Sh.str,Sh.str,(Sh.int IntKind.i64),Sh.dc,Sh.dc,Sh.dc,Sh.dc,(Sh.row (OfNat.ofNat 30) 9),(Sh.sl 0),(Sh.int IntKind.i64),(Sh.int IntKind.i64)] Q N0 (.io E [.var [.sv none 0 [] 0,.int .i64 0,.int .i64 0]]) (qw prog 154 16) ⟨.pb 0 0 0 0::.int .i64 n1::an 2 (.pb 1 0 0 0::.pb 2 0 0 0::an 68 []),[.var [.sv a0_0 0 e0_0 c0_0,.int .i64 n0_1,.int .i64 n0_2],.var [.int .i64 n1_0,.str s1_1,.str s1_2,.int .i64 n1_3,.int .i64 n1_4,.sv a1_5 2 e1_5 c1_5,.int .i64 n1_6,.sv a1_7 2 e1_7 c1_7,.sv a1_8 9 e1_8 c1_8],.var [.int .i64 n2_0,.str s2_1,.str s2_2,.int .i64 n2_3,.dc x2_4,.dc x2_5,.dc x2_6,.dc x2_7,.sb 3 9 0 m2_8 c2_8],.arr 30 9 r3 q3],N,some (xE E 0 [.var [.sv none 0 [] 0,.int .i64 0,.int .i64 0]],[])⟩
def wC (E:Env) (Q:QT [Sh.pk,(Sh.int IntKind.i64),Sh.str,Sh.str,(Sh.int IntKind.i64),Sh.dc,Sh.dc,Sh.dc,Sh.dc,(Sh.row (OfNat.ofNat 30) 9),(Sh.sl 0),(Sh.int IntKind.i64),(Sh.int IntKind.i64)]) (N0:Nat) (n1:Int) (a0_0:Option Addr) (e0_0:List D) (c0_0:Nat) (n0_1 n0_2 n1_0:Int) (s1_1 s1_2:ByteArray) (n1_3 n1_4:Int) (a1_5:Option Addr) (e1_5:List D) (c1_5:Nat) (n1_6:Int) (a1_7:Option Addr) (e1_7:List D) (c1_7:Nat) (a1_8:Option Addr) (e1_8:List D) (c1_8:Nat) (n2_0:Int) (s2_1 s2_2:ByteArray) (n2_3:Int) (x2_4 x2_5:D) (n2_6:Int) (a2_7:Option Addr) (e2_7:List D) (c2_7 m2_8 c2_8:Nat) (r3:List D) (q3:Nat) (N:Nat):Prop:=AT prog 154 [Sh.pk,(Sh.int IntKind.i64),Sh.str,Sh.str,(Sh.int IntKind.i64),Sh.dc,Sh.dc,Sh.dc,Sh.dc,(Sh.row (OfNat.ofNat 30) 9),(Sh.sl 0),(Sh.int IntKind.i64),(Sh.int IntKind.i64)] Q N0 (.io E [.var [.sv none 0 [] 0,.int .i64 0,.int .i64 0]]) (qw prog 154 16) ⟨.pb 0 0 0 0::.int .i64 n1::an 2 (.pb 1 0 0 0::.pb 2 0 0 0::an 68 []),[.var [.sv a0_0 0 e0_0 c0_0,.int .i64 n0_1,.int .i64 n0_2],.var [.int .i64 n1_0,.str s1_1,.str s1_2,.int .i64 n1_3,.int .i64 n1_4,.sv a1_5 2 e1_5 c1_5,.int .i64 n1_6,.sv a1_7 2 e1_7 c1_7,.sv a1_8 9 e1_8 c1_8],.var [.int .i64 n2_0,.str s2_1,.str s2_2,.int .i64 n2_3,.dc x2_4,.dc x2_5,.int .i64 n2_6,.sv a2_7 2 e2_7 c2_7,.sb 3 9 0 m2_8 c2_8],.arr 30 9 r3 q3],N,some (xE E 0 [.var [.sv none 0 [] 0,.int .i64 0,.int .i64 0]],[])⟩
def wX (E:Env) (Q:QT [Sh.pk,(Sh.int IntKind.i64),Sh.str,Sh.str,(Sh.int IntKind.i64),Sh.dc,Sh.dc,Sh.dc,Sh.dc,(Sh.row (OfNat.ofNat 30) 9),(Sh.sl 0),(Sh.int IntKind.i64),(Sh.int IntKind.i64)]) (N0:Nat) (n1:Int) (a0_0:Option Addr) (e0_0:List D) (c0_0:Nat) (n0_1 n0_2 n1_0:Int) (s1_1 s1_2:ByteArray) (n1_3 n1_4:Int) (a1_5:Option Addr) (e1_5:List D) (c1_5:Nat) (n1_6:Int) (a1_7:Option Addr) (e1_7:List D) (c1_7:Nat) (a1_8:Option Addr) (e1_8:List D) (c1_8:Nat) (n2_0:Int) (s2_1 s2_2:ByteArray) (n2_3 n2_4:Int) (a2_5:Option Addr) (e2_5:List D) (c2_5:Nat) (x2_6 x2_7:D) (m2_8 c2_8:Nat) (r3:List D) (q3:Nat) (N:Nat):Prop:=AT prog 154 [Sh.pk,(Sh.int IntKind.i64),Sh.str,Sh.str,(Sh.int IntKind.i64),Sh.dc,Sh.dc,Sh.dc,Sh.dc,(Sh.row (OfNat.ofNat 30) 9),(Sh.sl 0),(Sh.int IntKind.i64),(Sh.int IntKind.i64)] Q N0 (.io E [.var [.sv none 0 [] 0,.int .i64 0,.int .i64 0]]) (qw prog 154 16) ⟨.pb 0 0 0 0::.int .i64 n1::an 2 (.pb 1 0 0 0::.pb 2 0 0 0::an 68 []),[.var [.sv a0_0 0 e0_0 c0_0,.int .i64 n0_1,.int .i64 n0_2],.var [.int .i64 n1_0,.str s1_1,.str s1_2,.int .i64 n1_3,.int .i64 n1_4,.sv a1_5 2 e1_5 c1_5,.int .i64 n1_6,.sv a1_7 2 e1_7 c1_7,.sv a1_8 9 e1_8 c1_8],.var [.int .i64 n2_0,.str s2_1,.str s2_2,.int .i64 n2_3,.int .i64 n2_4,.sv a2_5 2 e2_5 c2_5,.dc x2_6,.dc x2_7,.sb 3 9 0 m2_8 c2_8],.arr 30 9 r3 q3],N,some (xE E 0 [.var [.sv none 0 [] 0,.int .i64 0,.int .i64 0]],[])⟩
def we (E:Env) (Q:QT [Sh.pk,(Sh.int IntKind.i64),Sh.str,Sh.str,(Sh.int IntKind.i64),Sh.dc,Sh.dc,Sh.dc,Sh.dc,(Sh.row (OfNat.ofNat 30) 9),(Sh.sl 0),(Sh.int IntKind.i64),(Sh.int IntKind.i64)]) (N0:Nat) (n1:Int) (a0_0:Option Addr) (e0_0:List D) (c0_0:Nat) (n0_1 n0_2 n1_0:Int) (s1_1 s1_2:ByteArray) (n1_3 n1_4:Int) (a1_5:Option Addr) (e1_5:List D) (c1_5:Nat) (n1_6:Int) (a1_7:Option Addr) (e1_7:List D) (c1_7:Nat) (a1_8:Option Addr) (e1_8:List D) (c1_8:Nat) (n2_0:Int) (s2_1 s2_2:ByteArray) (n2_3 n2_4:Int) (a2_5:Option Addr) (e2_5:List D) (c2_5:Nat) (n2_6:Int) (a2_7:Option Addr) (e2_7:List D) (c2_7 m2_8 c2_8:Nat) (r3:List D) (q3:Nat) (N:Nat):Prop:=AT prog 154 [Sh.pk,(Sh.int IntKind.i64),Sh.str,Sh.str,(Sh.int IntKind.i64),Sh.dc,Sh.dc,Sh.dc,Sh.dc,(Sh.row (OfNat.ofNat 30) 9),(Sh.sl 0),(Sh.int IntKind.i64),(Sh.int IntKind.i64)] Q N0 (.io E [.var [.sv none 0 [] 0,.int .i64 0,.int .i64 0]]) (qw prog 154 16) ⟨.pb 0 0 0 0::.int .i64 n1::an 2 (.pb 1 0 0 0::.pb 2 0 0 0::an 68 []),[.var [.sv a0_0 0 e0_0 c0_0,.int .i64 n0_1,.int .i64 n0_2],.var [.int .i64 n1_0,.str s1_1,.str s1_2,.int .i64 n1_3,.int .i64 n1_4,.sv a1_5 2 e1_5 c1_5,.int .i64 n1_6,.sv a1_7 2 e1_7 c1_7,.sv a1_8 9 e1_8 c1_8],.var [.int .i64 n2_0,.str s2_1,.str s2_2,.int .i64 n2_3,.int .i64 n2_4,.sv a2_5 2 e2_5 c2_5,.int .i64 n2_6,.sv a2_7 2 e2_7 c2_7,.sb 3 9 0 m2_8 c2_8],.arr 30 9 r3 q3],N,some (xE E 0 [.var [.sv none 0 [] 0,.int .i64 0,.int .i64 0]],[])⟩
def wM (E:Env) (Q:QT [Sh.pk,(Sh.int IntKind.i64),Sh.str,Sh.str,(Sh.int IntKind.i64),Sh.dc,Sh.dc,Sh.dc,Sh.dc,(Sh.row (OfNat.ofNat 30) 9),(Sh.sl 0),(Sh.int IntKind.i64),(Sh.int IntKind.i64)]) (N0:Nat) (n1 n6 n7:Int) (a0_0:Option Addr) (e0_0:List D) (c0_0:Nat) (n0_1 n0_2 n1_0:Int) (s1_1 s1_2:ByteArray) (n1_3 n1_4:Int) (a1_5:Option Addr) (e1_5:List D) (c1_5:Nat) (n1_6:Int) (a1_7:Option Addr) (e1_7:List D) (c1_7:Nat) (a1_8:Option Addr) (e1_8:List D) (c1_8:Nat) (n2_0:Int) (s2_1 s2_2:ByteArray) (n2_3:Int) (x2_4 x2_5 x2_6 x2_7:D) (m2_8 c2_8:Nat) (r3:List D) (q3:Nat) (N:Nat):Prop:=AT prog 154 [Sh.pk,(Sh.int IntKind.i64),Sh.str,Sh.str,(Sh.int IntKind.i64),Sh.dc,Sh.dc,Sh.dc,Sh.dc,(Sh.row (OfNat.ofNat 30) 9),(Sh.sl 0),(Sh.int IntKind.i64),(Sh.int IntKind.i64)] Q N0 (.io E [.var [.sv none 0 [] 0,.int .i64 0,.int .i64 0]]) (zC prog 154 18) ⟨.pb 0 0 0 0::.int .i64 n1::an 2 (.pb 1 0 0 0::.pb 2 0 0 0::.int .i64 n6::.int .i64 n7::an 66 []),[.var [.sv a0_0 0 e0_0 c0_0,.int .i64 n0_1,.int .i64 n0_2],.var [.int .i64 n1_0,.str s1_1,.str s1_2,.int .i64 n1_3,.int .i64 n1_4,.sv a1_5 2 e1_5 c1_5,.int .i64 n1_6,.sv a1_7 2 e1_7 c1_7,.sv a1_8 9 e1_8 c1_8],.var [.int .i64 n2_0,.str s2_1,.str s2_2,.int .i64 n2_3,.dc x2_4,.dc x2_5,.dc x2_6,.dc x2_7,.sb 3 9 0 m2_8 c2_8],.arr 30 9 r3 q3],N,some (xE E 0 [.var [.sv none 0 [] 0,.int .i64 0,.int .i64 0]],[])⟩
def y4 (E:Env) (Q:QT [Sh.pk,(Sh.int IntKind.i64),Sh.str,Sh.str,(Sh.int IntKind.i64),Sh.dc,Sh.dc,Sh.dc,Sh.dc,(Sh.row (OfNat.ofNat 30) 9),(Sh.sl 0),(Sh.int IntKind.i64),(Sh.int IntKind.i64)]) (N0:Nat) (n1 n6 n7:Int) (a0_0:Option Addr) (e0_0:List D) (c0_0:Nat) (n0_1 n0_2 n1_0:Int) (s1_1 s1_2:ByteArray) (n1_3 n1_4:Int) (a1_5:Option Addr) (e1_5:List D) (c1_5:Nat) (n1_6:Int) (a1_7:Option Addr) (e1_7:List D) (c1_7:Nat) (a1_8:Option Addr) (e1_8:List D) (c1_8:Nat) (n2_0:Int) (s2_1 s2_2:ByteArray) (n2_3:Int) (x2_4 x2_5:D) (n2_6:Int) (a2_7:Option Addr) (e2_7:List D) (c2_7 m2_8 c2_8:Nat) (r3:List D) (q3:Nat) (N:Nat):Prop:=AT prog 154 [Sh.pk,(Sh.int IntKind.i64),Sh.str,Sh.str,(Sh.int IntKind.i64),Sh.dc,Sh.dc,Sh.dc,Sh.dc,(Sh.row (OfNat.ofNat 30) 9),(Sh.sl 0),(Sh.int IntKind.i64),(Sh.int IntKind.i64)] Q N0 (.io E [.var [.sv none 0 [] 0,.int .i64 0,.int .i64 0]]) (zC prog 154 18) ⟨.pb 0 0 0 0::.int .i64 n1::an 2 (.pb 1 0 0 0::.pb 2 0 0 0::.int .i64 n6::.int .i64 n7::an 66 []),[.var [.sv a0_0 0 e0_0 c0_0,.int .i64 n0_1,.int .i64 n0_2],.var [.int .i64 n1_0,.str s1_1,.str s1_2,.int .i64 n1_3,.int .i64 n1_4,.sv a1_5 2 e1_5 c1_5,.int .i64 n1_6,.sv a1_7 2 e1_7 c1_7,.sv a1_8 9 e1_8 c1_8],.var [.int .i64 n2_0,.str s2_1,.str s2_2,.int .i64 n2_3,.dc x2_4,.dc x2_5,.int .i64 n2_6,.sv a2_7 2 e2_7 c2_7,.sb 3 9 0 m2_8 c2_8],.arr 30 9 r3 q3],N,some (xE E 0 [.var [.sv none 0 [] 0,.int .i64 0,.int .i64 0]],[])⟩
def y8 (E:Env) (Q:QT [Sh.pk,(Sh.int IntKind.i64),Sh.str,Sh.str,(Sh.int IntKind.i64),Sh.dc,Sh.dc,Sh.dc,Sh.dc,(Sh.row (OfNat.ofNat 30) 9),(Sh.sl 0),(Sh.int IntKind.i64),(Sh.int IntKind.i64)]) (N0:Nat) (n1 n6 n7:Int) (a0_0:Option Addr) (e0_0:List D) (c0_0:Nat) (n0_1 n0_2 n1_0:Int) (s1_1 s1_2:ByteArray) (n1_3 n1_4:Int) (a1_5:Option Addr) (e1_5:List D) (c1_5:Nat) (n1_6:Int) (a1_7:Option Addr) (e1_7:List D) (c1_7:Nat) (a1_8:Option Addr) (e1_8:List D) (c1_8:Nat) (n2_0:Int) (s2_1 s2_2:ByteArray) (n2_3 n2_4:Int) (a2_5:Option Addr) (e2_5:List D) (c2_5:Nat) (x2_6 x2_7:D) (m2_8 c2_8:Nat) (r3:List D) (q3:Nat) (N:Nat):Prop:=AT prog 154 [Sh.pk,(Sh.int IntKind.i64),Sh.str,Sh.str,(Sh.int IntKind.i64),Sh.dc,Sh.dc,Sh.dc,Sh.dc,(Sh.row (OfNat.ofNat 30) 9),(Sh.sl 0),(Sh.int IntKind.i64),(Sh.int IntKind.i64)] Q N0 (.io E [.var [.sv none 0 [] 0,.int .i64 0,.int .i64 0]]) (zC prog 154 18) ⟨.pb 0 0 0 0::.int .i64 n1::an 2 (.pb 1 0 0 0::.pb 2 0 0 0::.int .i64 n6::.int .i64 n7::an 66 []),[.var [.sv a0_0 0 e0_0 c0_0,.int .i64 n0_1,.int .i64 n0_2],.var [.int .i64 n1_0,.str s1_1,.str s1_2,.int .i64 n1_3,.int .i64 n1_4,.sv a1_5 2 e1_5 c1_5,.int .i64 n1_6,.sv a1_7 2 e1_7 c1_7,.sv a1_8 9 e1_8 c1_8],.var [.int .i64 n2_0,.str s2_1,.str s2_2,.int .i64 n2_3,.int .i64 n2_4,.sv a2_5 2 e2_5 c2_5,.dc x2_6,.dc x2_7,.sb 3 9 0 m2_8 c2_8],.arr 30 9 r3 q3],N,some (xE E 0 [.var [.sv none 0 [] 0,.int .i64 0,.int .i64 0]],[])⟩
def y6 (E:Env) (Q:QT [Sh.pk,(Sh.int IntKind.i64),Sh.str,Sh.str,(Sh.int IntKind.i64),Sh.dc,Sh.dc,Sh.dc,Sh.dc,(Sh.row (OfNat.ofNat 30) 9),(Sh.sl 0),(Sh.int IntKind.i64),(Sh.int IntKind.i64)]) (N0:Nat) (n1 n6 n7:Int) (a0_0:Option Addr) (e0_0:List D) (c0_0:Nat) (n0_1 n0_2 n1_0:Int) (s1_1 s1_2:ByteArray) (n1_3 n1_4:Int) (a1_5:Option Addr) (e1_5:List D) (c1_5:Nat) (n1_6:Int) (a1_7:Option Addr) (e1_7:List D) (c1_7:Nat) (a1_8:Option Addr) (e1_8:List D) (c1_8:Nat) (n2_0:Int) (s2_1 s2_2:ByteArray) (n2_3 n2_4:Int) (a2_5:Option Addr) (e2_5:List D) (c2_5:Nat) (n2_6:Int) (a2_7:Option Addr) (e2_7:List D) (c2_7 m2_8 c2_8:Nat) (r3:List D) (q3:Nat) (N:Nat):Prop:=AT prog 154 [Sh.pk,(Sh.int IntKind.i64),Sh.str,Sh.str,(Sh.int IntKind.i64),Sh.dc,Sh.dc,Sh.dc,Sh.dc,(Sh.row (OfNat.ofNat 30) 9),(Sh.sl 0),(Sh.int IntKind.i64),(Sh.int IntKind.i64)] Q N0 (.io E [.var [.sv none 0 [] 0,.int .i64 0,.int .i64 0]]) (zC prog 154 18) ⟨.pb 0 0 0 0::.int .i64 n1::an 2 (.pb 1 0 0 0::.pb 2 0 0 0::.int .i64 n6::.int .i64 n7::an 66 []),[.var [.sv a0_0 0 e0_0 c0_0,.int .i64 n0_1,.int .i64 n0_2],.var [.int .i64 n1_0,.str s1_1,.str s1_2,.int .i64 n1_3,.int .i64 n1_4,.sv a1_5 2 e1_5 c1_5,.int .i64 n1_6,.sv a1_7 2 e1_7 c1_7,.sv a1_8 9 e1_8 c1_8],.var [.int .i64 n2_0,.str s2_1,.str s2_2,.int .i64 n2_3,.int .i64 n2_4,.sv a2_5 2 e2_5 c2_5,.int .i64 n2_6,.sv a2_7 2 e2_7 c2_7,.sb 3 9 0 m2_8 c2_8],.arr 30 9 r3 q3],N,some (xE E 0 [.var [.sv none 0 [] 0,.int .i64 0,.int .i64 0]],[])⟩
theorem zES (N:Nat) (n0:Int) (Q:QT [.pk,.int .i64,.str,.str,.int .i64,.dc,.dc,.dc,.dc,.row 30 9]) (h :
∀ a,N<=a->Q 2 (bytes []) (bytes []) n0 (D.lit (.int .i64 0)) (D.sl Option.none 2 [] 0) (D.lit (.int .i64 0)) (D.sl Option.none 2 [] 0) [] 0 a):ACalls prog 204 [.pk,.int .i64,.str,.str,.int .i64,.dc,.dc,.dc,.dc,.row 30 9] [PV.int .i64 n0] N Q:=
  zJN (H:=zD9) (by kernel_rfl) (by kernel_rfl) h
theorem zDf (N:Nat) (n0:Int) (Q:QT [.pk,.int .i64,.str,.str,.int .i64,.dc,.dc,.dc,.dc,.row 30 9]) (h :
∀ a,N<=a->Q 3 (bytes []) (bytes []) n0 (D.lit (.int .i64 0)) (D.sl Option.none 2 [] 0) (D.lit (.int .i64 0)) (D.sl Option.none 2 [] 0) [] 0 a):ACalls prog 205 [.pk,.int .i64,.str,.str,.int .i64,.dc,.dc,.dc,.dc,.row 30 9] [PV.int .i64 n0] N Q:=
  zJN (H:=zCQ) (by kernel_rfl) (by kernel_rfl) h
theorem qC (N:Nat) (s0:ByteArray) (Q:QT [.pk,.int .i64,.str,.str,.int .i64,.dc,.dc,.dc,.dc,.row 30 9]) (h :
∀ a,N<=a->Q 1 s0 (bytes []) 0 (D.lit (.int .i64 0)) (D.sl Option.none 2 [] 0) (D.lit (.int .i64 0)) (D.sl Option.none 2 [] 0) [] 0 a):ACalls prog 155 [.pk,.int .i64,.str,.str,.int .i64,.dc,.dc,.dc,.dc,.row 30 9] [PV.str s0] N Q:=
  zJN (H:=zEY) (by kernel_rfl) (by kernel_rfl) h
theorem qn (N:Nat) (a0:Option Addr) (e0:List D) (c0:Nat) (Q:QT [.sl 4,.ag 9,.sl 0]) (h :
Bel N (D.sl a0 0 e0 c0)->∀ b,N<=b->ACalls prog 58 [Sh.cu] [.sv a0 0 e0 c0] b (fun a c d n e f=>b<=f->∀ b,f<=b->BCalls prog 59 [.row
 (OfNat.ofNat 47) 4,.ag 9,.sl 0,.int .i64,.int .i64] [.pb 0 0 0 0] [Bx.var [.sv a 0 c d,.int .i64 n,.int .i64 e]] b (fun a c x d e f g h
 i=>b<=i->Bel i x->Bel i (D.sl d 0 e f)->Bel i (D.ag a)->(a.length=a.length/\c=c)/\(a.length=a.length/\c =
 c)/\(a.length=a.length/\c=c)/\∀ b j,i<=j->Fresh N j b [D.ag a]->∀ i,j<=i->BCalls prog 60 [.row (OfNat.ofNat 3) 0,
 .sl 0,.int .i64,.int .i64] [.pb 0 0 0 0,.sv b 4 a c] [Bx.var [.sv d 0 e f,.int .i64 g,.int .i64 h]] i (fun d e f g h j k
 l=>i<=l->Bel l (D.sl f 0 g h)->Bel l (D.ag d)->∀ i,l<=i->BCalls prog 61 [.int .i64,.sl 0,.int .i64,.int .i64] [.pb 0 0 0 0,
 .int .i64 12] [Bx.var [.sv f 0 g h,.int .i64 j,.int .i64 k]] i (fun f g h j k l m=>i<=m->Bel m (D.sl g 0 h j)->Br
 (f==0) (∀ a,m<=a->BCalls prog 62 [.sl 4,.ag 9,.sl 0,.int .i64,.int .i64] [.pb 0 0 0 0] [Bx.var [.sv g 0 h j,.int .i64 k,.int .i64 l]]
 a (fun b c f g h i j _ _ k=>a<=k->Bel k (D.sl b 4 c f)->Bel k g->Bel k (D.sl h 0 i j)->(d.length
 = d.length/\e=e)/\(d.length=d.length/\e=e)/\(d.length=d.length/\e=e)/\(d.length=d.length/\e=e)/\∀ a
 h,k<=h->Fresh N h a [D.ag d,D.sl b 4 c f,g]->∀ i,h<=i->Q b c f g a d e i)) (Br (f==1) ((d.length
 = d.length/\e=e)/\zA d [D.lit (.int .i64 1)] 8/\∀ (e:Nat),((d++[D.lit (.int .i64 1)]).length=(d++[D.lit (.int .i64 1)]).length
 /\ e=e)/\((d++[D.lit (.int .i64 1)]).length=(d++[D.lit (.int .i64 1)]).length/\e=e)/\((d++[D.lit (.int .i64 1)]).length=(d ++
 [D.lit (.int .i64 1)]).length/\e=e)/\((d++[D.lit (.int .i64 1)]).length=(d++[D.lit (.int .i64 1)]).length/\e=e)/\∀ f g,m<=g
 -> Fresh N g f [D.ag (d++[D.lit (.int .i64 1)]),D.sl b 4 a c,x]->∀ h,g<=h->Q b a c x f (d++[D.lit (.int .i64 1)]) e
 h) (Br (f==2) (∀ f,m<=f->BCalls prog 63 [.int .i64,.sl 0,.int .i64,.int .i64,.sl 0] [.pb 0 0 0 0,.sb 1 0 0 2 2] [Bx.var [.sv g 0 h j,
 .int .i64 k,.int .i64 l],Bx.arr 3 0 [D.lit (.int .i64 (-1)),D.lit (.int .i64 10007)] 2] f (fun g h i j _ _ k l m n=>f
 <= n->Bel n (D.sl h 0 i j)->Bel n (D.sl k 0 l m)->((0:Int)<=(0:Int)/\0<(d.length:Int)/\0<d.length)/\0<d.length
 /\ (d.length=(List.set d 0 (D.lit (.int .i64 g))).length/\e=e)/\(d.length=(List.set d 0 (D.lit (.int .i64 g))).length/\e=e) /\
 (d.length=(List.set d 0 (D.lit (.int .i64 g))).length/\e=e)/\(d.length=(List.set d 0 (D.lit (.int .i64 g))).length/\e=e)/\(d.length
 = (List.set d 0 (D.lit (.int .i64 g))).length/\e=e)/\∀ f h,n<=h->Fresh N h f [D.ag (List.set d 0 (D.lit (.int .i64 g))),
 D.sl b 4 a c,x]->∀ i,h<=i->Q b a c x f (List.set d 0 (D.lit (.int .i64 g))) e i)) ((d.length=d.length/\e=e)
 /\ (d.length=d.length/\e=e)/\(d.length=d.length/\e=e)/\(d.length=d.length/\e=e)/\∀ f g,m<=g->Fresh N
 g f [D.ag d,D.sl b 4 a c,x]->∀ h,g<=h->Q b a c x f d e h)))))))):ACalls prog 8 [.sl 4,.ag 9,.sl 0] [PV.sv a0 0 e0 c0] N Q:=
  zJN (H:=qb) (by kernel_rfl) (by kernel_rfl) h
theorem zBm (N:Nat) (a0:Option Addr) (e0:List D) (c0:Nat) (a1:Option Addr) (e1:List D) (c1:Nat) (Q:QT [.bool]) (h :
Bel N (D.sl a0 0 e0 c0)->Bel N (D.sl a1 0 e1 c1)->Br (bne (e0.length:Int) (e1.length:Int)) (∀ a,N<=a->Q false a) (xA Q N a0 e0 c0
 a1 e1 c1 0 N)):ACalls prog 12 [.bool] [PV.sv a0 0 e0 c0,PV.sv a1 0 e1 c1] N Q:=
  zJN (H:=tv) (by kernel_rfl) (by kernel_rfl) h
theorem zB0 (N:Nat) (a0:Option Addr) (e0:List D) (c0:Nat) (a1:Option Addr) (e1:List D) (c1:Nat) (Q:QT [.bool]) (h :
Bel N (D.sl a0 0 e0 c0)->Bel N (D.sl a1 0 e1 c1)->Br (bne (e0.length:Int) (e1.length:Int)) (∀ a,N<=a->Q false a) (yx Q N a0 e0 c0
 a1 e1 c1 0 N)):ACalls prog 16 [.bool] [PV.sv a0 0 e0 c0,PV.sv a1 0 e1 c1] N Q:=
  zJN (H:=sE) (by kernel_rfl) (by kernel_rfl) h
theorem zEZ (N:Nat) (a0:Option Addr) (e0:List D) (c0:Nat) (Q:QT [.bool]) (h :
Bel N (D.sl a0 0 e0 c0)->∀ d,N<=d->ACalls prog 7 [.bool] [.sv a0 0 e0 c0] d (fun b e=>d<=e->Br b (∀ a,e<=a->Q true a) (∀ b,e
 <= b->ACalls prog 8 [.sl 4,.ag 9,.sl 0] [.sv a0 0 e0 c0] b (fun a c d x e f g h=>b<=h->Bel h (D.sl a 4 c d)->Bel h x->Bel h (D.sl
 e 0 f g)->∀ b,h<=b->ACalls prog 9 [.bool] [.sv a 4 c d,.dg 9 x] b (fun h i=>b<=i->∀ b,i<=b->ACalls prog 10 [.sl 0] [.sv
 a 4 c d,.dg 9 x] b (fun i j k l=>b<=l->Bel l (D.sl i 0 j k)->∀ b,l<=b->ACalls prog 11 [.bool] [.sv a 4 c d,.dg 9 x] b
 (fun l m=>b<=m->Br (!(h==l)) (∀ a,m<=a->Q false a) (∀ b,m<=b->ACalls prog 13 [.sl 0] [.sv a 4 c d,.dg 9 x] b
 (fun l m o p=>b<=p->Bel p (D.sl l 0 m o)->∀ b,p<=b->ACalls prog 12 [.bool] [.sv i 0 j k,.sv l 0 m o] b
 (fun i k=>b<=k->Br (!i) (∀ a,k<=a->Q false a) (∀ b,k<=b->ACalls prog 14 [.int .i64] [.sv a 4 c d,.dg 9 x] b (fun
 n i=>b<=i->∀ b,i<=b->ACalls prog 15 [.int .i64] [.sv a 4 c d,.dg 9 x] b (fun i k=>b<=k->Br (bne n i) (∀ a,k
 <= a->Q false a) (∀ b,k<=b->ACalls prog 17 [.sl 0] [.sv a 4 c d,.dg 9 x] b (fun i k l m=>b<=m->Bel m (D.sl i 0 k
 l)->∀ b,m<=b->ACalls prog 18 [.sl 0] [.sv a 4 c d,.dg 9 x] b (fun m n o p=>b<=p->Bel p (D.sl m 0 n o)->∀ b,
 p<=b->ACalls prog 16 [.bool] [.sv i 0 k l,.sv m 0 n o] b (fun i k=>b<=k->Br (!i) (∀ a,k<=a->Q false a)
 (∀ b,k<=b->ACalls prog 19 [.int .i64,.bool] [.sv a 4 c d,.dg 9 x,.sv e 0 f g] b (fun e g i=>b<=i->Br (!g) (∀ a,i
 <= a->Q true a) (∀ b,i<=b->ACalls prog 20 [.int .i64] [.dg 9 x] b (fun g i=>b<=i->Br (bne (j.length:Int) g) (∀ a,i
 <= a->Q false a) (((0:Int)<=(0:Int)/\0<(j.length:Int))/\∃ b:Bool,List.getD j 0 default=D.lit (.bool b)/\Br (!(b==h)) (∀ a,
 i<=a->Q false a) ((0=0/\0=0)/\zA [] f 8/\∀ (b:Nat),(0=0/\0=0)/\zA [] c 56/\∀ (g:Nat) j,i<=j->ACalls prog
 21 [.sl 0] [.dg 9 x] j (fun i k l m=>j<=m->Bel m (D.sl i 0 k l)->∀ j,m<=j->ACalls prog 17 [.sl 0] [.sv a 4 c d,.dg
 9 x] j (fun m n o p=>j<=p->Bel p (D.sl m 0 n o)->zL Q N a c d h e ([]++f).length b ([]++c).length
 g i k l m n o 0 x ([]++f) b ([]++c) g p))))))))))))))))))))))))):ACalls prog 3 [.bool] [PV.sv a0 0 e0 c0] N Q:=
  zJN (H:=qE) (by kernel_rfl) (by kernel_rfl) h
theorem zAj (N:Nat) (aB0_0:Option Addr) (eB0_0:List D) (cB0_0:Nat) (nB0_1 nB0_2:Int) (Q:QT [(Sh.sl 4),(Sh.ag 9),(Sh.sl 0),(Sh.int IntKind.i64),(Sh.int IntKind.i64)]) (h:∀ E:Env,
Bel N (D.sl aB0_0 0 eB0_0 cB0_0)->∀ b,N<=b->BCalls prog 59 [.row (OfNat.ofNat 47) 4,.ag 9,.sl 0,.int .i64,.int .i64] [.pb 0 0 0 0] [Bx.var [.sv aB0_0
 0 eB0_0 cB0_0,.int .i64 nB0_1,.int .i64 nB0_2]] b (fun a c x d e f n g h=>b<=h->Bel h x->Bel h (D.sl d 0 e f)->Bel h (D.ag a)
 -> ∀ b,h<=b->BCalls prog 61 [.int .i64,.sl 0,.int .i64,.int .i64] [.pb 0 0 0 0,.int .i64 8] [Bx.var [.sv d 0 e f,.int .i64 n,.int .i64 g]] b
 (fun d e f g h i j=>b<=j->Bel j (D.sl e 0 f g)->Br (d==0) (∀ b,j<=b->BCalls prog 132 [.str,.sl 0,.int .i64,.int
 .i64,.sl 0] [.pb 0 0 0 0,.sb 1 0 0 3 3] [Bx.var [.sv e 0 f g,.int .i64 h,.int .i64 i],Bx.arr 9 0 [D.lit (.string (bytes [121])),D.lit (.string (bytes
 [108,101,116])),D.lit (.string (bytes [120]))] 3] b (fun s d e f g h i j k l=>b<=l->Bel l (D.sl d 0 e f)->Bel l (D.sl
 i 0 j k)->((0:Int)<=(0:Int)/\0<(a.length:Int)/\0<a.length)/\0<a.length/\yu E Q N a.length c d e f g h 0 (bytes
 []) (bytes []) 0 0 Option.none [] 0 0 Option.none [] 0 Option.none [] 0 (List.set a 0 (D.ag (ta 0 [D.lit (.string s)] (D.cells (List.getD a 0 default))))) c
 x l)) (Br (d==1) (∀ b,j<=b->BCalls prog 93 [.ag 2,.sl 0,.int .i64,.int .i64] [.pb 0 0 0 0,.int .i64 2] [Bx.var [.sv e 0 f g,.int .i64
 h,.int .i64 i]] b (fun d e f g h i j=>b<=j->Bel j d->Bel j (D.sl e 0 f g)->((0:Int)<=(0:Int)/\0<(a.length :
 Int)/\0<a.length)/\0<a.length/\yu E Q N a.length c e f g h i 0 (bytes []) (bytes []) 0 0 Option.none [] 0 0 Option.none [] 0 Option.none
 [] 0 (List.set a 0 (D.ag (ta 1 [(d.cell 0),(d.cell 1)] (D.cells (List.getD a 0 default))))) c x j)) (Br (d==2) (∀ b,j<=b->BCalls prog 90
 [.ag 9,.sl 0,.int .i64,.int .i64] [.pb 0 0 0 0] [Bx.var [.sv e 0 f g,.int .i64 h,.int .i64 i]] b (fun d e f g h i j=>b<=j
 -> Bel j d->Bel j (D.sl e 0 f g)->(a.length=a.length/\c=c)/\(a.length=a.length/\c=c)/\(a.length=a.length/\c=c)/\(a.length
 = a.length/\c=c)/\∀ b k,j<=k->Fresh N k b [D.ag a,d]->wh E [.var [.sv none 0 [] 0,.int .i64 0,.int .i64 0]]/\∀ j,k<=j
 -> Q b a c d e f g h i j)) (yu E Q N a.length c e f g h i 0 (bytes []) (bytes []) 0 0 Option.none [] 0 0 Option.none
 [] 0 Option.none [] 0 a c x j)))))):BCalls prog 62 [(Sh.sl 4),(Sh.ag 9),(Sh.sl 0),(Sh.int IntKind.i64),(Sh.int IntKind.i64)] [.pb 0 0 0 0] [.var [.sv aB0_0 0 eB0_0 cB0_0,.int .i64 nB0_1,.int .i64 nB0_2]] N Q:=
  zKp (H:=qG) (by kernel_rfl) (fun E=>by kernel_rfl) h
theorem ua (Q:QT [.bool]) (N0:Nat) (a0:Option Addr) (e0:List D) (c0:Nat) (a1:Option Addr) (e1:List D) (c1:Nat) (n5:Int) (N:Nat) (h :
Br (decide (n5<(e0.length:Int))) ((0<=n5/\n5<(e0.length:Int))/\∃ b:Bool,List.getD e0 n5.toNat default=D.lit (.bool b)/\(0<=n5/\n5<(e1.length
 : Int))/\∃ a:Bool,List.getD e1 n5.toNat default=D.lit (.bool a)/\Br (!(b==a)) (∀ a,N<=a->Q false a) (xA Q N0 a0 e0 c0 a1
 e1 c1 (IntKind.i64.wrap (n5+1)) N)) (∀ a,N<=a->Q true a)):xA Q N0 a0 e0 c0 a1 e1 c1 n5 N:=
  s7 (H:=tv) (by kernel_rfl) h
theorem uW (Q:QT [.bool]) (N0:Nat) (a0:Option Addr) (e0:List D) (c0:Nat) (a1:Option Addr) (e1:List D) (c1:Nat) (n5:Int) (N:Nat) (h :
Br (decide (n5<(e0.length:Int))) ((0<=n5/\n5<(e0.length:Int))/\∃ s,List.getD e0 n5.toNat default=D.lit (.string s)/\(0<=n5/\n5<(e1.length:Int))
 /\ ∃ a,List.getD e1 n5.toNat default=D.lit (.string a)/\Br (!(ByteArray.toList s==ByteArray.toList a)) (∀ a,N<=a->Q false a) (yx
 Q N0 a0 e0 c0 a1 e1 c1 (IntKind.i64.wrap (n5+1)) N)) (∀ a,N<=a->Q true a)):yx Q N0 a0 e0 c0 a1 e1 c1 n5 N:=
  s7 (H:=sE) (by kernel_rfl) h
theorem tJ (Q:QT [.bool]) (N0:Nat) (a3:Option Addr) (e3:List D) (c3:Nat) (b6:Bool) (n8:Int) (m10 c10 m11 c11:Nat) (a12:Option Addr) (e12:List D) (c12:Nat) (a13:Option Addr) (e13:List D) (c13:Nat) (n14:Int) (y0:D) (r1:List D) (q1:Nat) (r2:List D) (q2:Nat) (N:Nat) (h :
let c:List D:=(List.set r2 (0+n14.toNat:Nat) (D.ag (ta 3 [D.lit (.bool true)] (D.cells (List.getD r2 (0+n14.toNat:Nat) default)))));Br (decide (n14
 < (e3.length:Int))) ((0<=n14/\n14<(m11:Int)/\(0+n14.toNat:Nat)<r2.length)/\(0+n14.toNat:Nat)<r2.length/\(0<=n14/\n14<(e3.length:Int))
 /\ ∃ b:Bool,(if 0=0 then D.cell (List.getD e3 n14.toNat default) 3 else D.sub (List.getD e3 n14.toNat default) 3 0)=D.lit (.bool b)/\Br b ((0<=n14/\n14
 < (e3.length:Int))/\∃ n:Int,(if 0=0 then D.cell (if 2=0 then D.cell (List.getD e3 n14.toNat default) 1 else D.sub (List.getD e3 n14.toNat default) 1 2)
 0 else D.sub (if 2=0 then D.cell (List.getD e3 n14.toNat default) 1 else D.sub (List.getD e3 n14.toNat default) 1 2) 0 0)=D.lit (.int .i64 n)/\Br (n==2) ((0
 <= n14/\n14<(m10:Int)/\(0+n14.toNat:Nat)<r1.length)/\(0+n14.toNat:Nat)<r1.length/\∃ a:Int,List.getD r1 (0+n14.toNat:Nat) default=D.lit
 (.int .i64 a)/\(0<=n14/\n14<(m10:Int)/\(0+n14.toNat:Nat)<r1.length)/\(0+n14.toNat:Nat)<r1.length/\(0<=n14/\n14<(e3.length:Int))/\∃
 s,(if 0=0 then D.cell (List.getD e3 n14.toNat default) 0 else D.sub (List.getD e3 n14.toNat default) 0 0)=D.lit (.string s)/\(0<=n14/\n14<(e3.length :
 Int))/\∃ b,(if 0=0 then D.cell (List.getD e3 n14.toNat default) 0 else D.sub (List.getD e3 n14.toNat default) 0 0)=D.lit (.string b)/\∀ d,N<=d ->
 ACalls prog 22 [.int .i64] [.sv a13 0 e13 c13,.str s] d (fun e f=>d<=f->∀ d,f<=d->ACalls prog 22 [.int .i64] [.sv a12 0 e12 c12,.str b]
 d (fun b f=>d<=f->Br (!(decide (e≥0)==decide (b≥0))) (∀ a,f<=a->Q false a) (zL Q N0 a3 e3 c3 b6 n8 m10 c10 m11
 c11 a12 e12 c12 a13 e13 c13 (IntKind.i64.wrap (n14+1)) y0 (List.set r1 (0+n14.toNat:Nat) (D.lit (.int .i64 (IntKind.i64.wrap (1 - a))))) q1 c q2 f))))
 ((0<=n14/\n14<(e3.length:Int))/\∃ a:Bool,(if 0=0 then D.cell (List.getD e3 n14.toNat default) 3 else D.sub (List.getD e3 n14.toNat default) 3 0) =
 D.lit (.bool a)/\Br a ((0<=n14/\n14<(m10:Int)/\(0+n14.toNat:Nat)<r1.length)/\(0+n14.toNat:Nat)<r1.length/\∃ a:Int,List.getD r1 (0
 + n14.toNat:Nat) default=D.lit (.int .i64 a)/\(10007:Int)≠(0:Int)/\(0<=n14/\n14<(m10:Int)/\(0+n14.toNat:Nat)<r1.length)/\(0+n14.toNat
 : Nat)<r1.length/\(0<=n14/\n14<(e3.length:Int))/\∃ b,(if 0=0 then D.cell (List.getD e3 n14.toNat default) 0 else D.sub (List.getD e3 n14.toNat default)
 0 0)=D.lit (.string b)/\(0<=n14/\n14<(e3.length:Int))/\∃ d,(if 0=0 then D.cell (List.getD e3 n14.toNat default) 0 else D.sub (List.getD e3 n14.toNat
 default) 0 0)=D.lit (.string d)/\∀ e,N<=e->ACalls prog 22 [.int .i64] [.sv a13 0 e13 c13,.str b] e (fun b f=>e<=f->∀ e,f<=e
 -> ACalls prog 22 [.int .i64] [.sv a12 0 e12 c12,.str d] e (fun d f=>e<=f->Br (!(decide (b≥0)==decide (d≥0))) (∀ a,f<=a->Q false
 a) (zL Q N0 a3 e3 c3 b6 n8 m10 c10 m11 c11 a12 e12 c12 a13 e13 c13 (IntKind.i64.wrap (n14+1)) y0 (List.set r1 (0+n14.toNat:Nat) (D.lit (.int
 .i64 (Int.tmod (IntKind.i64.wrap (a+1)) 10007)))) q1 c q2 f)))) ((0<=n14/\n14<(e3.length:Int))/\∃ a,(if 0=0 then D.cell (List.getD e3 n14.toNat
 default) 0 else D.sub (List.getD e3 n14.toNat default) 0 0)=D.lit (.string a)/\(0<=n14/\n14<(e3.length:Int))/\∃ b,(if 0=0 then D.cell (List.getD
 e3 n14.toNat default) 0 else D.sub (List.getD e3 n14.toNat default) 0 0)=D.lit (.string b)/\∀ d,N<=d->ACalls prog 22 [.int .i64] [.sv a13 0 e13 c13,
 .str a] d (fun a e=>d<=e->∀ d,e<=d->ACalls prog 22 [.int .i64] [.sv a12 0 e12 c12,.str b] d (fun b e=>d<=e ->
 Br (!(decide (a≥0)==decide (b≥0))) (∀ a,e<=a->Q false a) (zL Q N0 a3 e3 c3 b6 n8 m10 c10 m11 c11 a12 e12 c12 a13 e13 c13
 (IntKind.i64.wrap (n14+1)) y0 r1 q1 c q2 e)))))) ((0<=n14/\n14<(e3.length:Int))/\∃ a:Bool,(if 0=0 then D.cell (List.getD e3 n14.toNat default)
 3 else D.sub (List.getD e3 n14.toNat default) 3 0)=D.lit (.bool a)/\Br a ((0<=n14/\n14<(m10:Int)/\(0+n14.toNat:Nat)<r1.length)/\(0+n14.toNat
 : Nat)<r1.length/\∃ a:Int,List.getD r1 (0+n14.toNat:Nat) default=D.lit (.int .i64 a)/\(10007:Int)≠(0:Int)/\(0<=n14/\n14<(m10:Int) /\
 (0+n14.toNat:Nat)<r1.length)/\(0+n14.toNat:Nat)<r1.length/\(0<=n14/\n14<(e3.length:Int))/\∃ b,(if 0=0 then D.cell (List.getD e3 n14.toNat
 default) 0 else D.sub (List.getD e3 n14.toNat default) 0 0)=D.lit (.string b)/\(0<=n14/\n14<(e3.length:Int))/\∃ d,(if 0=0 then D.cell (List.getD
 e3 n14.toNat default) 0 else D.sub (List.getD e3 n14.toNat default) 0 0)=D.lit (.string d)/\∀ e,N<=e->ACalls prog 22 [.int .i64] [.sv a13 0 e13 c13,
 .str b] e (fun b f=>e<=f->∀ e,f<=e->ACalls prog 22 [.int .i64] [.sv a12 0 e12 c12,.str d] e (fun d f=>e<=f
 -> Br (!(decide (b≥0)==decide (d≥0))) (∀ a,f<=a->Q false a) (zL Q N0 a3 e3 c3 b6 n8 m10 c10 m11 c11 a12 e12 c12 a13 e13
 c13 (IntKind.i64.wrap (n14+1)) y0 (List.set r1 (0+n14.toNat:Nat) (D.lit (.int .i64 (Int.tmod (IntKind.i64.wrap (a+1)) 10007)))) q1 c q2 f)))) ((0
 <= n14/\n14<(e3.length:Int))/\∃ a,(if 0=0 then D.cell (List.getD e3 n14.toNat default) 0 else D.sub (List.getD e3 n14.toNat default) 0 0)=D.lit (.string
 a)/\(0<=n14/\n14<(e3.length:Int))/\∃ b,(if 0=0 then D.cell (List.getD e3 n14.toNat default) 0 else D.sub (List.getD e3 n14.toNat default) 0 0)=D.lit
 (.string b)/\∀ d,N<=d->ACalls prog 22 [.int .i64] [.sv a13 0 e13 c13,.str a] d (fun a e=>d<=e->∀ d,e<=d->ACalls prog
 22 [.int .i64] [.sv a12 0 e12 c12,.str b] d (fun b e=>d<=e->Br (!(decide (a≥0)==decide (b≥0))) (∀ a,e<=a->Q false a)
 (zL Q N0 a3 e3 c3 b6 n8 m10 c10 m11 c11 a12 e12 c12 a13 e13 c13 (IntKind.i64.wrap (n14+1)) y0 r1 q1 c q2 e)))))) ((m10=r1.length/\c10 =
 q1)/\∀ a,ApA a r1->Off [a] (D.sl a3 4 e3 c3)->Off [a] y0->∀ b,N<=b->vw b [a]->ACalls prog 19 [.int .i64,.bool] [.sv a3 4 e3 c3,.dg 9 y0,.sv
 a 0 r1 c10] b (fun a c d=>b<=d->(m11=r2.length/\c11=q2)/\∀ b,ApA b r2->Off [b] y0->∀ e,d<=e->vw e [b]->ACalls
 prog 14 [.int .i64] [.sv b 4 r2 c11,.dg 9 y0] e (fun b d=>e<=d->∀ e,d<=e->ACalls prog 14 [.int .i64] [.sv a3 4 e3 c3,.dg 9 y0]
 e (fun d f=>e<=f->Br (decide (b≥d)) (Br c (Br b6 (∀ a,f<=a->Q true a) (∀ b,f<=b->Q (n8==a) b)) (∀
 a,f<=a->Q false a)) (∀ a,f<=a->Q false a)))))):zL Q N0 a3 e3 c3 b6 n8 m10 c10 m11 c11 a12 e12 c12 a13 e13 c13 n14 y0 r1 q1 r2 q2 N:=
  s7 (H:=qE) (by kernel_rfl) h
theorem zB4 (E:Env) (Q:QT [(Sh.sl 4),(Sh.ag 9),(Sh.sl 0),(Sh.int IntKind.i64),(Sh.int IntKind.i64)]) (N0:Nat) (m4 c4:Nat) (a0_0:Option Addr) (e0_0:List D) (c0_0:Nat) (n0_1 n0_2 n1_0:Int) (s1_1 s1_2:ByteArray) (n1_3 n1_4:Int) (a1_5:Option Addr) (e1_5:List D) (c1_5:Nat) (n1_6:Int) (a1_7:Option Addr) (e1_7:List D) (c1_7:Nat) (a1_8:Option Addr) (e1_8:List D) (c1_8:Nat) (r2:List D) (q2:Nat) (y3:D) (N:Nat) (h :
(m4=r2.length/\c4=q2)/\(m4=r2.length/\c4=q2)/\(m4=r2.length/\c4=q2)/\∀ a b,N<=b->Fresh N0 b a [D.ag r2,y3]->wh E [.var [.sv none 0
 [] 0,.int .i64 0,.int .i64 0]]/\∀ c,b<=c->Q a r2 q2 y3 a0_0 e0_0 c0_0 n0_1 n0_2 c):yu E Q N0 m4 c4 a0_0 e0_0 c0_0 n0_1 n0_2 n1_0 s1_1 s1_2 n1_3 n1_4 a1_5 e1_5 c1_5 n1_6 a1_7 e1_7 c1_7 a1_8 e1_8 c1_8 r2 q2 y3 N:=
  s7 (H:=qG) (by kernel_rfl) h
theorem tx (N:Nat) (n1:Int) (aB0_0:Option Addr) (eB0_0:List D) (cB0_0:Nat) (nB0_1 nB0_2:Int) (Q:QT [(Sh.ag 2),(Sh.sl 0),(Sh.int IntKind.i64),(Sh.int IntKind.i64)]) (h:∀ E:Env,
Bel N (D.sl aB0_0 0 eB0_0 cB0_0)->Br (decide (n1<2)) (∀ b,N<=b->BCalls prog 63 [.int .i64,.sl 0,.int .i64,.int .i64,.sl 0] [.pb 0 0 0 0,.sb 1 0 0
 3 3] [Bx.var [.sv aB0_0 0 eB0_0 cB0_0,.int .i64 nB0_1,.int .i64 nB0_2],Bx.arr 3 0 [D.lit (.int .i64 1),D.lit (.int .i64 1),D.lit (.int .i64 2)] 3] b (fun
 n a c d e f g h i j=>b<=j->Bel j (D.sl a 0 c d)->Bel j (D.sl g 0 h i)->wh E [.var [.sv none 0 [] 0,.int .i64 0,.int .i64
 0]]/\∀ b,j<=b->Q (D.ag [D.lit (.int .i64 n),D.sl Option.none 2 [] 0]) a c d e f b)) (∀ a,N<=a->BCalls prog 81 [.bool,.sl 0,.int .i64,
 .int .i64] [.pb 0 0 0 0,.int .i64 2] [Bx.var [.sv aB0_0 0 eB0_0 cB0_0,.int .i64 nB0_1,.int .i64 nB0_2]] a (fun b c d e f g h=>a<=h->Bel
 h (D.sl c 0 d e)->Br b (∀ a,h<=a->BCalls prog 63 [.int .i64,.sl 0,.int .i64,.int .i64,.sl 0] [.pb 0 0 0 0,.sb 1 0 0 3 3] [Bx.var [.sv c
 0 d e,.int .i64 f,.int .i64 g],Bx.arr 3 0 [D.lit (.int .i64 1),D.lit (.int .i64 1),D.lit (.int .i64 2)] 3] a (fun b c d e f g h i
 j k=>a<=k->Bel k (D.sl c 0 d e)->Bel k (D.sl h 0 i j)->wh E [.var [.sv none 0 [] 0,.int .i64 0,.int .i64 0]]/\∀ a,k<=a
 -> Q (D.ag [D.lit (.int .i64 b),D.sl Option.none 2 [] 0]) c d e f g a)) (∀ a,h<=a->BCalls prog 81 [.bool,.sl 0,.int .i64,.int .i64] [.pb
 0 0 0 0,.int .i64 2] [Bx.var [.sv c 0 d e,.int .i64 f,.int .i64 g]] a (fun b c d e f g h=>a<=h->Bel h (D.sl c 0 d
 e)->Br b (∀ a,h<=a->BCalls prog 93 [.ag 2,.sl 0,.int .i64,.int .i64] [.pb 0 0 0 0,.int .i64 (IntKind.i64.wrap (n1 - 1))] [Bx.var [.sv c 0
 d e,.int .i64 f,.int .i64 g]] a (fun x b c d e f g=>a<=g->Bel g x->Bel g (D.sl b 0 c d)->∀ a,g<=a
 -> ACalls prog 152 [.ag 2] [.dg 2 x] a (fun g h=>a<=h->Bel h g->wh E [.var [.sv none 0 [] 0,.int .i64 0,.int .i64 0]]/\∀ a,h <=
 a->Q g b c d e f a))) (∀ a,h<=a->BCalls prog 93 [.ag 2,.sl 0,.int .i64,.int .i64] [.pb 0 0 0 0,.int .i64 (IntKind.i64.wrap
 (n1 - 1))] [Bx.var [.sv c 0 d e,.int .i64 f,.int .i64 g]] a (fun b c d e f g h=>a<=h->Bel h b->Bel h (D.sl c
 0 d e)->∀ a,h<=a->BCalls prog 93 [.ag 2,.sl 0,.int .i64,.int .i64] [.pb 0 0 0 0,.int .i64 (IntKind.i64.wrap (n1 - 1))] [Bx.var [.sv c 0 d
 e,.int .i64 f,.int .i64 g]] a (fun c d e f g h i=>a<=i->Bel i c->Bel i (D.sl d 0 e f)->∀ a,i<=a
 -> ACalls prog 153 [.ag 2] [.dg 2 b,.dg 2 c] a (fun b c=>a<=c->Bel c b->wh E [.var [.sv none 0 [] 0,.int .i64 0,.int .i64 0]]/\∀
 a,c<=a->Q b d e f g h a))))))))):BCalls prog 93 [(Sh.ag 2),(Sh.sl 0),(Sh.int IntKind.i64),(Sh.int IntKind.i64)] [.pb 0 0 0 0,.int .i64 n1] [.var [.sv aB0_0 0 eB0_0 cB0_0,.int .i64 nB0_1,.int .i64 nB0_2]] N Q:=
  zKp (H:=zF3) (by kernel_rfl) (fun E=>by kernel_rfl) h
theorem zB7 (N:Nat) (aB0_0:Option Addr) (eB0_0:List D) (cB0_0:Nat) (nB0_1 nB0_2:Int) (Q:QT [(Sh.ag 9),(Sh.sl 0),(Sh.int IntKind.i64),(Sh.int IntKind.i64)]) (h:∀ E:Env,
Bel N (D.sl aB0_0 0 eB0_0 cB0_0)->∀ b,N<=b->BCalls prog 61 [.int .i64,.sl 0,.int .i64,.int .i64] [.pb 0 0 0 0,.int .i64 4] [Bx.var [.sv aB0_0 0 eB0_0
 cB0_0,.int .i64 nB0_1,.int .i64 nB0_2]] b (fun n a c d e f g=>b<=g->Bel g (D.sl a 0 c d)->∀ b,g<=b->BCalls prog 154 [Sh.pk,.int
 .i64,.str,.str,.int .i64,Sh.dc,Sh.dc,Sh.dc,Sh.dc,.row (OfNat.ofNat 30) 9,.sl 0,.int .i64,.int .i64] [.pb 0 0 0 0,.int .i64 (IntKind.i64.wrap (1+n))]
 [Bx.var [.sv a 0 c d,.int .i64 e,.int .i64 f]] b (fun a s c d x e f g h i j k l m n o=>b<=o->Bel o (D.sl j 0 k
 l)->Bel o (D.ag h)->∀ b,o<=b->BCalls prog 61 [.int .i64,.sl 0,.int .i64,.int .i64] [.pb 0 0 0 0,.int .i64 14] [Bx.var [.sv j 0 k l,
 .int .i64 m,.int .i64 n]] b (fun j k l m n o p=>b<=p->Bel p (D.sl k 0 l m)->Br (j==0) (∀ a,p<=a->BCalls prog
 61 [.int .i64,.sl 0,.int .i64,.int .i64] [.pb 0 0 0 0,.int .i64 15] [Bx.var [.sv k 0 l m,.int .i64 n,.int .i64 o]] a (fun b j k l m
 n o=>a<=o->Bel o (D.sl j 0 k l)->(h.length=h.length/\i=i)/\(h.length=h.length/\i=i)/\(h.length=h.length
 /\ i=i)/\(h.length=h.length/\i=i)/\∀ a p,o<=p->Fresh N p a [D.ag h,x,e,f,g]->wh E [.var [.sv none 0 [] 0,.int
 .i64 0,.int .i64 0]]/\∀ o,p<=o->Q (D.ag [D.lit (.int .i64 b),D.lit (.string s),D.lit (.string c),D.lit (.int .i64 d),x,e,f,g,D.sl
 a 9 h i]) j k l m n o)) (Br (j==1) (∀ b,p<=b->BCalls prog 63 [.int .i64,.sl 0,.int .i64,.int .i64,.sl 0] [.pb 0 0 0 0,
 .sb 1 0 0 5 5] [Bx.var [.sv k 0 l m,.int .i64 n,.int .i64 o],Bx.arr 3 0 [D.lit (.int .i64 0),D.lit (.int .i64 1),D.lit (.int .i64 10006),D.lit (.int
 .i64 10007),D.lit (.int .i64 (-1))] 5] b (fun d j k l m n o p q r=>b<=r->Bel r (D.sl j 0 k l)->Bel r (D.sl
 o 0 p q)->(h.length=h.length/\i=i)/\(h.length=h.length/\i=i)/\(h.length=h.length/\i=i)/\(h.length=h.length
 /\ i=i)/\∀ b o,r<=o->Fresh N o b [D.ag h,x,e,f,g]->wh E [.var [.sv none 0 [] 0,.int .i64 0,.int .i64 0]]/\∀ p,o
 <= p->Q (D.ag [D.lit (.int .i64 a),D.lit (.string s),D.lit (.string c),D.lit (.int .i64 d),x,e,f,g,D.sl b 9 h i]) j k l m
 n p)) (Br (j==2) (∀ b,p<=b->BCalls prog 132 [.str,.sl 0,.int .i64,.int .i64,.sl 0] [.pb 0 0 0 0,.sb 1 0 0 5 5] [Bx.var [.sv k 0 l
 m,.int .i64 n,.int .i64 o],Bx.arr 9 0 [D.lit (.string (bytes [])),D.lit (.string (bytes [120])),D.lit (.string (bytes [108,101,116])),D.lit (.string
 (bytes [97,98,99,100,101])),D.lit (.string (bytes [43]))] 5] b (fun j k l m n o p q r s=>b<=s->Bel s (D.sl k 0 l
 m)->Bel s (D.sl p 0 q r)->(h.length=h.length/\i=i)/\(h.length=h.length/\i=i)/\(h.length=h.length/\i=i)
 /\ (h.length=h.length/\i=i)/\∀ b p,s<=p->Fresh N p b [D.ag h,x,e,f,g]->wh E [.var [.sv none 0 [] 0,.int .i64
 0,.int .i64 0]]/\∀ q,p<=q->Q (D.ag [D.lit (.int .i64 a),D.lit (.string j),D.lit (.string c),D.lit (.int .i64 d),x,e,f,g,D.sl
 b 9 h i]) k l m n o q)) (Br (j==3) (∀ b,p<=b->ACalls prog 155 [Sh.pk,.int .i64,.str,.str,.int .i64,Sh.dc,Sh.dc,Sh.dc,
 Sh.dc,.row (OfNat.ofNat 30) 9] [.str (bytes [120])] b (fun j p q r t u v w y z A=>b<=A->Bel A (D.ag y)->(y.length
 = y.length/\z=z)/\∀ b B,A<=B->Fresh N B b [D.ag y,t,u,v,w,x,e,f,g,D.ag h]->(h.length=h.length
 /\ i=i)/\zA h [D.ag [D.lit (.int .i64 j),D.lit (.string p),D.lit (.string q),D.lit (.int .i64 r),t,u,v,w,D.sl b 9 y
 z]] 136/\∀ (i:Nat),((h++[D.ag [D.lit (.int .i64 j),D.lit (.string p),D.lit (.string q),D.lit (.int .i64 r),t,u,v,w,D.sl b
 9 y z]]).length=(h++[D.ag [D.lit (.int .i64 j),D.lit (.string p),D.lit (.string q),D.lit (.int .i64 r),t,u,v,w,D.sl b 9
 y z]]).length/\i=i)/\((h++[D.ag [D.lit (.int .i64 j),D.lit (.string p),D.lit (.string q),D.lit (.int .i64 r),t,u,v,w,
 D.sl b 9 y z]]).length=(h++[D.ag [D.lit (.int .i64 j),D.lit (.string p),D.lit (.string q),D.lit (.int .i64 r),t,u,v,w,D.sl
 b 9 y z]]).length/\i=i)/\((h++[D.ag [D.lit (.int .i64 j),D.lit (.string p),D.lit (.string q),D.lit (.int .i64 r),t,u,v,
 w,D.sl b 9 y z]]).length=(h++[D.ag [D.lit (.int .i64 j),D.lit (.string p),D.lit (.string q),D.lit (.int .i64 r),t,u,v,w,
 D.sl b 9 y z]]).length/\i=i)/\((h++[D.ag [D.lit (.int .i64 j),D.lit (.string p),D.lit (.string q),D.lit (.int .i64 r),t,u,
 v,w,D.sl b 9 y z]]).length=(h++[D.ag [D.lit (.int .i64 j),D.lit (.string p),D.lit (.string q),D.lit (.int .i64 r),t,u,v,
 w,D.sl b 9 y z]]).length/\i=i)/\∀ A C,B<=C->Fresh N C A [D.ag (h++[D.ag [D.lit (.int .i64 j),D.lit (.string p),
 D.lit (.string q),D.lit (.int .i64 r),t,u,v,w,D.sl b 9 y z]]),x,e,f,g]->wh E [.var [.sv none 0 [] 0,.int .i64 0,.int .i64
 0]]/\∀ B,C<=B->Q (D.ag [D.lit (.int .i64 a),D.lit (.string s),D.lit (.string c),D.lit (.int .i64 d),x,e,f,g,D.sl A 9 (h ++
 [D.ag [D.lit (.int .i64 j),D.lit (.string p),D.lit (.string q),D.lit (.int .i64 r),t,u,v,w,D.sl b 9 y z]]) i]) k l m
 n o B)) (Br (j==4) (∀ b,p<=b->BCalls prog 156 [.ag 2,.sl 0,.int .i64,.int .i64] [.pb 0 0 0 0] [Bx.var [.sv k 0 l m,.int .i64 n,
 .int .i64 o]] b (fun e j k l m n o=>b<=o->Bel o e->Bel o (D.sl j 0 k l)->(h.length=h.length/\i
 = i)/\(h.length=h.length/\i=i)/\(h.length=h.length/\i=i)/\(h.length=h.length/\i=i)/\∀ b p,o<=p ->
 Fresh N p b [D.ag h,(e.cell 0),(e.cell 1),f,g]->wh E [.var [.sv none 0 [] 0,.int .i64 0,.int .i64 0]]/\∀ o,p<=o->Q (D.ag [D.lit
 (.int .i64 a),D.lit (.string s),D.lit (.string c),D.lit (.int .i64 d),(e.cell 0),(e.cell 1),f,g,D.sl b 9 h i]) j k l m
 n o)) (Br (j==5) (∀ b,p<=b->BCalls prog 132 [.str,.sl 0,.int .i64,.int .i64,.sl 0] [.pb 0 0 0 0,.sb 1 0 0 2 2] [Bx.var [.sv k 0 l
 m,.int .i64 n,.int .i64 o],Bx.arr 9 0 [D.lit (.string (bytes [120])),D.lit (.string (bytes [122]))] 2] b (fun c j k l m n o p
 q r=>b<=r->Bel r (D.sl j 0 k l)->Bel r (D.sl o 0 p q)->(h.length=h.length/\i=i)/\(h.length=h.length
 /\ i=i)/\(h.length=h.length/\i=i)/\(h.length=h.length/\i=i)/\∀ b o,r<=o->Fresh N o b [D.ag h,x,e,
 f,g]->wh E [.var [.sv none 0 [] 0,.int .i64 0,.int .i64 0]]/\∀ p,o<=p->Q (D.ag [D.lit (.int .i64 a),D.lit (.string s),D.lit (.string c),
 D.lit (.int .i64 d),x,e,f,g,D.sl b 9 h i]) j k l m n p)) ((h.length=h.length/\i=i)/\(h.length=h.length
 /\ i=i)/\(h.length=h.length/\i=i)/\(h.length=h.length/\i=i)/\∀ b j,p<=j->Fresh N j b [D.ag h,x,e,
 f,g]->wh E [.var [.sv none 0 [] 0,.int .i64 0,.int .i64 0]]/\∀ p,j<=p->Q (D.ag [D.lit (.int .i64 a),D.lit (.string s),D.lit (.string c),
 D.lit (.int .i64 d),x,e,f,g,D.sl b 9 h i]) k l m n o p)))))))))):BCalls prog 90 [(Sh.ag 9),(Sh.sl 0),(Sh.int IntKind.i64),(Sh.int IntKind.i64)] [.pb 0 0 0 0] [.var [.sv aB0_0 0 eB0_0 cB0_0,.int .i64 nB0_1,.int .i64 nB0_2]] N Q:=
  zKp (H:=zGr) (by kernel_rfl) (fun E=>by kernel_rfl) h
theorem rE (N:Nat) (n1:Int) (aB0_0:Option Addr) (eB0_0:List D) (cB0_0:Nat) (nB0_1 nB0_2:Int) (Q:QT [Sh.pk,(Sh.int IntKind.i64),Sh.str,Sh.str,(Sh.int IntKind.i64),Sh.dc,Sh.dc,Sh.dc,Sh.dc,(Sh.row (OfNat.ofNat 30) 9),(Sh.sl 0),(Sh.int IntKind.i64),(Sh.int IntKind.i64)]) (h:∀ E:Env,
Bel N (D.sl aB0_0 0 eB0_0 cB0_0)->Br (decide (n1<2)) (∀ b,N<=b->BCalls prog 203 [Sh.pk,.int .i64,.str,.str,.int .i64,Sh.dc,Sh.dc,Sh.dc,Sh.dc,.row
 (OfNat.ofNat 30) 9,.sl 0,.int .i64,.int .i64] [.pb 0 0 0 0] [Bx.var [.sv aB0_0 0 eB0_0 cB0_0,.int .i64 nB0_1,.int .i64 nB0_2]] b (fun n s a c x d e
 f g h i j k l m o=>b<=o->Bel o (D.sl i 0 j k)->Bel o (D.ag g)->wh E [.var [.sv none 0 [] 0,.int .i64 0,.int .i64 0]]/\(g.length
 = g.length/\h=h)/\∀ b,o<=b->Q n s a c x d e f g h i j k l m b)) (∀ a,N<=a->BCalls prog 81 [.bool,.sl 0,.int .i64,.int
 .i64] [.pb 0 0 0 0,.int .i64 5] [Bx.var [.sv aB0_0 0 eB0_0 cB0_0,.int .i64 nB0_1,.int .i64 nB0_2]] a (fun b c d e f g h=>a<=h->Bel h
 (D.sl c 0 d e)->Br b (∀ a,h<=a->BCalls prog 203 [Sh.pk,.int .i64,.str,.str,.int .i64,Sh.dc,Sh.dc,Sh.dc,Sh.dc,.row (OfNat.ofNat 30) 9,.sl
 0,.int .i64,.int .i64] [.pb 0 0 0 0] [Bx.var [.sv c 0 d e,.int .i64 f,.int .i64 g]] a (fun b c d e f g h i j k l m n
 o p q=>a<=q->Bel q (D.sl l 0 m n)->Bel q (D.ag j)->wh E [.var [.sv none 0 [] 0,.int .i64 0,.int .i64 0]]/\(j.length=j.length
 /\ k=k)/\∀ a,q<=a->Q b c d e f g h i j k l m n o p a)) (∀ a,h<=a->BCalls prog 63 [.int .i64,.sl 0,.int
 .i64,.int .i64,.sl 0] [.pb 0 0 0 0,.sb 1 0 0 12 12] [Bx.var [.sv c 0 d e,.int .i64 f,.int .i64 g],Bx.arr 3 0 [D.lit (.int .i64 4),D.lit (.int .i64
 5),D.lit (.int .i64 6),D.lit (.int .i64 7),D.lit (.int .i64 8),D.lit (.int .i64 9),D.lit (.int .i64 10),D.lit (.int .i64 11),D.lit (.int .i64 12),D.lit (.int
 .i64 13),D.lit (.int .i64 10),D.lit (.int .i64 4)] 12] a (fun b c d e f g h i j k=>a<=k->Bel k (D.sl c 0 d e) ->
 Bel k (D.sl h 0 i j)->Br (b==4) (∀ a,k<=a->BCalls prog 132 [.str,.sl 0,.int .i64,.int .i64,.sl 0] [.pb 0 0 0 0,.sb 1 0 0 8 8] [Bx.var
 [.sv c 0 d e,.int .i64 f,.int .i64 g],Bx.arr 9 0 [D.lit (.string (bytes [43])),D.lit (.string (bytes [45])),D.lit (.string (bytes [42])),D.lit
 (.string (bytes [61])),D.lit (.string (bytes [60])),D.lit (.string (bytes [38])),D.lit (.string (bytes [124])),D.lit (.string (bytes [33]))] 8] a (fun c
 d e f g h i j k l=>a<=l->Bel l (D.sl d 0 e f)->Bel l (D.sl i 0 j k)->zt E Q N n1 d e f
 g h 0 (bytes []) (bytes []) 0 0 Option.none [] 0 0 Option.none [] 0 Option.none [] 0 b c (bytes []) 0 0 Option.none [] 0 0 Option.none [] 0 0 0 [] 0 l))
 (Br (b==6) (∀ a,k<=a->BCalls prog 132 [.str,.sl 0,.int .i64,.int .i64,.sl 0] [.pb 0 0 0 0,.sb 1 0 0 3 3] [Bx.var [.sv c 0 d e,.int
 .i64 f,.int .i64 g],Bx.arr 9 0 [D.lit (.string (bytes [120])),D.lit (.string (bytes [121])),D.lit (.string (bytes [102]))] 3] a (fun c d e f
 g h i j k l=>a<=l->Bel l (D.sl d 0 e f)->Bel l (D.sl i 0 j k)->zt E Q N n1 d e f g h
 0 (bytes []) (bytes []) 0 0 Option.none [] 0 0 Option.none [] 0 Option.none [] 0 b c (bytes []) 0 0 Option.none [] 0 0 Option.none [] 0 0 0 [] 0 l)) (Br
 (b==8) (∀ a,k<=a->BCalls prog 132 [.str,.sl 0,.int .i64,.int .i64,.sl 0] [.pb 0 0 0 0,.sb 1 0 0 3 3] [Bx.var [.sv c 0 d e,.int .i64
 f,.int .i64 g],Bx.arr 9 0 [D.lit (.string (bytes [120])),D.lit (.string (bytes [121])),D.lit (.string (bytes [102]))] 3] a (fun c d e f g
 h i j k l=>a<=l->Bel l (D.sl d 0 e f)->Bel l (D.sl i 0 j k)->zt E Q N n1 d e f g h
 0 (bytes []) (bytes []) 0 0 Option.none [] 0 0 Option.none [] 0 Option.none [] 0 b c (bytes []) 0 0 Option.none [] 0 0 Option.none [] 0 0 0 [] 0 l)) (Br
 (b==9) (∀ a,k<=a->BCalls prog 132 [.str,.sl 0,.int .i64,.int .i64,.sl 0] [.pb 0 0 0 0,.sb 1 0 0 3 3] [Bx.var [.sv c 0 d e,.int .i64
 f,.int .i64 g],Bx.arr 9 0 [D.lit (.string (bytes [120])),D.lit (.string (bytes [121])),D.lit (.string (bytes [102]))] 3] a (fun c d e f
 g h i j k l=>a<=l->Bel l (D.sl d 0 e f)->Bel l (D.sl i 0 j k)->zt E Q N n1 d e f
 g h 0 (bytes []) (bytes []) 0 0 Option.none [] 0 0 Option.none [] 0 Option.none [] 0 b c (bytes []) 0 0 Option.none [] 0 0 Option.none [] 0 0 0 [] 0 l))
 (zt E Q N n1 c d e f g 0 (bytes []) (bytes []) 0 0 Option.none [] 0 0 Option.none [] 0 Option.none [] 0 b (bytes []) (bytes []) 0 0
 Option.none [] 0 0 Option.none [] 0 0 0 [] 0 k))))))))):BCalls prog 154 [Sh.pk,(Sh.int IntKind.i64),Sh.str,Sh.str,(Sh.int IntKind.i64),Sh.dc,Sh.dc,Sh.dc,Sh.dc,(Sh.row (OfNat.ofNat 30) 9),(Sh.sl 0),(Sh.int IntKind.i64),(Sh.int IntKind.i64)] [.pb 0 0 0 0,.int .i64 n1] [.var [.sv aB0_0 0 eB0_0 cB0_0,.int .i64 nB0_1,.int .i64 nB0_2]] N Q:=
  zKp (H:=za) (by kernel_rfl) (fun E=>by kernel_rfl) h
theorem zBk (N:Nat) (aB0_0:Option Addr) (eB0_0:List D) (cB0_0:Nat) (nB0_1 nB0_2:Int) (Q:QT [(Sh.ag 2),(Sh.sl 0),(Sh.int IntKind.i64),(Sh.int IntKind.i64)]) (h:∀ E:Env,
Bel N (D.sl aB0_0 0 eB0_0 cB0_0)->∀ b,N<=b->BCalls prog 93 [.ag 2,.sl 0,.int .i64,.int .i64] [.pb 0 0 0 0,.int .i64 4] [Bx.var [.sv aB0_0 0 eB0_0 cB0_0,
 .int .i64 nB0_1,.int .i64 nB0_2]] b (fun x a c d n e f=>b<=f->Bel f x->Bel f (D.sl a 0 c d)->∀ b,f<=b->BCalls prog 61 [.int .i64,
 .sl 0,.int .i64,.int .i64] [.pb 0 0 0 0,.int .i64 10] [Bx.var [.sv a 0 c d,.int .i64 n,.int .i64 e]] b (fun a c d e f g h=>b<=h ->
 Bel h (D.sl c 0 d e)->Br (a==0) (∀ a,h<=a->BCalls prog 61 [.int .i64,.sl 0,.int .i64,.int .i64] [.pb 0 0 0 0,.int .i64 6] [Bx.var [.sv
 c 0 d e,.int .i64 f,.int .i64 g]] a (fun b c d e f g h=>a<=h->Bel h (D.sl c 0 d e)->wh E [.var [.sv none 0 [] 0,
 .int .i64 0,.int .i64 0]]/\∀ a,h<=a->Q (D.ag [D.lit (.int .i64 b),(x.cell 1)]) c d e f g a)) (Br (a==1) (∃ a b,∃ i:Nat,
 (x.cell 1)=D.sl a 2 b i/\∀ j,h<=j->ACalls prog 130 [.ag 2] [] j (fun h k=>j<=k->Bel k h->zQd a b i [h]/\zA
 b [h] 32/\∀ (a:Nat),((b++[h]).length=(b++[h]).length/\a=a)/\((b++[h]).length=(b++[h]).length/\a=a)/\((b
 ++ [h]).length=(b++[h]).length/\a=a)/\((b++[h]).length=(b++[h]).length/\a=a)/\∀ i j,k<=j->Fresh N j i
 [D.ag (b++[h]),(x.cell 0)]->wh E [.var [.sv none 0 [] 0,.int .i64 0,.int .i64 0]]/\∀ k,j<=k->Q (D.ag [(x.cell 0),D.sl i 2 (b++[h])
 a]) c d e f g k)) (Br (a==2) (∀ a,h<=a->BCalls prog 61 [.int .i64,.sl 0,.int .i64,.int .i64] [.pb 0 0 0 0,.int .i64 6] [Bx.var
 [.sv c 0 d e,.int .i64 f,.int .i64 g]] a (fun b c d e f g h=>a<=h->Bel h (D.sl c 0 d e)->xd E
 Q N (IntKind.i64.wrap (1+b)) 0 c d e f g 0 Option.none [] 0 x h)) (Br (a==3) (xh E Q N 0 c d e f g 0 Option.none
 [] 0 x h) (wh E [.var [.sv none 0 [] 0,.int .i64 0,.int .i64 0]]/\∀ a,h<=a->Q x c d e f g a))))))):BCalls prog 156 [(Sh.ag 2),(Sh.sl 0),(Sh.int IntKind.i64),(Sh.int IntKind.i64)] [.pb 0 0 0 0] [.var [.sv aB0_0 0 eB0_0 cB0_0,.int .i64 nB0_1,.int .i64 nB0_2]] N Q:=
  zKp (H:=tZ) (by kernel_rfl) (fun E=>by kernel_rfl) h
theorem zBi (N:Nat) (aB0_0:Option Addr) (eB0_0:List D) (cB0_0:Nat) (nB0_1 nB0_2:Int) (Q:QT [Sh.pk,(Sh.int IntKind.i64),Sh.str,Sh.str,(Sh.int IntKind.i64),Sh.dc,Sh.dc,Sh.dc,Sh.dc,(Sh.row (OfNat.ofNat 30) 9),(Sh.sl 0),(Sh.int IntKind.i64),(Sh.int IntKind.i64)]) (h:∀ E:Env,
Bel N (D.sl aB0_0 0 eB0_0 cB0_0)->∀ b,N<=b->BCalls prog 61 [.int .i64,.sl 0,.int .i64,.int .i64] [.pb 0 0 0 0,.int .i64 4] [Bx.var [.sv aB0_0 0 eB0_0
 cB0_0,.int .i64 nB0_1,.int .i64 nB0_2]] b (fun n a c d e f g=>b<=g->Bel g (D.sl a 0 c d)->Br (n==0) (∀ b,g<=b->BCalls prog 63 [.int
 .i64,.sl 0,.int .i64,.int .i64,.sl 0] [.pb 0 0 0 0,.sb 1 0 0 5 5] [Bx.var [.sv a 0 c d,.int .i64 e,.int .i64 f],Bx.arr 3 0 [D.lit (.int .i64 0),D.lit
 (.int .i64 1),D.lit (.int .i64 2),D.lit (.int .i64 3),D.lit (.int .i64 10006)] 5] b (fun a c d e f g h i j k=>b<=k->Bel k (D.sl
 c 0 d e)->Bel k (D.sl h 0 i j)->∀ b,k<=b->ACalls prog 204 [Sh.pk,.int .i64,.str,.str,.int .i64,Sh.dc,Sh.dc,Sh.dc,Sh.dc,.row (OfNat.ofNat
 30) 9] [.int .i64 a] b (fun a s h i x j k l m n o=>b<=o->Bel o (D.ag m)->wh E [.var [.sv none 0 [] 0,.int .i64 0,.int .i64
 0]]/\(m.length=m.length/\n=n)/\∀ b,o<=b->Q a s h i x j k l m n c d e f g b))) (Br (n==1) (∀ b,g <=
 b->BCalls prog 61 [.int .i64,.sl 0,.int .i64,.int .i64] [.pb 0 0 0 0,.int .i64 2] [Bx.var [.sv a 0 c d,.int .i64 e,.int .i64 f]] b (fun a c d
 e f g h=>b<=h->Bel h (D.sl c 0 d e)->∀ b,h<=b->ACalls prog 205 [Sh.pk,.int .i64,.str,.str,.int .i64,Sh.dc,Sh.dc,Sh.dc,
 Sh.dc,.row (OfNat.ofNat 30) 9] [.int .i64 a] b (fun a h i j k l m n o p q=>b<=q->Bel q (D.ag o)->wh E [.var [.sv
 none 0 [] 0,.int .i64 0,.int .i64 0]]/\(o.length=o.length/\p=p)/\∀ b,q<=b->Q a h i j k l m n o p c d e
 f g b))) (∀ b,g<=b->BCalls prog 132 [.str,.sl 0,.int .i64,.int .i64,.sl 0] [.pb 0 0 0 0,.sb 1 0 0 3 3] [Bx.var [.sv a 0 c d,.int .i64 e,
 .int .i64 f],Bx.arr 9 0 [D.lit (.string (bytes [120])),D.lit (.string (bytes [121])),D.lit (.string (bytes [102]))] 3] b (fun a c d e f g
 h i j k=>b<=k->Bel k (D.sl c 0 d e)->Bel k (D.sl h 0 i j)->∀ b,k<=b->ACalls prog 155 [Sh.pk,.int .i64,.str,
 .str,.int .i64,Sh.dc,Sh.dc,Sh.dc,Sh.dc,.row (OfNat.ofNat 30) 9] [.str a] b (fun a h i j k l m n o p q=>b<=q->Bel
 q (D.ag o)->wh E [.var [.sv none 0 [] 0,.int .i64 0,.int .i64 0]]/\(o.length=o.length/\p=p)/\∀ b,q<=b->Q a h i j
 k l m n o p c d e f g b)))))):BCalls prog 203 [Sh.pk,(Sh.int IntKind.i64),Sh.str,Sh.str,(Sh.int IntKind.i64),Sh.dc,Sh.dc,Sh.dc,Sh.dc,(Sh.row (OfNat.ofNat 30) 9),(Sh.sl 0),(Sh.int IntKind.i64),(Sh.int IntKind.i64)] [.pb 0 0 0 0] [.var [.sv aB0_0 0 eB0_0 cB0_0,.int .i64 nB0_1,.int .i64 nB0_2]] N Q:=
  zKp (H:=zHE) (by kernel_rfl) (fun E=>by kernel_rfl) h
theorem zDi (E:Env) (Q:QT [Sh.pk,(Sh.int IntKind.i64),Sh.str,Sh.str,(Sh.int IntKind.i64),Sh.dc,Sh.dc,Sh.dc,Sh.dc,(Sh.row (OfNat.ofNat 30) 9),(Sh.sl 0),(Sh.int IntKind.i64),(Sh.int IntKind.i64)]) (N0:Nat) (n1:Int) (a0_0:Option Addr) (e0_0:List D) (c0_0:Nat) (n0_1 n0_2 n1_0:Int) (s1_1 s1_2:ByteArray) (n1_3 n1_4:Int) (a1_5:Option Addr) (e1_5:List D) (c1_5:Nat) (n1_6:Int) (a1_7:Option Addr) (e1_7:List D) (c1_7:Nat) (a1_8:Option Addr) (e1_8:List D) (c1_8:Nat) (n2_0:Int) (s2_1 s2_2:ByteArray) (n2_3 n2_4:Int) (a2_5:Option Addr) (e2_5:List D) (c2_5:Nat) (n2_6:Int) (a2_7:Option Addr) (e2_7:List D) (c2_7 m2_8 c2_8:Nat) (r3:List D) (q3:Nat) (N:Nat) (h :
Br (n2_0==6) (∀ b,N<=b->BCalls prog 93 [.ag 2,.sl 0,.int .i64,.int .i64] [.pb 0 0 0 0,.int .i64 2] [Bx.var [.sv a0_0 0 e0_0 c0_0,.int .i64 n0_1,.int
 .i64 n0_2]] b (fun x a c d n e f=>b<=f->Bel f x->Bel f (D.sl a 0 c d)->wU E Q N0 n1 a c d n e n1_0 s1_1 s1_2 n1_3 n1_4 a1_5
 e1_5 c1_5 n1_6 a1_7 e1_7 c1_7 a1_8 e1_8 c1_8 n2_0 s2_1 s2_2 n2_3 (x.cell 0) (x.cell 1) n2_6 a2_7 e2_7 c2_7 m2_8 c2_8 r3 q3 f)) (Br (n2_0==9) (∀ a,N<=a
 -> BCalls prog 93 [.ag 2,.sl 0,.int .i64,.int .i64] [.pb 0 0 0 0,.int .i64 2] [Bx.var [.sv a0_0 0 e0_0 c0_0,.int .i64 n0_1,.int .i64 n0_2]] a (fun b c
 d e f g h=>a<=h->Bel h b->Bel h (D.sl c 0 d e)->wU E Q N0 n1 c d e f g n1_0 s1_1 s1_2 n1_3 n1_4 a1_5 e1_5
 c1_5 n1_6 a1_7 e1_7 c1_7 a1_8 e1_8 c1_8 n2_0 s2_1 s2_2 n2_3 (b.cell 0) (b.cell 1) n2_6 a2_7 e2_7 c2_7 m2_8 c2_8 r3 q3 h)) (wE E Q N0 n1 a0_0
 e0_0 c0_0 n0_1 n0_2 n1_0 s1_1 s1_2 n1_3 n1_4 a1_5 e1_5 c1_5 n1_6 a1_7 e1_7 c1_7 a1_8 e1_8 c1_8 n2_0 s2_1 s2_2 n2_3 n2_4 a2_5 e2_5 c2_5 n2_6 a2_7 e2_7 c2_7 m2_8 c2_8
 r3 q3 N))):zt E Q N0 n1 a0_0 e0_0 c0_0 n0_1 n0_2 n1_0 s1_1 s1_2 n1_3 n1_4 a1_5 e1_5 c1_5 n1_6 a1_7 e1_7 c1_7 a1_8 e1_8 c1_8 n2_0 s2_1 s2_2 n2_3 n2_4 a2_5 e2_5 c2_5 n2_6 a2_7 e2_7 c2_7 m2_8 c2_8 r3 q3 N:=
  s7 (H:=za) (by kernel_rfl) h
theorem t6 (E:Env) (Q:QT [(Sh.ag 2),(Sh.sl 0),(Sh.int IntKind.i64),(Sh.int IntKind.i64)]) (N0:Nat) (n4 n5:Int) (a0_0:Option Addr) (e0_0:List D) (c0_0:Nat) (n0_1 n0_2 n1_0:Int) (a1_1:Option Addr) (e1_1:List D) (c1_1:Nat) (y2:D) (N:Nat) (h :
Br (decide (n5<n4)) (∀ a,N<=a->ACalls prog 152 [.ag 2] [.dg 2 y2] a (fun x b=>a<=b->Bel b x->xd E Q N0 n4 (IntKind.i64.wrap
 (n5+1)) a0_0 e0_0 c0_0 n0_1 n0_2 n1_0 a1_1 e1_1 c1_1 x b)) (wh E [.var [.sv none 0 [] 0,.int .i64 0,.int .i64 0]]/\∀ a,N<=a->Q y2 a0_0 e0_0 c0_0
 n0_1 n0_2 a)):xd E Q N0 n4 n5 a0_0 e0_0 c0_0 n0_1 n0_2 n1_0 a1_1 e1_1 c1_1 y2 N:=
  s7 (H:=tZ) (by kernel_rfl) h
theorem tj (E:Env) (Q:QT [(Sh.ag 2),(Sh.sl 0),(Sh.int IntKind.i64),(Sh.int IntKind.i64)]) (N0:Nat) (n6:Int) (a0_0:Option Addr) (e0_0:List D) (c0_0:Nat) (n0_1 n0_2 n1_0:Int) (a1_1:Option Addr) (e1_1:List D) (c1_1:Nat) (y2:D) (N:Nat) (h :
Br (decide (n6<3)) (∀ a,N<=a->ACalls prog 153 [.ag 2] [.dg 2 y2,.dg 2 y2] a (fun x b=>a<=b->Bel b x->xh E Q N0 (IntKind.i64.wrap
 (n6+1)) a0_0 e0_0 c0_0 n0_1 n0_2 n1_0 a1_1 e1_1 c1_1 x b)) (wh E [.var [.sv none 0 [] 0,.int .i64 0,.int .i64 0]]/\∀ a,N<=a->Q y2 a0_0 e0_0 c0_0
 n0_1 n0_2 a)):xh E Q N0 n6 a0_0 e0_0 c0_0 n0_1 n0_2 n1_0 a1_1 e1_1 c1_1 y2 N:=
  s7 (H:=tZ) (by kernel_rfl) h
theorem zDg (E:Env) (Q:QT [Sh.pk,(Sh.int IntKind.i64),Sh.str,Sh.str,(Sh.int IntKind.i64),Sh.dc,Sh.dc,Sh.dc,Sh.dc,(Sh.row (OfNat.ofNat 30) 9),(Sh.sl 0),(Sh.int IntKind.i64),(Sh.int IntKind.i64)]) (N0:Nat) (n1:Int) (a0_0:Option Addr) (e0_0:List D) (c0_0:Nat) (n0_1 n0_2 n1_0:Int) (s1_1 s1_2:ByteArray) (n1_3 n1_4:Int) (a1_5:Option Addr) (e1_5:List D) (c1_5:Nat) (n1_6:Int) (a1_7:Option Addr) (e1_7:List D) (c1_7:Nat) (a1_8:Option Addr) (e1_8:List D) (c1_8:Nat) (n2_0:Int) (s2_1 s2_2:ByteArray) (n2_3:Int) (x2_4 x2_5:D) (n2_6:Int) (a2_7:Option Addr) (e2_7:List D) (c2_7 m2_8 c2_8:Nat) (r3:List D) (q3:Nat) (N:Nat) (h :
Br (n2_0==9) (∀ b,N<=b->BCalls prog 132 [.str,.sl 0,.int .i64,.int .i64,.sl 0] [.pb 0 0 0 0,.sb 1 0 0 2 2] [Bx.var [.sv a0_0 0 e0_0 c0_0,.int .i64
 n0_1,.int .i64 n0_2],Bx.arr 9 0 [D.lit (.string (bytes [122])),D.lit (.string (bytes [119]))] 2] b (fun s a c d n e f g h i=>b<=i->Bel i
 (D.sl a 0 c d)->Bel i (D.sl f 0 g h)->∀ b,i<=b->BCalls prog 93 [.ag 2,.sl 0,.int .i64,.int .i64] [.pb 0 0 0 0,.int .i64 2] [Bx.var [.sv
 a 0 c d,.int .i64 n,.int .i64 e]] b (fun x a c d e f g=>b<=g->Bel g x->Bel g (D.sl a 0 c d)->uA E Q N0 n1 a
 c d e f n1_0 s1_1 s1_2 n1_3 n1_4 a1_5 e1_5 c1_5 n1_6 a1_7 e1_7 c1_7 a1_8 e1_8 c1_8 n2_0 s2_1 s n2_3 x2_4 x2_5 (x.cell 0) (x.cell 1) m2_8 c2_8 r3 q3 g)))
 (wC E Q N0 n1 a0_0 e0_0 c0_0 n0_1 n0_2 n1_0 s1_1 s1_2 n1_3 n1_4 a1_5 e1_5 c1_5 n1_6 a1_7 e1_7 c1_7 a1_8 e1_8 c1_8 n2_0 s2_1 s2_2 n2_3 x2_4 x2_5 n2_6
 a2_7 e2_7 c2_7 m2_8 c2_8 r3 q3 N)):wU E Q N0 n1 a0_0 e0_0 c0_0 n0_1 n0_2 n1_0 s1_1 s1_2 n1_3 n1_4 a1_5 e1_5 c1_5 n1_6 a1_7 e1_7 c1_7 a1_8 e1_8 c1_8 n2_0 s2_1 s2_2 n2_3 x2_4 x2_5 n2_6 a2_7 e2_7 c2_7 m2_8 c2_8 r3 q3 N:=
  s7 (H:=za) (by kernel_rfl) h
theorem po (E:Env) (Q:QT [Sh.pk,(Sh.int IntKind.i64),Sh.str,Sh.str,(Sh.int IntKind.i64),Sh.dc,Sh.dc,Sh.dc,Sh.dc,(Sh.row (OfNat.ofNat 30) 9),(Sh.sl 0),(Sh.int IntKind.i64),(Sh.int IntKind.i64)]) (N0:Nat) (n1:Int) (a0_0:Option Addr) (e0_0:List D) (c0_0:Nat) (n0_1 n0_2 n1_0:Int) (s1_1 s1_2:ByteArray) (n1_3 n1_4:Int) (a1_5:Option Addr) (e1_5:List D) (c1_5:Nat) (n1_6:Int) (a1_7:Option Addr) (e1_7:List D) (c1_7:Nat) (a1_8:Option Addr) (e1_8:List D) (c1_8:Nat) (n2_0:Int) (s2_1 s2_2:ByteArray) (n2_3 n2_4:Int) (a2_5:Option Addr) (e2_5:List D) (c2_5:Nat) (n2_6:Int) (a2_7:Option Addr) (e2_7:List D) (c2_7 m2_8 c2_8:Nat) (r3:List D) (q3:Nat) (N:Nat) (h :
Br (n2_0==9) (∀ b,N<=b->BCalls prog 132 [.str,.sl 0,.int .i64,.int .i64,.sl 0] [.pb 0 0 0 0,.sb 1 0 0 2 2] [Bx.var [.sv a0_0 0 e0_0 c0_0,.int .i64
 n0_1,.int .i64 n0_2],Bx.arr 9 0 [D.lit (.string (bytes [122])),D.lit (.string (bytes [119]))] 2] b (fun s a c d n e f g h i=>b<=i->Bel i
 (D.sl a 0 c d)->Bel i (D.sl f 0 g h)->∀ b,i<=b->BCalls prog 93 [.ag 2,.sl 0,.int .i64,.int .i64] [.pb 0 0 0 0,.int .i64 2] [Bx.var [.sv
 a 0 c d,.int .i64 n,.int .i64 e]] b (fun x a c d e f g=>b<=g->Bel g x->Bel g (D.sl a 0 c d)->wX E Q N0 n1
 a c d e f n1_0 s1_1 s1_2 n1_3 n1_4 a1_5 e1_5 c1_5 n1_6 a1_7 e1_7 c1_7 a1_8 e1_8 c1_8 n2_0 s2_1 s n2_3 n2_4 a2_5 e2_5 c2_5 (x.cell 0) (x.cell 1) m2_8 c2_8
 r3 q3 g))) (we E Q N0 n1 a0_0 e0_0 c0_0 n0_1 n0_2 n1_0 s1_1 s1_2 n1_3 n1_4 a1_5 e1_5 c1_5 n1_6 a1_7 e1_7 c1_7 a1_8 e1_8 c1_8 n2_0 s2_1 s2_2 n2_3
 n2_4 a2_5 e2_5 c2_5 n2_6 a2_7 e2_7 c2_7 m2_8 c2_8 r3 q3 N)):wE E Q N0 n1 a0_0 e0_0 c0_0 n0_1 n0_2 n1_0 s1_1 s1_2 n1_3 n1_4 a1_5 e1_5 c1_5 n1_6 a1_7 e1_7 c1_7 a1_8 e1_8 c1_8 n2_0 s2_1 s2_2 n2_3 n2_4 a2_5 e2_5 c2_5 n2_6 a2_7 e2_7 c2_7 m2_8 c2_8 r3 q3 N:=
  s7 (H:=za) (by kernel_rfl) h
theorem zDM (E:Env) (Q:QT [Sh.pk,(Sh.int IntKind.i64),Sh.str,Sh.str,(Sh.int IntKind.i64),Sh.dc,Sh.dc,Sh.dc,Sh.dc,(Sh.row (OfNat.ofNat 30) 9),(Sh.sl 0),(Sh.int IntKind.i64),(Sh.int IntKind.i64)]) (N0:Nat) (n1:Int) (a0_0:Option Addr) (e0_0:List D) (c0_0:Nat) (n0_1 n0_2 n1_0:Int) (s1_1 s1_2:ByteArray) (n1_3 n1_4:Int) (a1_5:Option Addr) (e1_5:List D) (c1_5:Nat) (n1_6:Int) (a1_7:Option Addr) (e1_7:List D) (c1_7:Nat) (a1_8:Option Addr) (e1_8:List D) (c1_8:Nat) (n2_0:Int) (s2_1 s2_2:ByteArray) (n2_3:Int) (x2_4 x2_5 x2_6 x2_7:D) (m2_8 c2_8:Nat) (r3:List D) (q3:Nat) (N:Nat) (h :
(m2_8=r3.length/\c2_8=q3)/\∀ a,ApA a r3->∀ b,N<=b->vw b [a]->ACalls prog 182 [.int .i64] [.dg 9 (D.ag [D.lit (.int .i64 n2_0),D.lit (.string
 s2_1),D.lit (.string s2_2),D.lit (.int .i64 n2_3),x2_4,x2_5,x2_6,x2_7,D.sl a 9 r3 c2_8])] b (fun n a=>b<=a->wM E Q N0 n1 n 0 a0_0
 e0_0 c0_0 n0_1 n0_2 n1_0 s1_1 s1_2 n1_3 n1_4 a1_5 e1_5 c1_5 n1_6 a1_7 e1_7 c1_7 a1_8 e1_8 c1_8 n2_0 s2_1 s2_2 n2_3 x2_4 x2_5 x2_6 x2_7 m2_8 c2_8 r3 q3 a)):uA E Q N0 n1 a0_0 e0_0 c0_0 n0_1 n0_2 n1_0 s1_1 s1_2 n1_3 n1_4 a1_5 e1_5 c1_5 n1_6 a1_7 e1_7 c1_7 a1_8 e1_8 c1_8 n2_0 s2_1 s2_2 n2_3 x2_4 x2_5 x2_6 x2_7 m2_8 c2_8 r3 q3 N:=
  s7 (H:=za) (by kernel_rfl) h
theorem zAP (E:Env) (Q:QT [Sh.pk,(Sh.int IntKind.i64),Sh.str,Sh.str,(Sh.int IntKind.i64),Sh.dc,Sh.dc,Sh.dc,Sh.dc,(Sh.row (OfNat.ofNat 30) 9),(Sh.sl 0),(Sh.int IntKind.i64),(Sh.int IntKind.i64)]) (N0:Nat) (n1:Int) (a0_0:Option Addr) (e0_0:List D) (c0_0:Nat) (n0_1 n0_2 n1_0:Int) (s1_1 s1_2:ByteArray) (n1_3 n1_4:Int) (a1_5:Option Addr) (e1_5:List D) (c1_5:Nat) (n1_6:Int) (a1_7:Option Addr) (e1_7:List D) (c1_7:Nat) (a1_8:Option Addr) (e1_8:List D) (c1_8:Nat) (n2_0:Int) (s2_1 s2_2:ByteArray) (n2_3:Int) (x2_4 x2_5:D) (n2_6:Int) (a2_7:Option Addr) (e2_7:List D) (c2_7 m2_8 c2_8:Nat) (r3:List D) (q3:Nat) (N:Nat) (h :
(m2_8=r3.length/\c2_8=q3)/\∀ a,ApA a r3->∀ b,N<=b->vw b [a]->ACalls prog 182 [.int .i64] [.dg 9 (D.ag [D.lit (.int .i64 n2_0),D.lit (.string
 s2_1),D.lit (.string s2_2),D.lit (.int .i64 n2_3),x2_4,x2_5,D.lit (.int .i64 n2_6),D.sl a2_7 2 e2_7 c2_7,D.sl a 9 r3 c2_8])] b (fun n a=>b<=a ->
 y4 E Q N0 n1 n 0 a0_0 e0_0 c0_0 n0_1 n0_2 n1_0 s1_1 s1_2 n1_3 n1_4 a1_5 e1_5 c1_5 n1_6 a1_7 e1_7 c1_7 a1_8 e1_8 c1_8 n2_0 s2_1 s2_2 n2_3 x2_4 x2_5
 n2_6 a2_7 e2_7 c2_7 m2_8 c2_8 r3 q3 a)):wC E Q N0 n1 a0_0 e0_0 c0_0 n0_1 n0_2 n1_0 s1_1 s1_2 n1_3 n1_4 a1_5 e1_5 c1_5 n1_6 a1_7 e1_7 c1_7 a1_8 e1_8 c1_8 n2_0 s2_1 s2_2 n2_3 x2_4 x2_5 n2_6 a2_7 e2_7 c2_7 m2_8 c2_8 r3 q3 N:=
  s7 (H:=za) (by kernel_rfl) h
theorem pI (E:Env) (Q:QT [Sh.pk,(Sh.int IntKind.i64),Sh.str,Sh.str,(Sh.int IntKind.i64),Sh.dc,Sh.dc,Sh.dc,Sh.dc,(Sh.row (OfNat.ofNat 30) 9),(Sh.sl 0),(Sh.int IntKind.i64),(Sh.int IntKind.i64)]) (N0:Nat) (n1:Int) (a0_0:Option Addr) (e0_0:List D) (c0_0:Nat) (n0_1 n0_2 n1_0:Int) (s1_1 s1_2:ByteArray) (n1_3 n1_4:Int) (a1_5:Option Addr) (e1_5:List D) (c1_5:Nat) (n1_6:Int) (a1_7:Option Addr) (e1_7:List D) (c1_7:Nat) (a1_8:Option Addr) (e1_8:List D) (c1_8:Nat) (n2_0:Int) (s2_1 s2_2:ByteArray) (n2_3 n2_4:Int) (a2_5:Option Addr) (e2_5:List D) (c2_5:Nat) (x2_6 x2_7:D) (m2_8 c2_8:Nat) (r3:List D) (q3:Nat) (N:Nat) (h :
(m2_8=r3.length/\c2_8=q3)/\∀ a,ApA a r3->∀ b,N<=b->vw b [a]->ACalls prog 182 [.int .i64] [.dg 9 (D.ag [D.lit (.int .i64 n2_0),D.lit (.string
 s2_1),D.lit (.string s2_2),D.lit (.int .i64 n2_3),D.lit (.int .i64 n2_4),D.sl a2_5 2 e2_5 c2_5,x2_6,x2_7,D.sl a 9 r3 c2_8])] b (fun n a=>b<=a ->
 y8 E Q N0 n1 n 0 a0_0 e0_0 c0_0 n0_1 n0_2 n1_0 s1_1 s1_2 n1_3 n1_4 a1_5 e1_5 c1_5 n1_6 a1_7 e1_7 c1_7 a1_8 e1_8 c1_8 n2_0 s2_1 s2_2 n2_3 n2_4 a2_5
 e2_5 c2_5 x2_6 x2_7 m2_8 c2_8 r3 q3 a)):wX E Q N0 n1 a0_0 e0_0 c0_0 n0_1 n0_2 n1_0 s1_1 s1_2 n1_3 n1_4 a1_5 e1_5 c1_5 n1_6 a1_7 e1_7 c1_7 a1_8 e1_8 c1_8 n2_0 s2_1 s2_2 n2_3 n2_4 a2_5 e2_5 c2_5 x2_6 x2_7 m2_8 c2_8 r3 q3 N:=
  s7 (H:=za) (by kernel_rfl) h
theorem zAT (E:Env) (Q:QT [Sh.pk,(Sh.int IntKind.i64),Sh.str,Sh.str,(Sh.int IntKind.i64),Sh.dc,Sh.dc,Sh.dc,Sh.dc,(Sh.row (OfNat.ofNat 30) 9),(Sh.sl 0),(Sh.int IntKind.i64),(Sh.int IntKind.i64)]) (N0:Nat) (n1:Int) (a0_0:Option Addr) (e0_0:List D) (c0_0:Nat) (n0_1 n0_2 n1_0:Int) (s1_1 s1_2:ByteArray) (n1_3 n1_4:Int) (a1_5:Option Addr) (e1_5:List D) (c1_5:Nat) (n1_6:Int) (a1_7:Option Addr) (e1_7:List D) (c1_7:Nat) (a1_8:Option Addr) (e1_8:List D) (c1_8:Nat) (n2_0:Int) (s2_1 s2_2:ByteArray) (n2_3 n2_4:Int) (a2_5:Option Addr) (e2_5:List D) (c2_5:Nat) (n2_6:Int) (a2_7:Option Addr) (e2_7:List D) (c2_7 m2_8 c2_8:Nat) (r3:List D) (q3:Nat) (N:Nat) (h :
(m2_8=r3.length/\c2_8=q3)/\∀ a,ApA a r3->∀ b,N<=b->vw b [a]->ACalls prog 182 [.int .i64] [.dg 9 (D.ag [D.lit (.int .i64 n2_0),D.lit (.string
 s2_1),D.lit (.string s2_2),D.lit (.int .i64 n2_3),D.lit (.int .i64 n2_4),D.sl a2_5 2 e2_5 c2_5,D.lit (.int .i64 n2_6),D.sl a2_7 2 e2_7 c2_7,D.sl a 9 r3 c2_8])]
 b (fun n a=>b<=a->y6 E Q N0 n1 n 0 a0_0 e0_0 c0_0 n0_1 n0_2 n1_0 s1_1 s1_2 n1_3 n1_4 a1_5 e1_5 c1_5 n1_6 a1_7 e1_7 c1_7 a1_8 e1_8 c1_8
 n2_0 s2_1 s2_2 n2_3 n2_4 a2_5 e2_5 c2_5 n2_6 a2_7 e2_7 c2_7 m2_8 c2_8 r3 q3 a)):we E Q N0 n1 a0_0 e0_0 c0_0 n0_1 n0_2 n1_0 s1_1 s1_2 n1_3 n1_4 a1_5 e1_5 c1_5 n1_6 a1_7 e1_7 c1_7 a1_8 e1_8 c1_8 n2_0 s2_1 s2_2 n2_3 n2_4 a2_5 e2_5 c2_5 n2_6 a2_7 e2_7 c2_7 m2_8 c2_8 r3 q3 N:=
  s7 (H:=za) (by kernel_rfl) h
theorem s4 (E:Env) (Q:QT [Sh.pk,(Sh.int IntKind.i64),Sh.str,Sh.str,(Sh.int IntKind.i64),Sh.dc,Sh.dc,Sh.dc,Sh.dc,(Sh.row (OfNat.ofNat 30) 9),(Sh.sl 0),(Sh.int IntKind.i64),(Sh.int IntKind.i64)]) (N0:Nat) (n1 n6 n7:Int) (a0_0:Option Addr) (e0_0:List D) (c0_0:Nat) (n0_1 n0_2 n1_0:Int) (s1_1 s1_2:ByteArray) (n1_3 n1_4:Int) (a1_5:Option Addr) (e1_5:List D) (c1_5:Nat) (n1_6:Int) (a1_7:Option Addr) (e1_7:List D) (c1_7:Nat) (a1_8:Option Addr) (e1_8:List D) (c1_8:Nat) (n2_0:Int) (s2_1 s2_2:ByteArray) (n2_3:Int) (x2_4 x2_5 x2_6 x2_7:D) (m2_8 c2_8:Nat) (r3:List D) (q3:Nat) (N:Nat) (h :
Br (decide (n7<n6)) (∀ b,N<=b->BCalls prog 154 [Sh.pk,.int .i64,.str,.str,.int .i64,Sh.dc,Sh.dc,Sh.dc,Sh.dc,.row (OfNat.ofNat 30) 9,.sl 0,.int
 .i64,.int .i64] [.pb 0 0 0 0,.int .i64 (IntKind.i64.wrap (n1 - 1))] [Bx.var [.sv a0_0 0 e0_0 c0_0,.int .i64 n0_1,.int .i64 n0_2]] b (fun n s a c x d
 e f g h i j k l m o=>b<=o->Bel o (D.sl i 0 j k)->Bel o (D.ag g)->(g.length=g.length/\h=h)/\∀ b p,o<=p->Fresh
 N0 p b [D.ag g,x,d,e,f,x2_4,x2_5,x2_6,x2_7,D.ag r3]->(m2_8=r3.length/\c2_8=q3)/\zA r3 [D.ag [D.lit (.int .i64 n),D.lit (.string
 s),D.lit (.string a),D.lit (.int .i64 c),x,d,e,f,D.sl b 9 g h]] 136/\∀ (o:Nat),wM E Q N0 n1 n6 (IntKind.i64.wrap (n7+1))
 i j k l m n1_0 s1_1 s1_2 n1_3 n1_4 a1_5 e1_5 c1_5 n1_6 a1_7 e1_7 c1_7 a1_8 e1_8 c1_8 n2_0 s2_1 s2_2 n2_3 x2_4 x2_5 x2_6 x2_7 (r3++[D.ag [D.lit (.int .i64
 n),D.lit (.string s),D.lit (.string a),D.lit (.int .i64 c),x,d,e,f,D.sl b 9 g h]]).length o (r3++[D.ag [D.lit (.int .i64 n),D.lit (.string
 s),D.lit (.string a),D.lit (.int .i64 c),x,d,e,f,D.sl b 9 g h]]) o p)) (wh E [.var [.sv none 0 [] 0,.int .i64 0,.int .i64 0]]/\(m2_8
 = r3.length/\c2_8=q3)/\∀ a,N<=a->Q n2_0 s2_1 s2_2 n2_3 x2_4 x2_5 x2_6 x2_7 r3 c2_8 a0_0 e0_0 c0_0 n0_1 n0_2 a)):wM E Q N0 n1 n6 n7 a0_0 e0_0 c0_0 n0_1 n0_2 n1_0 s1_1 s1_2 n1_3 n1_4 a1_5 e1_5 c1_5 n1_6 a1_7 e1_7 c1_7 a1_8 e1_8 c1_8 n2_0 s2_1 s2_2 n2_3 x2_4 x2_5 x2_6 x2_7 m2_8 c2_8 r3 q3 N:=
  s7 (H:=za) (by kernel_rfl) h
theorem uV (E:Env) (Q:QT [Sh.pk,(Sh.int IntKind.i64),Sh.str,Sh.str,(Sh.int IntKind.i64),Sh.dc,Sh.dc,Sh.dc,Sh.dc,(Sh.row (OfNat.ofNat 30) 9),(Sh.sl 0),(Sh.int IntKind.i64),(Sh.int IntKind.i64)]) (N0:Nat) (n1 n6 n7:Int) (a0_0:Option Addr) (e0_0:List D) (c0_0:Nat) (n0_1 n0_2 n1_0:Int) (s1_1 s1_2:ByteArray) (n1_3 n1_4:Int) (a1_5:Option Addr) (e1_5:List D) (c1_5:Nat) (n1_6:Int) (a1_7:Option Addr) (e1_7:List D) (c1_7:Nat) (a1_8:Option Addr) (e1_8:List D) (c1_8:Nat) (n2_0:Int) (s2_1 s2_2:ByteArray) (n2_3:Int) (x2_4 x2_5:D) (n2_6:Int) (a2_7:Option Addr) (e2_7:List D) (c2_7 m2_8 c2_8:Nat) (r3:List D) (q3:Nat) (N:Nat) (h :
Br (decide (n7<n6)) (∀ b,N<=b->BCalls prog 154 [Sh.pk,.int .i64,.str,.str,.int .i64,Sh.dc,Sh.dc,Sh.dc,Sh.dc,.row (OfNat.ofNat 30) 9,.sl 0,.int
 .i64,.int .i64] [.pb 0 0 0 0,.int .i64 (IntKind.i64.wrap (n1 - 1))] [Bx.var [.sv a0_0 0 e0_0 c0_0,.int .i64 n0_1,.int .i64 n0_2]] b (fun n s a c x d
 e f g h i j k l m o=>b<=o->Bel o (D.sl i 0 j k)->Bel o (D.ag g)->(g.length=g.length/\h=h)/\∀ b p,o<=p->Fresh
 N0 p b [D.ag g,x,d,e,f,x2_4,x2_5,D.sl a2_7 2 e2_7 c2_7,D.ag r3]->(m2_8=r3.length/\c2_8=q3)/\zA r3 [D.ag [D.lit (.int .i64 n),D.lit
 (.string s),D.lit (.string a),D.lit (.int .i64 c),x,d,e,f,D.sl b 9 g h]] 136/\∀ (o:Nat),y4 E Q N0 n1 n6 (IntKind.i64.wrap
 (n7+1)) i j k l m n1_0 s1_1 s1_2 n1_3 n1_4 a1_5 e1_5 c1_5 n1_6 a1_7 e1_7 c1_7 a1_8 e1_8 c1_8 n2_0 s2_1 s2_2 n2_3 x2_4 x2_5 n2_6 a2_7 e2_7 c2_7 (r3 ++
 [D.ag [D.lit (.int .i64 n),D.lit (.string s),D.lit (.string a),D.lit (.int .i64 c),x,d,e,f,D.sl b 9 g h]]).length o (r3++[D.ag [D.lit (.int
 .i64 n),D.lit (.string s),D.lit (.string a),D.lit (.int .i64 c),x,d,e,f,D.sl b 9 g h]]) o p)) (wh E [.var [.sv none 0 [] 0,.int .i64
 0,.int .i64 0]]/\(m2_8=r3.length/\c2_8=q3)/\∀ a,N<=a->Q n2_0 s2_1 s2_2 n2_3 x2_4 x2_5 (D.lit (.int .i64 n2_6)) (D.sl a2_7 2 e2_7 c2_7) r3 c2_8 a0_0
 e0_0 c0_0 n0_1 n0_2 a)):y4 E Q N0 n1 n6 n7 a0_0 e0_0 c0_0 n0_1 n0_2 n1_0 s1_1 s1_2 n1_3 n1_4 a1_5 e1_5 c1_5 n1_6 a1_7 e1_7 c1_7 a1_8 e1_8 c1_8 n2_0 s2_1 s2_2 n2_3 x2_4 x2_5 n2_6 a2_7 e2_7 c2_7 m2_8 c2_8 r3 q3 N:=
  s7 (H:=za) (by kernel_rfl) h
theorem ue (E:Env) (Q:QT [Sh.pk,(Sh.int IntKind.i64),Sh.str,Sh.str,(Sh.int IntKind.i64),Sh.dc,Sh.dc,Sh.dc,Sh.dc,(Sh.row (OfNat.ofNat 30) 9),(Sh.sl 0),(Sh.int IntKind.i64),(Sh.int IntKind.i64)]) (N0:Nat) (n1 n6 n7:Int) (a0_0:Option Addr) (e0_0:List D) (c0_0:Nat) (n0_1 n0_2 n1_0:Int) (s1_1 s1_2:ByteArray) (n1_3 n1_4:Int) (a1_5:Option Addr) (e1_5:List D) (c1_5:Nat) (n1_6:Int) (a1_7:Option Addr) (e1_7:List D) (c1_7:Nat) (a1_8:Option Addr) (e1_8:List D) (c1_8:Nat) (n2_0:Int) (s2_1 s2_2:ByteArray) (n2_3 n2_4:Int) (a2_5:Option Addr) (e2_5:List D) (c2_5:Nat) (x2_6 x2_7:D) (m2_8 c2_8:Nat) (r3:List D) (q3:Nat) (N:Nat) (h :
Br (decide (n7<n6)) (∀ b,N<=b->BCalls prog 154 [Sh.pk,.int .i64,.str,.str,.int .i64,Sh.dc,Sh.dc,Sh.dc,Sh.dc,.row (OfNat.ofNat 30) 9,.sl 0,.int
 .i64,.int .i64] [.pb 0 0 0 0,.int .i64 (IntKind.i64.wrap (n1 - 1))] [Bx.var [.sv a0_0 0 e0_0 c0_0,.int .i64 n0_1,.int .i64 n0_2]] b (fun n s a c x d
 e f g h i j k l m o=>b<=o->Bel o (D.sl i 0 j k)->Bel o (D.ag g)->(g.length=g.length/\h=h)/\∀ b p,o<=p->Fresh
 N0 p b [D.ag g,x,d,e,f,D.sl a2_5 2 e2_5 c2_5,x2_6,x2_7,D.ag r3]->(m2_8=r3.length/\c2_8=q3)/\zA r3 [D.ag [D.lit (.int .i64 n),D.lit
 (.string s),D.lit (.string a),D.lit (.int .i64 c),x,d,e,f,D.sl b 9 g h]] 136/\∀ (o:Nat),y8 E Q N0 n1 n6 (IntKind.i64.wrap
 (n7+1)) i j k l m n1_0 s1_1 s1_2 n1_3 n1_4 a1_5 e1_5 c1_5 n1_6 a1_7 e1_7 c1_7 a1_8 e1_8 c1_8 n2_0 s2_1 s2_2 n2_3 n2_4 a2_5 e2_5 c2_5 x2_6 x2_7 (r3 ++
 [D.ag [D.lit (.int .i64 n),D.lit (.string s),D.lit (.string a),D.lit (.int .i64 c),x,d,e,f,D.sl b 9 g h]]).length o (r3++[D.ag [D.lit (.int
 .i64 n),D.lit (.string s),D.lit (.string a),D.lit (.int .i64 c),x,d,e,f,D.sl b 9 g h]]) o p)) (wh E [.var [.sv none 0 [] 0,.int .i64
 0,.int .i64 0]]/\(m2_8=r3.length/\c2_8=q3)/\∀ a,N<=a->Q n2_0 s2_1 s2_2 n2_3 (D.lit (.int .i64 n2_4)) (D.sl a2_5 2 e2_5 c2_5) x2_6 x2_7 r3 c2_8 a0_0
 e0_0 c0_0 n0_1 n0_2 a)):y8 E Q N0 n1 n6 n7 a0_0 e0_0 c0_0 n0_1 n0_2 n1_0 s1_1 s1_2 n1_3 n1_4 a1_5 e1_5 c1_5 n1_6 a1_7 e1_7 c1_7 a1_8 e1_8 c1_8 n2_0 s2_1 s2_2 n2_3 n2_4 a2_5 e2_5 c2_5 x2_6 x2_7 m2_8 c2_8 r3 q3 N:=
  s7 (H:=za) (by kernel_rfl) h
theorem uQ (E:Env) (Q:QT [Sh.pk,(Sh.int IntKind.i64),Sh.str,Sh.str,(Sh.int IntKind.i64),Sh.dc,Sh.dc,Sh.dc,Sh.dc,(Sh.row (OfNat.ofNat 30) 9),(Sh.sl 0),(Sh.int IntKind.i64),(Sh.int IntKind.i64)]) (N0:Nat) (n1 n6 n7:Int) (a0_0:Option Addr) (e0_0:List D) (c0_0:Nat) (n0_1 n0_2 n1_0:Int) (s1_1 s1_2:ByteArray) (n1_3 n1_4:Int) (a1_5:Option Addr) (e1_5:List D) (c1_5:Nat) (n1_6:Int) (a1_7:Option Addr) (e1_7:List D) (c1_7:Nat) (a1_8:Option Addr) (e1_8:List D) (c1_8:Nat) (n2_0:Int) (s2_1 s2_2:ByteArray) (n2_3 n2_4:Int) (a2_5:Option Addr) (e2_5:List D) (c2_5:Nat) (n2_6:Int) (a2_7:Option Addr) (e2_7:List D) (c2_7 m2_8 c2_8:Nat) (r3:List D) (q3:Nat) (N:Nat) (h :
Br (decide (n7<n6)) (∀ b,N<=b->BCalls prog 154 [Sh.pk,.int .i64,.str,.str,.int .i64,Sh.dc,Sh.dc,Sh.dc,Sh.dc,.row (OfNat.ofNat 30) 9,.sl 0,.int
 .i64,.int .i64] [.pb 0 0 0 0,.int .i64 (IntKind.i64.wrap (n1 - 1))] [Bx.var [.sv a0_0 0 e0_0 c0_0,.int .i64 n0_1,.int .i64 n0_2]] b (fun n s a c x d
 e f g h i j k l m o=>b<=o->Bel o (D.sl i 0 j k)->Bel o (D.ag g)->(g.length=g.length/\h=h)/\∀ b p,o<=p->Fresh
 N0 p b [D.ag g,x,d,e,f,D.sl a2_5 2 e2_5 c2_5,D.sl a2_7 2 e2_7 c2_7,D.ag r3]->(m2_8=r3.length/\c2_8=q3)/\zA r3 [D.ag [D.lit (.int .i64
 n),D.lit (.string s),D.lit (.string a),D.lit (.int .i64 c),x,d,e,f,D.sl b 9 g h]] 136/\∀ (o:Nat),y6 E Q N0 n1 n6 (IntKind.i64.wrap
 (n7+1)) i j k l m n1_0 s1_1 s1_2 n1_3 n1_4 a1_5 e1_5 c1_5 n1_6 a1_7 e1_7 c1_7 a1_8 e1_8 c1_8 n2_0 s2_1 s2_2 n2_3 n2_4 a2_5 e2_5 c2_5 n2_6 a2_7 e2_7 c2_7
 (r3++[D.ag [D.lit (.int .i64 n),D.lit (.string s),D.lit (.string a),D.lit (.int .i64 c),x,d,e,f,D.sl b 9 g h]]).length o (r3++[D.ag [D.lit
 (.int .i64 n),D.lit (.string s),D.lit (.string a),D.lit (.int .i64 c),x,d,e,f,D.sl b 9 g h]]) o p)) (wh E [.var [.sv none 0 [] 0,.int
 .i64 0,.int .i64 0]]/\(m2_8=r3.length/\c2_8=q3)/\∀ a,N<=a->Q n2_0 s2_1 s2_2 n2_3 (D.lit (.int .i64 n2_4)) (D.sl a2_5 2 e2_5 c2_5) (D.lit (.int .i64
 n2_6)) (D.sl a2_7 2 e2_7 c2_7) r3 c2_8 a0_0 e0_0 c0_0 n0_1 n0_2 a)):y6 E Q N0 n1 n6 n7 a0_0 e0_0 c0_0 n0_1 n0_2 n1_0 s1_1 s1_2 n1_3 n1_4 a1_5 e1_5 c1_5 n1_6 a1_7 e1_7 c1_7 a1_8 e1_8 c1_8 n2_0 s2_1 s2_2 n2_3 n2_4 a2_5 e2_5 c2_5 n2_6 a2_7 e2_7 c2_7 m2_8 c2_8 r3 q3 N:=
  s7 (H:=za) (by kernel_rfl) h
end Go.Proofs.YtkdjhkfiolhkiaaGreat
