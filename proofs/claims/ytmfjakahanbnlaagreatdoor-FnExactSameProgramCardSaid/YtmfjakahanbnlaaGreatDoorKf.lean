/- Printed by gen.py: what the functions come to. -/
import Derived.Test.YtmfjakahanbnlaaGreatDoorJh
set_option linter.unusedVariables false
set_option maxRecDepth 100000
namespace Go.Proofs.YtmfjakahanbnlaaGreatDoor
open Go Go.Proofs Go.Proofs.Tryz
def ur:Hint:=⟨[hc 1 [0]],[],[]⟩
def ut:Hint:=⟨[hc 2 [0,1,2,7]],[],[]⟩
def xq:Hint:=⟨[hc 7 [0,2,3,5,8,9,10,11,12,13] [(12,9,0)],hc 15 [0,2,3,5,8,9,10,11,12,14]],[],[(1,[en 0,en 1,en 2,en 3,en 4,en 5,en 6,en 7,en 8,en 9,en 11,en 12,en 15,eh 10,eh 13,en 14,eh 16]),(3,hs 7 [ec 4 [35,36]]),(14,hs 1 [ec 0 [12]]),(22,[en 0,en 1,en 2,en 3,en 4,en 5,en 6,en 7,en 8,en 9,ec 10 [102,103],en 11,eh 12,en 13,eh 14])]⟩
def rQ:Hint:=⟨[],[],[(1,[en 0,en 4,en 5,en 6,eh 1,en 2,en 3,ec 7 [8,9],eh 8])]⟩
def vz:Hint:=⟨[],[],[]⟩
def yH:Hint:=⟨[hc 11 [0,2,4,6,11,12,13,43,44,45] [(13,9,0)],hc 18 [0,2,6,11,12,13,16,66,67,68]],[],[(2,hs 4 [ec 1 [22]]),(7,hs 7 [ec 1 [36]]),(14,hs 9 [em 8 none [0,2,4,6,11,13,43,44,45] (some 12)]),(16,hs 4 [ec 1 [63]]),(21,[en 0,en 1,en 2,en 3,en 4,en 5,eh 6,en 7,eh 8]),(22,[en 0,en 1,en 2,en 3,en 4,en 5,eh 6,en 7,eh 8])]⟩
def ra:Hint:=⟨[],[],[(1,hs 6 [ec 1 [4]]),(2,hs 5 [em 2 none [2,9,10]])]⟩
def th:Hint:=⟨[],[],[(1,[en 0,ec 1 [5],en 2,en 3,ec 4 [8],en 5,en 6,en 7,en 9,ec 8 [12],ec 10 [14],ec 11 [13,15],en 12,en 13])]⟩
def sA:Hint:=⟨[],[],[(1,[en 0,ec 1 [5],en 2,en 3,ec 4 [8],en 5,en 6,en 7,en 9,ec 8 [12],ec 10 [14],ec 11 [13,15],en 12,en 13])]⟩
def yr (Q:QT [.str]) (N0:Nat) (a0:Option Addr) (e0:List D) (c0:Nat) (a1:Option Addr) (e1:List D) (c1:Nat) (s2:ByteArray) (n7:Int) (N:Nat):Prop:=AT prog 171 [.str] Q N0 .ord (zF prog 171 2) ⟨.sv a0 0 e0 c0::.sv a1 0 e1 c1::.str s2::an 4 (.int .i64 n7::an 18 []),[],N,none⟩
def z6 (E:Env) (Q:QT [(Sh.ag 9),(Sh.sl 0),(Sh.int IntKind.i64)]) (N0:Nat) (a2:Option Addr) (e2:List D) (c2:Nat) (a3:Option Addr) (e3:List D) (c3:Nat) (a10:Option Addr) (e10:List D) (c10:Nat) (n11:Int) (m12 c12:Nat) (n13:Int) (a0_0:Option Addr) (e0_0:List D) (c0_0:Nat) (n0_1:Int) (y1:D) (n2_0:Int) (s2_1 s2_2:ByteArray) (n2_3 n2_4:Int) (a2_5:Option Addr) (e2_5:List D) (c2_5:Nat) (n2_6:Int) (a2_7:Option Addr) (e2_7:List D) (c2_7:Nat) (a2_8:Option Addr) (e2_8:List D) (c2_8:Nat) (n3_0:Int) (s3_1 s3_2:ByteArray) (n3_3:Int) (x3_4 x3_5 x3_6 x3_7:D) (a3_8:Option Addr) (e3_8:List D) (c3_8:Nat) (r4:List D) (q4:Nat) (N:Nat):Prop:=AT prog 108 [(Sh.ag 9),(Sh.sl 0),(Sh.int IntKind.i64)] Q N0 (.io E [.var [.sv none 0 [] 0,.int .i64 0]]) (zF prog 108 7) ⟨.pb 0 0 0 0::an 1 (.sv a2 0 e2 c2::.sv a3 0 e3 c3::an 1 (.pb 1 0 0 0::an 2 (.pb 2 0 0 0::.pb 3 0 0 0::.sv a10 0 e10 c10::.int .i64 n11::.sb 4 0 0 m12 c12::.int .i64 n13::an 95 []))),[.var [.sv a0_0 0 e0_0 c0_0,.int .i64 n0_1],.vd y1 9,.var [.int .i64 n2_0,.str s2_1,.str s2_2,.int .i64 n2_3,.int .i64 n2_4,.sv a2_5 2 e2_5 c2_5,.int .i64 n2_6,.sv a2_7 2 e2_7 c2_7,.sv a2_8 9 e2_8 c2_8],.var [.int .i64 n3_0,.str s3_1,.str s3_2,.int .i64 n3_3,.dc x3_4,.dc x3_5,.dc x3_6,.dc x3_7,.sv a3_8 9 e3_8 c3_8],.arr 9 0 r4 q4],N,some (xp E 0 [.var [.sv none 0 [] 0,.int .i64 0]],[])⟩
def zZ (E:Env) (Q:QT [(Sh.ag 9),(Sh.sl 0)]) (N0:Nat) (x2:D) (n11:Int) (x12:D) (m13 c13:Nat) (a43:Option Addr) (e43:List D) (c43:Nat) (n44 n45:Int) (m0_0 c0_0:Nat) (r1:List D) (q1:Nat) (y2:D) (n3_0:Int) (s3_1 s3_2:ByteArray) (n3_3 n3_4:Int) (a3_5:Option Addr) (e3_5:List D) (c3_5:Nat) (n3_6:Int) (a3_7:Option Addr) (e3_7:List D) (c3_7:Nat) (a3_8:Option Addr) (e3_8:List D) (c3_8:Nat) (r4:List D) (q4:Nat) (N:Nat):Prop:=AT prog 117 [(Sh.ag 9),(Sh.sl 0)] Q N0 (.io E [.var [.sb 1 0 0 0 0],.arr 9 0 [] 0]) (zF prog 117 11) ⟨.pb 0 0 0 0::an 1 (.dc x2::an 1 (.pb 2 0 0 0::an 1 (.pb 3 0 0 0::an 4 (.int .i64 n11::.dc x12::.sb 4 0 0 m13 c13::an 29 (.sv a43 0 e43 c43::.int .i64 n44::.int .i64 n45::an 62 []))))),[.var [.sb 1 0 0 m0_0 c0_0],.arr 9 0 r1 q1,.vd y2 9,.var [.int .i64 n3_0,.str s3_1,.str s3_2,.int .i64 n3_3,.int .i64 n3_4,.sv a3_5 2 e3_5 c3_5,.int .i64 n3_6,.sv a3_7 2 e3_7 c3_7,.sv a3_8 9 e3_8 c3_8],.arr 9 0 r4 q4],N,some (xp E 0 [.var [.sb 1 0 0 0 0],.arr 9 0 [] 0],[])⟩
def zf (E:Env) (Q:QT [(Sh.ag 9),(Sh.sl 0),(Sh.int IntKind.i64)]) (N0:Nat) (a2:Option Addr) (e2:List D) (c2:Nat) (a3:Option Addr) (e3:List D) (c3:Nat) (a10:Option Addr) (e10:List D) (c10:Nat) (n11:Int) (a12:Option Addr) (e12:List D) (c12:Nat) (n14:Int) (a0_0:Option Addr) (e0_0:List D) (c0_0:Nat) (n0_1:Int) (y1:D) (n2_0:Int) (s2_1 s2_2:ByteArray) (n2_3 n2_4:Int) (a2_5:Option Addr) (e2_5:List D) (c2_5:Nat) (n2_6:Int) (a2_7:Option Addr) (e2_7:List D) (c2_7:Nat) (a2_8:Option Addr) (e2_8:List D) (c2_8:Nat) (n3_0:Int) (s3_1 s3_2:ByteArray) (n3_3:Int) (x3_4 x3_5 x3_6 x3_7:D) (a3_8:Option Addr) (e3_8:List D) (c3_8:Nat) (N:Nat):Prop:=AT prog 108 [(Sh.ag 9),(Sh.sl 0),(Sh.int IntKind.i64)] Q N0 (.io E [.var [.sv none 0 [] 0,.int .i64 0]]) (zF prog 108 15) ⟨.pb 0 0 0 0::an 1 (.sv a2 0 e2 c2::.sv a3 0 e3 c3::an 1 (.pb 1 0 0 0::an 2 (.pb 2 0 0 0::.pb 3 0 0 0::.sv a10 0 e10 c10::.int .i64 n11::.sv a12 0 e12 c12::an 1 (.int .i64 n14::an 94 [])))),[.var [.sv a0_0 0 e0_0 c0_0,.int .i64 n0_1],.vd y1 9,.var [.int .i64 n2_0,.str s2_1,.str s2_2,.int .i64 n2_3,.int .i64 n2_4,.sv a2_5 2 e2_5 c2_5,.int .i64 n2_6,.sv a2_7 2 e2_7 c2_7,.sv a2_8 9 e2_8 c2_8],.var [.int .i64 n3_0,.str s3_1,.str s3_2,.int .i64 n3_3,.dc x3_4,.dc x3_5,.dc x3_6,.dc x3_7,.sv a3_8 9 e3_8 c3_8]],N,some (xp E 0 [.var [.sv none 0 [] 0,.int .i64 0]],[])⟩
def zE (E:Env) (Q:QT [(Sh.ag 9),(Sh.sl 0)]) (N0:Nat) (x2:D) (n11:Int) (x12:D) (m13 c13:Nat) (a66:Option Addr) (e66:List D) (c66:Nat) (n67 n68:Int) (m0_0 c0_0:Nat) (r1:List D) (q1:Nat) (n2_0:Int) (s2_1 s2_2:ByteArray) (n2_3 n2_4:Int) (a2_5:Option Addr) (e2_5:List D) (c2_5:Nat) (n2_6:Int) (a2_7:Option Addr) (e2_7:List D) (c2_7:Nat) (a2_8:Option Addr) (e2_8:List D) (c2_8:Nat) (r3:List D) (q3:Nat) (n4_0:Int) (s4_1 s4_2:ByteArray) (n4_3:Int) (x4_4 x4_5 x4_6 x4_7:D) (m4_8 c4_8:Nat) (r5:List D) (q5:Nat) (N:Nat):Prop:=AT prog 117 [(Sh.ag 9),(Sh.sl 0)] Q N0 (.io E [.var [.sb 1 0 0 0 0],.arr 9 0 [] 0]) (zF prog 117 18) ⟨.pb 0 0 0 0::an 1 (.dc x2::an 3 (.pb 2 0 0 0::an 4 (.int .i64 n11::.dc x12::.sb 3 0 0 m13 c13::an 2 (.pb 4 0 0 0::an 49 (.sv a66 9 e66 c66::.int .i64 n67::.int .i64 n68::an 39 []))))),[.var [.sb 1 0 0 m0_0 c0_0],.arr 9 0 r1 q1,.var [.int .i64 n2_0,.str s2_1,.str s2_2,.int .i64 n2_3,.int .i64 n2_4,.sv a2_5 2 e2_5 c2_5,.int .i64 n2_6,.sv a2_7 2 e2_7 c2_7,.sv a2_8 9 e2_8 c2_8],.arr 9 0 r3 q3,.var [.int .i64 n4_0,.str s4_1,.str s4_2,.int .i64 n4_3,.dc x4_4,.dc x4_5,.dc x4_6,.dc x4_7,.sb 5 9 0 m4_8 c4_8],.arr 35 9 r5 q5],N,some (xp E 0 [.var [.sb 1 0 0 0 0],.arr 9 0 [] 0],[])⟩
def yo (E:Env) (Q:QT [Sh.str,(Sh.sl 0),(Sh.int IntKind.i64)]) (N0:Nat) (a0_0:Option Addr) (e0_0:List D) (c0_0:Nat) (n0_1:Int) (N:Nat):Prop:=AT prog 173 [Sh.str,(Sh.sl 0),(Sh.int IntKind.i64)] Q N0 (.io E [.var [.sv none 0 [] 0,.int .i64 0]]) (zF prog 173 1) ⟨.pb 0 0 0 0::an 25 [],[.var [.sv a0_0 0 e0_0 c0_0,.int .i64 n0_1]],N,some (xp E 0 [.var [.sv none 0 [] 0,.int .i64 0]],[])⟩
def zN (E:Env) (Q:QT [(Sh.ag 9),(Sh.sl 0),(Sh.int IntKind.i64)]) (N0:Nat) (a2:Option Addr) (e2:List D) (c2:Nat) (a3:Option Addr) (e3:List D) (c3:Nat) (a10:Option Addr) (e10:List D) (c10:Nat) (n11:Int) (a12:Option Addr) (e12:List D) (c12:Nat) (n14:Int) (a0_0:Option Addr) (e0_0:List D) (c0_0:Nat) (n0_1:Int) (y1:D) (n2_0:Int) (s2_1 s2_2:ByteArray) (n2_3 n2_4:Int) (a2_5:Option Addr) (e2_5:List D) (c2_5:Nat) (n2_6:Int) (a2_7:Option Addr) (e2_7:List D) (c2_7:Nat) (a2_8:Option Addr) (e2_8:List D) (c2_8:Nat) (n3_0:Int) (s3_1 s3_2:ByteArray) (n3_3:Int) (x3_4 x3_5 x3_6 x3_7:D) (m3_8 c3_8:Nat) (r4:List D) (q4:Nat) (N:Nat):Prop:=AT prog 108 [(Sh.ag 9),(Sh.sl 0),(Sh.int IntKind.i64)] Q N0 (.io E [.var [.sv none 0 [] 0,.int .i64 0]]) (zF prog 108 15) ⟨.pb 0 0 0 0::an 1 (.sv a2 0 e2 c2::.sv a3 0 e3 c3::an 1 (.pb 1 0 0 0::an 2 (.pb 2 0 0 0::.pb 3 0 0 0::.sv a10 0 e10 c10::.int .i64 n11::.sv a12 0 e12 c12::an 1 (.int .i64 n14::an 94 [])))),[.var [.sv a0_0 0 e0_0 c0_0,.int .i64 n0_1],.vd y1 9,.var [.int .i64 n2_0,.str s2_1,.str s2_2,.int .i64 n2_3,.int .i64 n2_4,.sv a2_5 2 e2_5 c2_5,.int .i64 n2_6,.sv a2_7 2 e2_7 c2_7,.sv a2_8 9 e2_8 c2_8],.var [.int .i64 n3_0,.str s3_1,.str s3_2,.int .i64 n3_3,.dc x3_4,.dc x3_5,.dc x3_6,.dc x3_7,.sb 4 9 0 m3_8 c3_8],.arr 35 9 r4 q4],N,some (xp E 0 [.var [.sv none 0 [] 0,.int .i64 0]],[])⟩
theorem pM (N:Nat) (a0:Option Addr) (e0:List D) (c0:Nat) (a1:Option Addr) (e1:List D) (c1:Nat) (s2:ByteArray) (Q:QT [.str]) (h :
Bel N (D.sl a0 0 e0 c0)→Bel N (D.sl a1 0 e1 c1)→yr Q N a0 e0 c0 a1 e1 c1 s2 (IntKind.i64.wrap ((e0.length:Int) - 1)) N):ACalls prog 171 [.str] [PV.sv a0 0 e0 c0,PV.sv a1 0 e1 c1,PV.str s2] N Q:=
 eE (H:=ut) (by kernel_rfl) (by kernel_rfl) h
theorem rd (N:Nat) (x0:D) (Q:QT [.ag 9]) (h :
Bel N x0→∀ b,N≤b→ACalls prog 109 [.sl 0] [.dg 9 x0] b (fun a c d e=>b≤e→Bel e (D.sl a 0 c d)→(0=0∧0=0)∧∀ b f,e≤f
 → Fresh N f b [D.ag []]→(0=0∧0=0)∧∀ e g,f≤g→Fresh N g e [D.ag []]→∀ f,g≤f→BCalls prog 108 [.ag 9,.sl 0,.int .i64] [.pb
 0 0 0 0,.dg 9 x0,.sv b 0 [] 0,.sv e 0 [] 0] [Bx.var [.sv a 0 c d,.int .i64 0]] f (fun x a b c _ d=>f≤d→Bel d x→Bel d (D.sl a
 0 b c)→∀ a,d≤a→Q x a))):ACalls prog 47 [.ag 9] [PV.dg 9 x0] N Q:=
  eE (H:=rQ) (by kernel_rfl) (by kernel_rfl) h
theorem rJ (N:Nat) (x0:D) (Q:QT [.ag 9]) (h :
Bel N x0→∀ d,N≤d→ACalls prog 116 [.row (OfNat.ofNat 9) 0] [.dg 9 x0] d (fun c e f=>d≤f→Bel f (D.ag c)→(c.length=c.length∧e =
 e)∧∀ a,ApA a c→∀ d,f≤d→zAN d [a]→ACalls prog 115 [.row (OfNat.ofNat 9) 0] [.sv a 0 c e] d (fun c e f=>d≤f→Off [a] (D.ag
 c)∧(Bel f (D.ag c)→∀ (b:Nat) a,f≤b→b<a→∀ d,a≤d→BCalls prog 117 [.ag 9,.sl 0] [.pb 0 0 0 0,.dg 9 x0,.dc (D.mp b (List.toArray
 []) 0)] [Bx.var [.sb 1 0 0 c.length e],Bx.arr 9 0 c e] d (fun x a b c e=>d≤e→Bel e x→Bel e (D.sl a 0 b c)→∀ a,e
 ≤ a→Q x a))))):ACalls prog 52 [.ag 9] [PV.dg 9 x0] N Q:=
  eE (H:=ra) (by kernel_rfl) (by kernel_rfl) h
theorem tI (N:Nat) (x0 x1:D) (Q:QT [.bool]) (h :
Bel N x0→Bel N x1→∀ a,N≤a→ACalls prog 46 [.bool] [.dg 9 x0] a (fun b c=>a≤c→Br b (∀ a,c≤a→ACalls prog 46 [.bool] [.dg 9 x1]
 a (fun b c=>a≤c→Br b (∀ a,c≤a→ACalls prog 47 [.ag 9] [.dg 9 x0] a (fun x b=>a≤b→Bel b x→∀ a,b≤a→ACalls
 prog 47 [.ag 9] [.dg 9 x1] a (fun b c=>a≤c→Bel c b→∀ a,c≤a→ACalls prog 41 [.bool] [.dg 9 x,.dg 9 b] a (fun b c=>a
 ≤ c→∀ a,c≤a→Q b a)))) (∀ a,c≤a→Q false a))) (∀ a,c≤a→Q false a))):ACalls prog 9 [.bool] [PV.dg 9 x0,PV.dg 9 x1] N Q:=
  eE (H:=th) (by kernel_rfl) (by kernel_rfl) h
theorem te (N:Nat) (x0 x1:D) (Q:QT [.bool]) (h :
Bel N x0→Bel N x1→∀ a,N≤a→ACalls prog 50 [.bool] [.dg 9 x0] a (fun b c=>a≤c→Br b (∀ a,c≤a→ACalls prog 50 [.bool] [.dg 9 x1]
 a (fun b c=>a≤c→Br b (∀ a,c≤a→ACalls prog 52 [.ag 9] [.dg 9 x0] a (fun x b=>a≤b→Bel b x→∀ a,b≤a→ACalls
 prog 52 [.ag 9] [.dg 9 x1] a (fun b c=>a≤c→Bel c b→∀ a,c≤a→ACalls prog 51 [.bool] [.dg 9 x,.dg 9 b] a (fun b c=>a
 ≤ c→∀ a,c≤a→Q b a)))) (∀ a,c≤a→Q false a))) (∀ a,c≤a→Q false a))):ACalls prog 11 [.bool] [PV.dg 9 x0,PV.dg 9 x1] N Q:=
  eE (H:=sA) (by kernel_rfl) (by kernel_rfl) h
theorem vQ (Q:QT [.str]) (N0:Nat) (a0:Option Addr) (e0:List D) (c0:Nat) (a1:Option Addr) (e1:List D) (c1:Nat) (s2:ByteArray) (n7:Int) (N:Nat) (h :
Br (decide (n7≥0)) ((0≤n7∧n7<(e0.length:Int))∧∃ s,List.getD e0 n7.toNat default=D.lit (.string s)∧Br (ByteArray.toList s==ByteArray.toList s2)
 ((0≤n7∧n7<(e1.length:Int))∧∃ a,List.getD e1 n7.toNat default=D.lit (.string a)∧∀ b,N≤b→Q a b) (yr Q N0 a0 e0 c0 a1
 e1 c1 s2 (IntKind.i64.wrap (n7 - 1)) N)) (∀ a,N≤a→Q s2 a)):yr Q N0 a0 e0 c0 a1 e1 c1 s2 n7 N:=
  hE (H:=ut) (by kernel_rfl) h
theorem rN (N:Nat) (x1:D) (a2:Option Addr) (e2:List D) (c2:Nat) (a3:Option Addr) (e3:List D) (c3:Nat) (aB0_0:Option Addr) (eB0_0:List D) (cB0_0:Nat) (nB0_1:Int) (Q:QT [(Sh.ag 9),(Sh.sl 0),(Sh.int IntKind.i64)]) (h:∀ E:Env,
Bel N x1→Bel N (D.sl a2 0 e2 c2)→Bel N (D.sl a3 0 e3 c3)→Bel N (D.sl aB0_0 0 eB0_0 cB0_0)→∃ n:Int,(x1.cell 0)=D.lit (.int .i64 n)∧∃ s,(x1.cell 1)
 = D.lit (.string s)∧∃ b,(x1.cell 2)=D.lit (.string b)∧∃ d:Int,(x1.cell 3)=D.lit (.int .i64 d)∧∀ e,N≤e→ACalls prog 141 [.ag 2] [.dg
 2 (D.sub x1 4 2)] e (fun x f=>e≤f→Bel f x→∀ e,f≤e→ACalls prog 141 [.ag 2] [.dg 2 (D.sub x1 6 2)] e (fun f g=>e≤g→Bel
 g f→∃ e:Int,(x1.cell 0)=D.lit (.int .i64 e)∧Br (e==1) (∃ e,(x1.cell 1)=D.lit (.string e)∧∀ h,g≤h→ACalls prog 171 [.str]
 [.sv a2 0 e2 c2,.sv a3 0 e3 c3,.str e] h (fun e g=>h≤g→∀ h,g≤h→ACalls prog 172 [.sl 0,.int .i64] [.dg 9 x1] h (fun a c g i j
 => h≤j→Bel j (D.sl a 0 c g)→z6 E Q N a2 e2 c2 a3 e3 c3 a c g i 0 0 0 aB0_0 eB0_0 cB0_0 nB0_1 x1 0 (bytes []) (bytes []) 0 0 Option.none
 [] 0 0 Option.none [] 0 Option.none [] 0 n e b d (x.cell 0) (x.cell 1) (f.cell 0) (f.cell 1) Option.none [] 0 [] 0 j))) (∀ a,g≤a→ACalls prog
 172 [.sl 0,.int .i64] [.dg 9 x1] a (fun c e g h i=>a≤i→Bel i (D.sl c 0 e g)→z6 E Q N a2 e2 c2 a3 e3 c3 c e
 g h 0 0 0 aB0_0 eB0_0 cB0_0 nB0_1 x1 0 (bytes []) (bytes []) 0 0 Option.none [] 0 0 Option.none [] 0 Option.none [] 0 n s b d (x.cell 0) (x.cell 1) (f.cell
 0) (f.cell 1) Option.none [] 0 [] 0 i))))):BCalls prog 108 [(Sh.ag 9),(Sh.sl 0),(Sh.int IntKind.i64)] [.pb 0 0 0 0,.dg 9 x1,.sv a2 0 e2 c2,.sv a3 0 e3 c3] [.var [.sv aB0_0 0 eB0_0 cB0_0,.int .i64 nB0_1]] N Q:=
  bE (H:=xq) (by kernel_rfl) (fun E=>by kernel_rfl) h
theorem wj (N:Nat) (x1 x2:D) (mB0_0 cB0_0:Nat) (rB1:List D) (qB1:Nat) (Q:QT [(Sh.ag 9),(Sh.sl 0)]) (h:∀ E:Env,
Bel N x1→Bel N (D.sl Option.none 0 rB1 qB1)→∃ n:Int,(x1.cell 0)=D.lit (.int .i64 n)∧Br (n==1) (∀ d,N≤d→ACalls prog 101 [Sh.pk,.int .i64,.str,
 .str,.int .i64,Sh.dc,Sh.dc,Sh.dc,Sh.dc,.row (OfNat.ofNat 35) 9] [.dg 9 x1] d (fun c s e f x g h i j k l=>d≤l→Bel l (D.ag j) →
 ∃ d,(x1.cell 1)=D.lit (.string d)∧∃ b:Nat,∃ a:Array MapEntry,∃ m:Nat,x2=D.mp b a m∧∃ b:Option ByteArray,zED prog 134 a m d
 b∧Br (Option.isSome b) ((j.length=j.length∧k=k)∧(j.length=j.length∧k=k)∧(j.length=j.length∧k=k)∧(j.length=j.length∧k =
 k)∧∀ a d,l≤d→Fresh N d a [D.ag j,x,g,h,i]→zEP E [.var [.sb 1 0 0 0 0],.arr 9 0 [] 0]∧(mB0_0=rB1.length∧cB0_0=qB1)∧∀ l,
 d≤l→Q (D.ag [D.lit (.int .i64 c),D.lit (.string (Option.getD b (bytes []))),D.lit (.string e),D.lit (.int .i64 f),x,g,h,i,D.sl a
 9 j k]) Option.none rB1 qB1 l) ((j.length=j.length∧k=k)∧(j.length=j.length∧k=k)∧(j.length=j.length∧k=k)∧(j.length=j.length ∧
 k=k)∧∀ a b,l≤b→Fresh N b a [D.ag j,x,g,h,i]→zEP E [.var [.sb 1 0 0 0 0],.arr 9 0 [] 0]∧(mB0_0=rB1.length∧cB0_0=qB1) ∧
 ∀ d,b≤d→Q (D.ag [D.lit (.int .i64 c),D.lit (.string s),D.lit (.string e),D.lit (.int .i64 f),x,g,h,i,D.sl a 9 j k]) Option.none
 rB1 qB1 d))) (∀ a,N≤a→ACalls prog 181 [.sl 0,.int .i64] [.dg 9 x1] a (fun b c d e f=>a≤f→Bel f (D.sl b 0 c d)→∀ a,
 f≤a→ACalls prog 186 [Sh.dc] [.dc x2] a (fun f g=>a≤g→zZ E Q N x2 e f 0 0 b c d (c.length:Int) 0
 mB0_0 cB0_0 rB1 qB1 x1 0 (bytes []) (bytes []) 0 0 Option.none [] 0 0 Option.none [] 0 Option.none [] 0 [] 0 g)))):BCalls prog 117 [(Sh.ag 9),(Sh.sl 0)] [.pb 0 0 0 0,.dg 9 x1,.dc x2] [.var [.sb 1 0 0 mB0_0 cB0_0],.arr 9 0 rB1 qB1] N Q:=
  bE (H:=yH) (by kernel_rfl) (fun E=>by kernel_rfl) h
theorem v6 (E:Env) (Q:QT [(Sh.ag 9),(Sh.sl 0),(Sh.int IntKind.i64)]) (N0:Nat) (a2:Option Addr) (e2:List D) (c2:Nat) (a3:Option Addr) (e3:List D) (c3:Nat) (a10:Option Addr) (e10:List D) (c10:Nat) (n11:Int) (m12 c12:Nat) (n13:Int) (a0_0:Option Addr) (e0_0:List D) (c0_0:Nat) (n0_1:Int) (y1:D) (n2_0:Int) (s2_1 s2_2:ByteArray) (n2_3 n2_4:Int) (a2_5:Option Addr) (e2_5:List D) (c2_5:Nat) (n2_6:Int) (a2_7:Option Addr) (e2_7:List D) (c2_7:Nat) (a2_8:Option Addr) (e2_8:List D) (c2_8:Nat) (n3_0:Int) (s3_1 s3_2:ByteArray) (n3_3:Int) (x3_4 x3_5 x3_6 x3_7:D) (a3_8:Option Addr) (e3_8:List D) (c3_8:Nat) (r4:List D) (q4:Nat) (N:Nat) (h :
Br (decide (n13<(e10.length:Int))) (∀ b,N≤b→BCalls prog 173 [.str,.sl 0,.int .i64] [.pb 0 0 0 0] [Bx.var [.sv a0_0 0 e0_0 c0_0,.int .i64 n0_1]] b
 (fun s a c d n e=>b≤e→Bel e (D.sl a 0 c d)→(m12=r4.length∧c12=q4)∧zB r4 [D.lit (.string s)] 16∧∀ (b:Nat),z6 E
 Q N0 a2 e2 c2 a3 e3 c3 a10 e10 c10 n11 (r4++[D.lit (.string s)]).length b (IntKind.i64.wrap (n13+1)) a c d n y1 n2_0 s2_1 s2_2 n2_3 n2_4 a2_5 e2_5 c2_5 n2_6
 a2_7 e2_7 c2_7 a2_8 e2_8 c2_8 n3_0 s3_1 s3_2 n3_3 x3_4 x3_5 x3_6 x3_7 a3_8 e3_8 c3_8 (r4++[D.lit (.string s)]) b e)) (Br (decide ((m12:Int)>0)) (((0 :
 Int)≤(0:Int)∧0<(m12:Int)∧0<r4.length)∧0<r4.length∧∃ a,List.getD r4 0 default=D.lit (.string a)∧Br (decide ((m12:Int)>1)) (((0 :
 Int)≤(1:Int)∧1<(m12:Int)∧1<r4.length)∧1<r4.length∧∃ b,List.getD r4 1 default=D.lit (.string b)∧(m12=r4.length∧c12=q4)∧(m12 =
 r4.length∧c12=q4)∧(m12=r4.length∧c12=q4)∧(m12=r4.length∧c12=q4)∧(m12=r4.length∧c12=q4)∧∀ c d,N≤d→Fresh N0 d c [D.ag
 r4]→zf E Q N0 a2 e2 c2 a3 e3 c3 a10 e10 c10 n11 c r4 q4 0 a0_0 e0_0 c0_0 n0_1 y1 n2_0 s2_1 s2_2 n2_3 n2_4 a2_5 e2_5 c2_5 n2_6 a2_7 e2_7 c2_7 a2_8
 e2_8 c2_8 n3_0 a b n3_3 x3_4 x3_5 x3_6 x3_7 a3_8 e3_8 c3_8 d) ((m12=r4.length∧c12=q4)∧(m12=r4.length∧c12=q4)∧(m12=r4.length∧c12=q4) ∧
 (m12=r4.length∧c12=q4)∧∀ b c,N≤c→Fresh N0 c b [D.ag r4]→zf E Q N0 a2 e2 c2 a3 e3 c3 a10 e10 c10 n11 b r4 q4 0 a0_0 e0_0
 c0_0 n0_1 y1 n2_0 s2_1 s2_2 n2_3 n2_4 a2_5 e2_5 c2_5 n2_6 a2_7 e2_7 c2_7 a2_8 e2_8 c2_8 n3_0 a s3_2 n3_3 x3_4 x3_5 x3_6 x3_7 a3_8 e3_8 c3_8 c)) (Br (decide ((m12
 : Int)>1)) (((0:Int)≤(1:Int)∧1<(m12:Int)∧1<r4.length)∧1<r4.length∧∃ a,List.getD r4 1 default=D.lit (.string a)∧(m12=r4.length
 ∧ c12=q4)∧(m12=r4.length∧c12=q4)∧(m12=r4.length∧c12=q4)∧(m12=r4.length∧c12=q4)∧∀ b c,N≤c→Fresh N0 c b [D.ag r4]→zf
 E Q N0 a2 e2 c2 a3 e3 c3 a10 e10 c10 n11 b r4 q4 0 a0_0 e0_0 c0_0 n0_1 y1 n2_0 s2_1 s2_2 n2_3 n2_4 a2_5 e2_5 c2_5 n2_6 a2_7 e2_7 c2_7 a2_8 e2_8 c2_8 n3_0 s3_1
 a n3_3 x3_4 x3_5 x3_6 x3_7 a3_8 e3_8 c3_8 c) ((m12=r4.length∧c12=q4)∧(m12=r4.length∧c12=q4)∧(m12=r4.length∧c12=q4)∧∀ a b,N≤b
 → Fresh N0 b a [D.ag r4]→zf E Q N0 a2 e2 c2 a3 e3 c3 a10 e10 c10 n11 a r4 q4 0 a0_0 e0_0 c0_0 n0_1 y1 n2_0 s2_1 s2_2 n2_3 n2_4 a2_5 e2_5 c2_5
 n2_6 a2_7 e2_7 c2_7 a2_8 e2_8 c2_8 n3_0 s3_1 s3_2 n3_3 x3_4 x3_5 x3_6 x3_7 a3_8 e3_8 c3_8 b)))):z6 E Q N0 a2 e2 c2 a3 e3 c3 a10 e10 c10 n11 m12 c12 n13 a0_0 e0_0 c0_0 n0_1 y1 n2_0 s2_1 s2_2 n2_3 n2_4 a2_5 e2_5 c2_5 n2_6 a2_7 e2_7 c2_7 a2_8 e2_8 c2_8 n3_0 s3_1 s3_2 n3_3 x3_4 x3_5 x3_6 x3_7 a3_8 e3_8 c3_8 r4 q4 N:=
  hE (H:=xq) (by kernel_rfl) h
theorem yg (E:Env) (Q:QT [(Sh.ag 9),(Sh.sl 0)]) (N0:Nat) (x2:D) (n11:Int) (x12:D) (m13 c13:Nat) (a43:Option Addr) (e43:List D) (c43:Nat) (n44 n45:Int) (m0_0 c0_0:Nat) (r1:List D) (q1:Nat) (y2:D) (n3_0:Int) (s3_1 s3_2:ByteArray) (n3_3 n3_4:Int) (a3_5:Option Addr) (e3_5:List D) (c3_5:Nat) (n3_6:Int) (a3_7:Option Addr) (e3_7:List D) (c3_7:Nat) (a3_8:Option Addr) (e3_8:List D) (c3_8:Nat) (r4:List D) (q4:Nat) (N:Nat) (h :
Br (decide (n45<n44)) ((0≤n45∧n45<(e43.length:Int))∧∃ s,List.getD e43 n45.toNat default=D.lit (.string s)∧∀ d,N≤d→BCalls prog 187 [.str,
 .sl 0] [.pb 0 0 0 0] [Bx.var [.sb 1 0 0 m0_0 c0_0],Bx.arr 9 0 r1 q1] d (fun a c e f g=>d≤g→Bel g (D.sl c 0 e f)→(m13=r4.length∧c13=q4)
 ∧ zB r4 [D.lit (.string a)] 16∧∀ (c:Nat),(0≤IntKind.i64.wrap (((r4++[D.lit (.string a)]).length:Int) - 1)∧IntKind.i64.wrap (((r4++[D.lit
 (.string a)]).length:Int) - 1)<((r4++[D.lit (.string a)]).length:Int)∧(0+(IntKind.i64.wrap (((r4++[D.lit (.string a)]).length:Int) - 1)).toNat
 : Nat)<(r4++[D.lit (.string a)]).length)∧(0+(IntKind.i64.wrap (((r4++[D.lit (.string a)]).length:Int) - 1)).toNat:Nat)<(r4++[D.lit (.string
 a)]).length∧∃ d,List.getD (r4++[D.lit (.string a)]) (0+(IntKind.i64.wrap (((r4++[D.lit (.string a)]).length:Int) - 1)).toNat:Nat) default =
 D.lit (.string d)∧∃ b:Nat,∃ h:Array MapEntry,∃ i:Nat,x12=D.mp b h i∧x12=x12∧N0≤b∧Dis x12 [x2,D.sl a43 0 e43 c43,D.ag e,y2,D.sl
 a3_5 2 e3_5 c3_5,D.sl a3_7 2 e3_7 c3_7,D.sl a3_8 9 e3_8 c3_8,D.ag (r4++[D.lit (.string a)]),D.ag [D.lit (.string a)]]∧∃ j:Array MapEntry,∃ k :
 Nat,zDp prog 134 h i s d j k∧zZ E Q N0 x2 n11 (D.mp b j k) (r4++[D.lit (.string a)]).length c a43 e43 c43 n44 (IntKind.i64.wrap
 (n45+1)) e.length f e f y2 n3_0 s3_1 s3_2 n3_3 n3_4 a3_5 e3_5 c3_5 n3_6 a3_7 e3_7 c3_7 a3_8 e3_8 c3_8 (r4++[D.lit (.string a)]) c g)) (∀ a,N≤a
 → ACalls prog 101 [Sh.pk,.int .i64,.str,.str,.int .i64,Sh.dc,Sh.dc,Sh.dc,Sh.dc,.row (OfNat.ofNat 35) 9] [.dg 9 y2] a (fun n b c d x e f g
 h i j=>a≤j→Bel j (D.ag h)→∃ a k,∃ l:Nat,(y2.cell 8)=D.sl a 9 k l∧zE E Q N0 x2 n11 x12 m13 c13
 a k l (k.length:Int) 0 m0_0 c0_0 r1 q1 n3_0 s3_1 s3_2 n3_3 n3_4 a3_5 e3_5 c3_5 n3_6 a3_7 e3_7 c3_7 a3_8 e3_8 c3_8 r4 q4 n b c d x e f g h.length
 i h i j))):zZ E Q N0 x2 n11 x12 m13 c13 a43 e43 c43 n44 n45 m0_0 c0_0 r1 q1 y2 n3_0 s3_1 s3_2 n3_3 n3_4 a3_5 e3_5 c3_5 n3_6 a3_7 e3_7 c3_7 a3_8 e3_8 c3_8 r4 q4 N:=
  hE (H:=yH) (by kernel_rfl) h
theorem sM (N:Nat) (aB0_0:Option Addr) (eB0_0:List D) (cB0_0:Nat) (nB0_1:Int) (Q:QT [Sh.str,(Sh.sl 0),(Sh.int IntKind.i64)]) (h:∀ E:Env,
Bel N (D.sl aB0_0 0 eB0_0 cB0_0)→yo E Q N aB0_0 eB0_0 cB0_0 nB0_1 N):BCalls prog 173 [Sh.str,(Sh.sl 0),(Sh.int IntKind.i64)] [.pb 0 0 0 0] [.var [.sv aB0_0 0 eB0_0 cB0_0,.int .i64 nB0_1]] N Q:=
 bE (H:=ur) (by kernel_rfl) (fun E=>by kernel_rfl) h
theorem vJ (E:Env) (Q:QT [(Sh.ag 9),(Sh.sl 0),(Sh.int IntKind.i64)]) (N0:Nat) (a2:Option Addr) (e2:List D) (c2:Nat) (a3:Option Addr) (e3:List D) (c3:Nat) (a10:Option Addr) (e10:List D) (c10:Nat) (n11:Int) (a12:Option Addr) (e12:List D) (c12:Nat) (n14:Int) (a0_0:Option Addr) (e0_0:List D) (c0_0:Nat) (n0_1:Int) (y1:D) (n2_0:Int) (s2_1 s2_2:ByteArray) (n2_3 n2_4:Int) (a2_5:Option Addr) (e2_5:List D) (c2_5:Nat) (n2_6:Int) (a2_7:Option Addr) (e2_7:List D) (c2_7:Nat) (a2_8:Option Addr) (e2_8:List D) (c2_8:Nat) (n3_0:Int) (s3_1 s3_2:ByteArray) (n3_3:Int) (x3_4 x3_5 x3_6 x3_7:D) (a3_8:Option Addr) (e3_8:List D) (c3_8:Nat) (N:Nat) (h :
∃ a b,∃ c:Nat,(y1.cell 8)=D.sl a 9 b c∧Br (decide (n14<(b.length:Int))) (Br (n14==n11) ((0=0∧0=0)∧zB [] e2 16∧∀ (a:Nat),(([]
 ++ e2).length=([]++e2).length∧a=a)∧zB ([]++e2) e10 16∧∀ (a:Nat),(0=0∧0=0)∧zB [] e3 16∧∀ (b:Nat),(([]++e3).length
 = ([]++e3).length∧b=b)∧zB ([]++e3) e12 16∧∀ (b:Nat),∃ c d,∃ e:Nat,(y1.cell 8)=D.sl c 9 d e∧(0≤n14∧n14<(d.length
 : Int))∧(([]++e2++e10).length=([]++e2++e10).length∧a=a)∧(([]++e2++e10).length=([]++e2++e10).length∧a=a)∧(([]++e2++e10).length
 = ([]++e2++e10).length∧a=a)∧∀ c e,N≤e→Fresh N0 e c [D.ag ([]++e2++e10)]→(([]++e3++e12).length=([]++e3++e12).length ∧
 b=b)∧(([]++e3++e12).length=([]++e3++e12).length∧b=b)∧(([]++e3++e12).length=([]++e3++e12).length∧b=b)∧∀ f g,e
 ≤ g→Fresh N0 g f [D.ag ([]++e3++e12)]→∀ e,g≤e→BCalls prog 108 [.ag 9,.sl 0,.int .i64] [.pb 0 0 0 0,.dg 9 (List.getD d n14.toNat default),
 .sv c 0 ([]++e2++e10) a,.sv f 0 ([]++e3++e12) b] [Bx.var [.sv a0_0 0 e0_0 c0_0,.int .i64 n0_1]] e (fun x a b c n d=>e≤d→Bel
 d x→Bel d (D.sl a 0 b c)→zIA a3_8 e3_8 c3_8 [x]∧zB e3_8 [x] 136∧∀ (e:Nat),zN E Q N0 a2 e2 c2 a3 e3 c3 a10 e10 c10
 n11 a12 e12 c12 (IntKind.i64.wrap (n14+1)) a b c n y1 n2_0 s2_1 s2_2 n2_3 n2_4 a2_5 e2_5 c2_5 n2_6 a2_7 e2_7 c2_7 a2_8 e2_8 c2_8 n3_0 s3_1 s3_2 n3_3 x3_4
 x3_5 x3_6 x3_7 (e3_8++[x]).length e (e3_8++[x]) e d)) (∃ a b,∃ c:Nat,(y1.cell 8)=D.sl a 9 b c∧(0≤n14∧n14<(b.length:Int))
 ∧ ∀ a,N≤a→BCalls prog 108 [.ag 9,.sl 0,.int .i64] [.pb 0 0 0 0,.dg 9 (List.getD b n14.toNat default),.sv a2 0 e2 c2,.sv a3 0 e3 c3] [Bx.var [.sv
 a0_0 0 e0_0 c0_0,.int .i64 n0_1]] a (fun b c d e f g=>a≤g→Bel g b→Bel g (D.sl c 0 d e)→zIA a3_8 e3_8 c3_8 [b]∧zB
 e3_8 [b] 136∧∀ (a:Nat),zN E Q N0 a2 e2 c2 a3 e3 c3 a10 e10 c10 n11 a12 e12 c12 (IntKind.i64.wrap (n14+1)) c d e f y1 n2_0 s2_1
 s2_2 n2_3 n2_4 a2_5 e2_5 c2_5 n2_6 a2_7 e2_7 c2_7 a2_8 e2_8 c2_8 n3_0 s3_1 s3_2 n3_3 x3_4 x3_5 x3_6 x3_7 (e3_8++[b]).length a (e3_8++[b]) a g)))
 (zEP E [.var [.sv none 0 [] 0,.int .i64 0]]∧∀ a,N≤a→Q (D.ag [D.lit (.int .i64 n3_0),D.lit (.string s3_1),D.lit (.string s3_2),D.lit (.int .i64 n3_3),
 x3_4,x3_5,x3_6,x3_7,D.sl a3_8 9 e3_8 c3_8]) a0_0 e0_0 c0_0 n0_1 a)):zf E Q N0 a2 e2 c2 a3 e3 c3 a10 e10 c10 n11 a12 e12 c12 n14 a0_0 e0_0 c0_0 n0_1 y1 n2_0 s2_1 s2_2 n2_3 n2_4 a2_5 e2_5 c2_5 n2_6 a2_7 e2_7 c2_7 a2_8 e2_8 c2_8 n3_0 s3_1 s3_2 n3_3 x3_4 x3_5 x3_6 x3_7 a3_8 e3_8 c3_8 N:=
  hE (H:=xq) (by kernel_rfl) h
theorem wz (N:Nat) (mB0_0 cB0_0:Nat) (rB1:List D) (qB1:Nat) (Q:QT [Sh.str,(Sh.sl 0)]) (h:∀ E:Env,
Bel N (D.sl Option.none 0 rB1 qB1)→(mB0_0=rB1.length∧cB0_0=qB1)∧∀ a,ApA a rB1→∀ b,N≤b→zAN b [a]→ACalls prog 244 [.str] [.str (bytes [98]),
 .sv a 0 rB1 cB0_0] b (fun s a=>b≤a→(mB0_0=rB1.length∧cB0_0=qB1)∧zB rB1 [D.lit (.string s)] 16∧∀ (c:Nat),zEP E [.var [.sb 1 0 0 0
 0],.arr 9 0 [] 0]∧((rB1++[D.lit (.string s)]).length=(rB1++[D.lit (.string s)]).length∧c=c)∧∀ b,a≤b→Q s Option.none (rB1++[D.lit (.string
 s)]) c b)):BCalls prog 187 [Sh.str,(Sh.sl 0)] [.pb 0 0 0 0] [.var [.sb 1 0 0 mB0_0 cB0_0],.arr 9 0 rB1 qB1] N Q:=
  bE (H:=vz) (by kernel_rfl) (fun E=>by kernel_rfl) h
theorem yY (E:Env) (Q:QT [(Sh.ag 9),(Sh.sl 0)]) (N0:Nat) (x2:D) (n11:Int) (x12:D) (m13 c13:Nat) (a66:Option Addr) (e66:List D) (c66:Nat) (n67 n68:Int) (m0_0 c0_0:Nat) (r1:List D) (q1:Nat) (n2_0:Int) (s2_1 s2_2:ByteArray) (n2_3 n2_4:Int) (a2_5:Option Addr) (e2_5:List D) (c2_5:Nat) (n2_6:Int) (a2_7:Option Addr) (e2_7:List D) (c2_7:Nat) (a2_8:Option Addr) (e2_8:List D) (c2_8:Nat) (r3:List D) (q3:Nat) (n4_0:Int) (s4_1 s4_2:ByteArray) (n4_3:Int) (x4_4 x4_5 x4_6 x4_7:D) (m4_8 c4_8:Nat) (r5:List D) (q5:Nat) (N:Nat) (h :
Br (decide (n68<n67)) ((0≤n68∧n68<(e66.length:Int))∧Br (n68==n11) (∀ b,N≤b→BCalls prog 117 [.ag 9,.sl 0] [.pb 0 0 0 0,.dg 9 (List.getD e66
 n68.toNat default),.dc x12] [Bx.var [.sb 1 0 0 m0_0 c0_0],Bx.arr 9 0 r1 q1] b (fun x a c d e=>b≤e→Bel e x→Bel e (D.sl a 0 c d)→(0≤n68
 ∧ n68<(m4_8:Int)∧(0+n68.toNat:Nat)<r5.length)∧(0+n68.toNat:Nat)<r5.length∧zE E Q N0 x2 n11 x12 m13 c13 a66 e66 c66 n67
 (IntKind.i64.wrap (n68+1)) c.length d c d n2_0 s2_1 s2_2 n2_3 n2_4 a2_5 e2_5 c2_5 n2_6 a2_7 e2_7 c2_7 a2_8 e2_8 c2_8 r3 q3 n4_0 s4_1 s4_2 n4_3 x4_4 x4_5 x4_6
 x4_7 m4_8 c4_8 (List.set r5 (0+n68.toNat:Nat) x) q5 e)) (∀ a,N≤a→BCalls prog 117 [.ag 9,.sl 0] [.pb 0 0 0 0,.dg 9 (List.getD e66 n68.toNat default),
 .dc x2] [Bx.var [.sb 1 0 0 m0_0 c0_0],Bx.arr 9 0 r1 q1] a (fun b c d e f=>a≤f→Bel f b→Bel f (D.sl c 0 d e)→(0≤n68∧n68
 < (m4_8:Int)∧(0+n68.toNat:Nat)<r5.length)∧(0+n68.toNat:Nat)<r5.length∧zE E Q N0 x2 n11 x12 m13 c13 a66 e66 c66 n67 (IntKind.i64.wrap
 (n68+1)) d.length e d e n2_0 s2_1 s2_2 n2_3 n2_4 a2_5 e2_5 c2_5 n2_6 a2_7 e2_7 c2_7 a2_8 e2_8 c2_8 r3 q3 n4_0 s4_1 s4_2 n4_3 x4_4 x4_5 x4_6 x4_7 m4_8
 c4_8 (List.set r5 (0+n68.toNat:Nat) b) q5 f))) (Br (decide ((m13:Int)>0)) (((0:Int)≤(0:Int)∧0<(m13:Int)∧0<r3.length)∧0<r3.length
 ∧ ∃ s,List.getD r3 0 default=D.lit (.string s)∧Br (decide ((m13:Int)>1)) (((0:Int)≤(1:Int)∧1<(m13:Int)∧1<r3.length)∧1<r3.length∧∃
 a,List.getD r3 1 default=D.lit (.string a)∧(m4_8=r5.length∧c4_8=q5)∧(m4_8=r5.length∧c4_8=q5)∧(m4_8=r5.length∧c4_8=q5)∧∀ b c,
 N≤c→Fresh N0 c b [D.ag r5,x4_4,x4_5,x4_6,x4_7]→zEP E [.var [.sb 1 0 0 0 0],.arr 9 0 [] 0]∧(m0_0=r1.length∧c0_0=q1)∧∀ d,c≤d →
 Q (D.ag [D.lit (.int .i64 n4_0),D.lit (.string s),D.lit (.string a),D.lit (.int .i64 n4_3),x4_4,x4_5,x4_6,x4_7,D.sl b 9 r5 q5]) Option.none r1 q1 d)
 ((m4_8=r5.length∧c4_8=q5)∧(m4_8=r5.length∧c4_8=q5)∧(m4_8=r5.length∧c4_8=q5)∧∀ a b,N≤b→Fresh N0 b a [D.ag r5,x4_4,x4_5,x4_6,
 x4_7]→zEP E [.var [.sb 1 0 0 0 0],.arr 9 0 [] 0]∧(m0_0=r1.length∧c0_0=q1)∧∀ c,b≤c→Q (D.ag [D.lit (.int .i64 n4_0),D.lit (.string s),D.lit
 (.string s4_2),D.lit (.int .i64 n4_3),x4_4,x4_5,x4_6,x4_7,D.sl a 9 r5 q5]) Option.none r1 q1 c)) (Br (decide ((m13:Int)>1)) (((0:Int)≤(1:Int)
 ∧ 1<(m13:Int)∧1<r3.length)∧1<r3.length∧∃ a,List.getD r3 1 default=D.lit (.string a)∧(m4_8=r5.length∧c4_8=q5)∧(m4_8=r5.length∧c4_8
 = q5)∧(m4_8=r5.length∧c4_8=q5)∧∀ b c,N≤c→Fresh N0 c b [D.ag r5,x4_4,x4_5,x4_6,x4_7]→zEP E [.var [.sb 1 0 0 0 0],.arr 9 0 [] 0] ∧
 (m0_0=r1.length∧c0_0=q1)∧∀ d,c≤d→Q (D.ag [D.lit (.int .i64 n4_0),D.lit (.string s4_1),D.lit (.string a),D.lit (.int .i64 n4_3),x4_4,x4_5,
 x4_6,x4_7,D.sl b 9 r5 q5]) Option.none r1 q1 d) ((m4_8=r5.length∧c4_8=q5)∧(m4_8=r5.length∧c4_8=q5)∧(m4_8=r5.length∧c4_8=q5)∧∀ a
 b,N≤b→Fresh N0 b a [D.ag r5,x4_4,x4_5,x4_6,x4_7]→zEP E [.var [.sb 1 0 0 0 0],.arr 9 0 [] 0]∧(m0_0=r1.length∧c0_0=q1)∧∀ c,b
 ≤ c→Q (D.ag [D.lit (.int .i64 n4_0),D.lit (.string s4_1),D.lit (.string s4_2),D.lit (.int .i64 n4_3),x4_4,x4_5,x4_6,x4_7,D.sl a 9 r5 q5]) Option.none
 r1 q1 c)))):zE E Q N0 x2 n11 x12 m13 c13 a66 e66 c66 n67 n68 m0_0 c0_0 r1 q1 n2_0 s2_1 s2_2 n2_3 n2_4 a2_5 e2_5 c2_5 n2_6 a2_7 e2_7 c2_7 a2_8 e2_8 c2_8 r3 q3 n4_0 s4_1 s4_2 n4_3 x4_4 x4_5 x4_6 x4_7 m4_8 c4_8 r5 q5 N:=
  hE (H:=yH) (by kernel_rfl) h
theorem rc (E:Env) (Q:QT [Sh.str,(Sh.sl 0),(Sh.int IntKind.i64)]) (N0:Nat) (a0_0:Option Addr) (e0_0:List D) (c0_0:Nat) (n0_1:Int) (N:Nat) (h :
∀ a,N≤a→ACalls prog 188 [.str] [.int .i64 (IntKind.i64.wrap (n0_1+1))] a (fun s b=>a≤b→(1+s.size:Nat)≤9223372036854775807∧∀ a,
 b≤a→ACalls prog 234 [.int .i64] [.sv a0_0 0 e0_0 c0_0,.str (bytes [98]++s)] a (fun n b=>a≤b→Br (decide (n<0)) (zEP E [.var [.sv none
 0 [] 0,.int .i64 0]]∧∀ a,b≤a→Q (bytes [98]++s) a0_0 e0_0 c0_0 (IntKind.i64.wrap (n0_1+1)) a) (yo E Q N0 a0_0 e0_0 c0_0 (IntKind.i64.wrap
 (n0_1+1)) b)))):yo E Q N0 a0_0 e0_0 c0_0 n0_1 N:=
  hE (H:=ur) (by kernel_rfl) h
theorem wG (E:Env) (Q:QT [(Sh.ag 9),(Sh.sl 0),(Sh.int IntKind.i64)]) (N0:Nat) (a2:Option Addr) (e2:List D) (c2:Nat) (a3:Option Addr) (e3:List D) (c3:Nat) (a10:Option Addr) (e10:List D) (c10:Nat) (n11:Int) (a12:Option Addr) (e12:List D) (c12:Nat) (n14:Int) (a0_0:Option Addr) (e0_0:List D) (c0_0:Nat) (n0_1:Int) (y1:D) (n2_0:Int) (s2_1 s2_2:ByteArray) (n2_3 n2_4:Int) (a2_5:Option Addr) (e2_5:List D) (c2_5:Nat) (n2_6:Int) (a2_7:Option Addr) (e2_7:List D) (c2_7:Nat) (a2_8:Option Addr) (e2_8:List D) (c2_8:Nat) (n3_0:Int) (s3_1 s3_2:ByteArray) (n3_3:Int) (x3_4 x3_5 x3_6 x3_7:D) (m3_8 c3_8:Nat) (r4:List D) (q4:Nat) (N:Nat) (h :
∃ a b,∃ c:Nat,(y1.cell 8)=D.sl a 9 b c∧Br (decide (n14<(b.length:Int))) (Br (n14==n11) ((0=0∧0=0)∧zB [] e2 16∧∀ (a:Nat),(([]
 ++ e2).length=([]++e2).length∧a=a)∧zB ([]++e2) e10 16∧∀ (a:Nat),(0=0∧0=0)∧zB [] e3 16∧∀ (b:Nat),(([]++e3).length
 = ([]++e3).length∧b=b)∧zB ([]++e3) e12 16∧∀ (b:Nat),∃ c d,∃ e:Nat,(y1.cell 8)=D.sl c 9 d e∧(0≤n14∧n14<(d.length
 : Int))∧(([]++e2++e10).length=([]++e2++e10).length∧a=a)∧(([]++e2++e10).length=([]++e2++e10).length∧a=a)∧(([]++e2++e10).length
 = ([]++e2++e10).length∧a=a)∧∀ c e,N≤e→Fresh N0 e c [D.ag ([]++e2++e10)]→(([]++e3++e12).length=([]++e3++e12).length ∧
 b=b)∧(([]++e3++e12).length=([]++e3++e12).length∧b=b)∧(([]++e3++e12).length=([]++e3++e12).length∧b=b)∧∀ f g,e
 ≤ g→Fresh N0 g f [D.ag ([]++e3++e12)]→∀ e,g≤e→BCalls prog 108 [.ag 9,.sl 0,.int .i64] [.pb 0 0 0 0,.dg 9 (List.getD d n14.toNat default),
 .sv c 0 ([]++e2++e10) a,.sv f 0 ([]++e3++e12) b] [Bx.var [.sv a0_0 0 e0_0 c0_0,.int .i64 n0_1]] e (fun x a b c n d=>e≤d→Bel
 d x→Bel d (D.sl a 0 b c)→(m3_8=r4.length∧c3_8=q4)∧zB r4 [x] 136∧∀ (e:Nat),zN E Q N0 a2 e2 c2 a3 e3 c3 a10 e10
 c10 n11 a12 e12 c12 (IntKind.i64.wrap (n14+1)) a b c n y1 n2_0 s2_1 s2_2 n2_3 n2_4 a2_5 e2_5 c2_5 n2_6 a2_7 e2_7 c2_7 a2_8 e2_8 c2_8 n3_0 s3_1 s3_2 n3_3
 x3_4 x3_5 x3_6 x3_7 (r4++[x]).length e (r4++[x]) e d)) (∃ a b,∃ c:Nat,(y1.cell 8)=D.sl a 9 b c∧(0≤n14∧n14<(b.length:Int))
 ∧ ∀ a,N≤a→BCalls prog 108 [.ag 9,.sl 0,.int .i64] [.pb 0 0 0 0,.dg 9 (List.getD b n14.toNat default),.sv a2 0 e2 c2,.sv a3 0 e3 c3] [Bx.var [.sv
 a0_0 0 e0_0 c0_0,.int .i64 n0_1]] a (fun b c d e f g=>a≤g→Bel g b→Bel g (D.sl c 0 d e)→(m3_8=r4.length∧c3_8=q4)
 ∧ zB r4 [b] 136∧∀ (a:Nat),zN E Q N0 a2 e2 c2 a3 e3 c3 a10 e10 c10 n11 a12 e12 c12 (IntKind.i64.wrap (n14+1)) c d e f y1
 n2_0 s2_1 s2_2 n2_3 n2_4 a2_5 e2_5 c2_5 n2_6 a2_7 e2_7 c2_7 a2_8 e2_8 c2_8 n3_0 s3_1 s3_2 n3_3 x3_4 x3_5 x3_6 x3_7 (r4++[b]).length a (r4++[b]) a g)))
 ((m3_8=r4.length∧c3_8=q4)∧(m3_8=r4.length∧c3_8=q4)∧(m3_8=r4.length∧c3_8=q4)∧∀ a b,N≤b→Fresh N0 b a [D.ag r4,x3_4,x3_5,x3_6,
 x3_7]→zEP E [.var [.sv none 0 [] 0,.int .i64 0]]∧∀ c,b≤c→Q (D.ag [D.lit (.int .i64 n3_0),D.lit (.string s3_1),D.lit (.string s3_2),D.lit (.int
 .i64 n3_3),x3_4,x3_5,x3_6,x3_7,D.sl a 9 r4 q4]) a0_0 e0_0 c0_0 n0_1 c)):zN E Q N0 a2 e2 c2 a3 e3 c3 a10 e10 c10 n11 a12 e12 c12 n14 a0_0 e0_0 c0_0 n0_1 y1 n2_0 s2_1 s2_2 n2_3 n2_4 a2_5 e2_5 c2_5 n2_6 a2_7 e2_7 c2_7 a2_8 e2_8 c2_8 n3_0 s3_1 s3_2 n3_3 x3_4 x3_5 x3_6 x3_7 m3_8 c3_8 r4 q4 N:=
  hE (H:=xq) (by kernel_rfl) h
end Go.Proofs.YtmfjakahanbnlaaGreatDoor
set_option maxRecDepth 100000
namespace Go.Proofs.YtmfjakahanbnlaaGreatDoor
open Go Go.Proofs Go.Proofs.Tryz
def wi:Hint:=⟨[],[],[(2,hs 4 [ec 2 [10]]),(5,hs 4 [ec 2 [15]]),(8,[en 0,en 2,ec 1 [20],ec 3 [22],ec 4 [21,23],en 5]),(9,hs 4 [ec 1 [25]]),(10,hs 4 [ec 1 [27]]),(11,hs 4 [ec 2 [29,30]]),(14,[en 0,en 1,ec 2 [36],ec 3 [35,37],en 4]),(16,[en 0,en 1,ec 2 [41],ec 3 [40,42],en 4])]⟩
theorem wk (N:Nat) (x0 x1:D) (Q:QT [.bool]) (h :
Bel N x0→Bel N x1→∀ a,N≤a→ACalls prog 8 [.int .i64] [.dg 9 x0,.int .i64 1048576] a (fun n c=>a≤c→Br (decide (n<0)) (∀ a,c≤a
 → Q true a) (∀ a,c≤a→ACalls prog 8 [.int .i64] [.dg 9 x1,.int .i64 n] a (fun c d=>a≤d→Br (decide (c<0)) (∀ a,d≤a→Q true
 a) (∀ a,d≤a→ACalls prog 10 [.ag 9] [.dg 9 x0] a (fun x c=>a≤c→Bel c x→∀ a,c≤a→ACalls prog 10 [.ag 9] [.dg 9 x1] a (fun
 c d=>a≤d→Bel d c→∀ a,d≤a→ACalls prog 9 [.bool] [.dg 9 x,.dg 9 c] a (fun b c=>a≤c→∀ a,c≤a →
 ACalls prog 10 [.ag 9] [.dg 9 x0] a (fun c d=>a≤d→Bel d c→∀ a,d≤a→ACalls prog 10 [.ag 9] [.dg 9 x1] a (fun d e=>
 a≤e→Bel e d→∀ a,e≤a→ACalls prog 11 [.bool] [.dg 9 c,.dg 9 d] a (fun e f=>a≤f→Br (!(e==b)) (∀ a,f
 ≤ a→Q false a) (∀ a,f≤a→ACalls prog 10 [.ag 9] [.dg 9 x0] a (fun b e=>a≤e→Bel e b→∀ a,e≤a→ACalls prog
 12 [.bool] [.dg 9 c,.dg 9 b] a (fun b c=>a≤c→Br (!b) (∀ a,c≤a→Q false a) (∀ a,c≤a→ACalls prog 10 [.ag 9]
 [.dg 9 x1] a (fun b c=>a≤c→Bel c b→∀ a,c≤a→ACalls prog 12 [.bool] [.dg 9 d,.dg 9 b] a (fun b c=>a≤c
 → Br (!b) (∀ a,c≤a→Q false a) (∀ a,c≤a→Q true a)))))))))))))))))):ACalls prog 3 [.bool] [PV.dg 9 x0,PV.dg 9 x1] N Q:=
  eE (H:=wi) (by kernel_rfl) (by kernel_rfl) h
end Go.Proofs.YtmfjakahanbnlaaGreatDoor
