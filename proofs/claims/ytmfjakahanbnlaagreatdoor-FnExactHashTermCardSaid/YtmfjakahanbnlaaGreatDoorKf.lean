/- Printed by gen.py: what the functions come to. -/
import Derived.Test.YtmfjakahanbnlaaGreatDoorJh
set_option linter.unusedVariables false
set_option maxRecDepth 100000
namespace Go.Proofs.YtmfjakahanbnlaaGreatDoor
open Go Go.Proofs Go.Proofs.Tryz
def u3:Hint:=⟨[hc 1 [0]],[],[]⟩
def tD:Hint:=⟨[hc 2 [0,1,2,7]],[],[]⟩
def xw:Hint:=⟨[hc 7 [0,2,3,5,8,9,10,11,12,13] [(12,9,0)],hc 15 [0,2,3,5,8,9,10,11,12,14]],[],[(1,[en 0,en 1,en 2,en 3,en 4,en 5,en 6,en 7,en 8,en 9,en 11,en 12,en 15,eh 10,eh 13,en 14,eh 16]),(3,hs 7 [ec 4 [35,36]]),(14,hs 1 [ec 0 [12]]),(22,[en 0,en 1,en 2,en 3,en 4,en 5,en 6,en 7,en 8,en 9,ec 10 [102,103],en 11,eh 12,en 13,eh 14])]⟩
def rl:Hint:=⟨[],[],[(1,[en 0,en 4,en 5,en 6,eh 1,en 2,en 3,ec 7 [8,9],eh 8])]⟩
def vu:Hint:=⟨[],[],[]⟩
def yI:Hint:=⟨[hc 11 [0,2,4,6,11,12,13,43,44,45] [(13,9,0)],hc 18 [0,2,6,11,12,13,16,66,67,68]],[],[(2,hs 4 [ec 1 [22]]),(7,hs 7 [ec 1 [36]]),(14,hs 9 [em 8 none [0,2,4,6,11,13,43,44,45] (some 12)]),(16,hs 4 [ec 1 [63]]),(21,[en 0,en 1,en 2,en 3,en 4,en 5,eh 6,en 7,eh 8]),(22,[en 0,en 1,en 2,en 3,en 4,en 5,eh 6,en 7,eh 8])]⟩
def ra:Hint:=⟨[],[],[(1,hs 6 [ec 1 [4]]),(2,hs 5 [em 2 none [2,9,10]])]⟩
def yv (Q:QT [.str]) (N0:Nat) (a0:Option Addr) (e0:List D) (c0:Nat) (a1:Option Addr) (e1:List D) (c1:Nat) (s2:ByteArray) (n7:Int) (N:Nat):Prop:=AT prog 171 [.str] Q N0 .ord (zF prog 171 2) ⟨.sv a0 0 e0 c0::.sv a1 0 e1 c1::.str s2::an 4 (.int .i64 n7::an 18 []),[],N,none⟩
def z7 (E:Env) (Q:QT [(Sh.ag 9),(Sh.sl 0),(Sh.int IntKind.i64)]) (N0:Nat) (a2:Option Addr) (e2:List D) (c2:Nat) (a3:Option Addr) (e3:List D) (c3:Nat) (a10:Option Addr) (e10:List D) (c10:Nat) (n11:Int) (m12 c12:Nat) (n13:Int) (a0_0:Option Addr) (e0_0:List D) (c0_0:Nat) (n0_1:Int) (y1:D) (n2_0:Int) (s2_1 s2_2:ByteArray) (n2_3 n2_4:Int) (a2_5:Option Addr) (e2_5:List D) (c2_5:Nat) (n2_6:Int) (a2_7:Option Addr) (e2_7:List D) (c2_7:Nat) (a2_8:Option Addr) (e2_8:List D) (c2_8:Nat) (n3_0:Int) (s3_1 s3_2:ByteArray) (n3_3:Int) (x3_4 x3_5 x3_6 x3_7:D) (a3_8:Option Addr) (e3_8:List D) (c3_8:Nat) (r4:List D) (q4:Nat) (N:Nat):Prop:=AT prog 108 [(Sh.ag 9),(Sh.sl 0),(Sh.int IntKind.i64)] Q N0 (.io E [.var [.sv none 0 [] 0,.int .i64 0]]) (zF prog 108 7) ⟨.pb 0 0 0 0::an 1 (.sv a2 0 e2 c2::.sv a3 0 e3 c3::an 1 (.pb 1 0 0 0::an 2 (.pb 2 0 0 0::.pb 3 0 0 0::.sv a10 0 e10 c10::.int .i64 n11::.sb 4 0 0 m12 c12::.int .i64 n13::an 95 []))),[.var [.sv a0_0 0 e0_0 c0_0,.int .i64 n0_1],.vd y1 9,.var [.int .i64 n2_0,.str s2_1,.str s2_2,.int .i64 n2_3,.int .i64 n2_4,.sv a2_5 2 e2_5 c2_5,.int .i64 n2_6,.sv a2_7 2 e2_7 c2_7,.sv a2_8 9 e2_8 c2_8],.var [.int .i64 n3_0,.str s3_1,.str s3_2,.int .i64 n3_3,.dc x3_4,.dc x3_5,.dc x3_6,.dc x3_7,.sv a3_8 9 e3_8 c3_8],.arr 9 0 r4 q4],N,some (xz E 0 [.var [.sv none 0 [] 0,.int .i64 0]],[])⟩
def zY (E:Env) (Q:QT [(Sh.ag 9),(Sh.sl 0)]) (N0:Nat) (x2:D) (n11:Int) (x12:D) (m13 c13:Nat) (a43:Option Addr) (e43:List D) (c43:Nat) (n44 n45:Int) (m0_0 c0_0:Nat) (r1:List D) (q1:Nat) (y2:D) (n3_0:Int) (s3_1 s3_2:ByteArray) (n3_3 n3_4:Int) (a3_5:Option Addr) (e3_5:List D) (c3_5:Nat) (n3_6:Int) (a3_7:Option Addr) (e3_7:List D) (c3_7:Nat) (a3_8:Option Addr) (e3_8:List D) (c3_8:Nat) (r4:List D) (q4:Nat) (N:Nat):Prop:=AT prog 117 [(Sh.ag 9),(Sh.sl 0)] Q N0 (.io E [.var [.sb 1 0 0 0 0],.arr 9 0 [] 0]) (zF prog 117 11) ⟨.pb 0 0 0 0::an 1 (.dc x2::an 1 (.pb 2 0 0 0::an 1 (.pb 3 0 0 0::an 4 (.int .i64 n11::.dc x12::.sb 4 0 0 m13 c13::an 29 (.sv a43 0 e43 c43::.int .i64 n44::.int .i64 n45::an 62 []))))),[.var [.sb 1 0 0 m0_0 c0_0],.arr 9 0 r1 q1,.vd y2 9,.var [.int .i64 n3_0,.str s3_1,.str s3_2,.int .i64 n3_3,.int .i64 n3_4,.sv a3_5 2 e3_5 c3_5,.int .i64 n3_6,.sv a3_7 2 e3_7 c3_7,.sv a3_8 9 e3_8 c3_8],.arr 9 0 r4 q4],N,some (xz E 0 [.var [.sb 1 0 0 0 0],.arr 9 0 [] 0],[])⟩
def ze (E:Env) (Q:QT [(Sh.ag 9),(Sh.sl 0),(Sh.int IntKind.i64)]) (N0:Nat) (a2:Option Addr) (e2:List D) (c2:Nat) (a3:Option Addr) (e3:List D) (c3:Nat) (a10:Option Addr) (e10:List D) (c10:Nat) (n11:Int) (a12:Option Addr) (e12:List D) (c12:Nat) (n14:Int) (a0_0:Option Addr) (e0_0:List D) (c0_0:Nat) (n0_1:Int) (y1:D) (n2_0:Int) (s2_1 s2_2:ByteArray) (n2_3 n2_4:Int) (a2_5:Option Addr) (e2_5:List D) (c2_5:Nat) (n2_6:Int) (a2_7:Option Addr) (e2_7:List D) (c2_7:Nat) (a2_8:Option Addr) (e2_8:List D) (c2_8:Nat) (n3_0:Int) (s3_1 s3_2:ByteArray) (n3_3:Int) (x3_4 x3_5 x3_6 x3_7:D) (a3_8:Option Addr) (e3_8:List D) (c3_8:Nat) (N:Nat):Prop:=AT prog 108 [(Sh.ag 9),(Sh.sl 0),(Sh.int IntKind.i64)] Q N0 (.io E [.var [.sv none 0 [] 0,.int .i64 0]]) (zF prog 108 15) ⟨.pb 0 0 0 0::an 1 (.sv a2 0 e2 c2::.sv a3 0 e3 c3::an 1 (.pb 1 0 0 0::an 2 (.pb 2 0 0 0::.pb 3 0 0 0::.sv a10 0 e10 c10::.int .i64 n11::.sv a12 0 e12 c12::an 1 (.int .i64 n14::an 94 [])))),[.var [.sv a0_0 0 e0_0 c0_0,.int .i64 n0_1],.vd y1 9,.var [.int .i64 n2_0,.str s2_1,.str s2_2,.int .i64 n2_3,.int .i64 n2_4,.sv a2_5 2 e2_5 c2_5,.int .i64 n2_6,.sv a2_7 2 e2_7 c2_7,.sv a2_8 9 e2_8 c2_8],.var [.int .i64 n3_0,.str s3_1,.str s3_2,.int .i64 n3_3,.dc x3_4,.dc x3_5,.dc x3_6,.dc x3_7,.sv a3_8 9 e3_8 c3_8]],N,some (xz E 0 [.var [.sv none 0 [] 0,.int .i64 0]],[])⟩
def zE (E:Env) (Q:QT [(Sh.ag 9),(Sh.sl 0)]) (N0:Nat) (x2:D) (n11:Int) (x12:D) (m13 c13:Nat) (a66:Option Addr) (e66:List D) (c66:Nat) (n67 n68:Int) (m0_0 c0_0:Nat) (r1:List D) (q1:Nat) (n2_0:Int) (s2_1 s2_2:ByteArray) (n2_3 n2_4:Int) (a2_5:Option Addr) (e2_5:List D) (c2_5:Nat) (n2_6:Int) (a2_7:Option Addr) (e2_7:List D) (c2_7:Nat) (a2_8:Option Addr) (e2_8:List D) (c2_8:Nat) (r3:List D) (q3:Nat) (n4_0:Int) (s4_1 s4_2:ByteArray) (n4_3:Int) (x4_4 x4_5 x4_6 x4_7:D) (m4_8 c4_8:Nat) (r5:List D) (q5:Nat) (N:Nat):Prop:=AT prog 117 [(Sh.ag 9),(Sh.sl 0)] Q N0 (.io E [.var [.sb 1 0 0 0 0],.arr 9 0 [] 0]) (zF prog 117 18) ⟨.pb 0 0 0 0::an 1 (.dc x2::an 3 (.pb 2 0 0 0::an 4 (.int .i64 n11::.dc x12::.sb 3 0 0 m13 c13::an 2 (.pb 4 0 0 0::an 49 (.sv a66 9 e66 c66::.int .i64 n67::.int .i64 n68::an 39 []))))),[.var [.sb 1 0 0 m0_0 c0_0],.arr 9 0 r1 q1,.var [.int .i64 n2_0,.str s2_1,.str s2_2,.int .i64 n2_3,.int .i64 n2_4,.sv a2_5 2 e2_5 c2_5,.int .i64 n2_6,.sv a2_7 2 e2_7 c2_7,.sv a2_8 9 e2_8 c2_8],.arr 9 0 r3 q3,.var [.int .i64 n4_0,.str s4_1,.str s4_2,.int .i64 n4_3,.dc x4_4,.dc x4_5,.dc x4_6,.dc x4_7,.sb 5 9 0 m4_8 c4_8],.arr 35 9 r5 q5],N,some (xz E 0 [.var [.sb 1 0 0 0 0],.arr 9 0 [] 0],[])⟩
def yk (E:Env) (Q:QT [Sh.str,(Sh.sl 0),(Sh.int IntKind.i64)]) (N0:Nat) (a0_0:Option Addr) (e0_0:List D) (c0_0:Nat) (n0_1:Int) (N:Nat):Prop:=AT prog 173 [Sh.str,(Sh.sl 0),(Sh.int IntKind.i64)] Q N0 (.io E [.var [.sv none 0 [] 0,.int .i64 0]]) (zF prog 173 1) ⟨.pb 0 0 0 0::an 25 [],[.var [.sv a0_0 0 e0_0 c0_0,.int .i64 n0_1]],N,some (xz E 0 [.var [.sv none 0 [] 0,.int .i64 0]],[])⟩
def zN (E:Env) (Q:QT [(Sh.ag 9),(Sh.sl 0),(Sh.int IntKind.i64)]) (N0:Nat) (a2:Option Addr) (e2:List D) (c2:Nat) (a3:Option Addr) (e3:List D) (c3:Nat) (a10:Option Addr) (e10:List D) (c10:Nat) (n11:Int) (a12:Option Addr) (e12:List D) (c12:Nat) (n14:Int) (a0_0:Option Addr) (e0_0:List D) (c0_0:Nat) (n0_1:Int) (y1:D) (n2_0:Int) (s2_1 s2_2:ByteArray) (n2_3 n2_4:Int) (a2_5:Option Addr) (e2_5:List D) (c2_5:Nat) (n2_6:Int) (a2_7:Option Addr) (e2_7:List D) (c2_7:Nat) (a2_8:Option Addr) (e2_8:List D) (c2_8:Nat) (n3_0:Int) (s3_1 s3_2:ByteArray) (n3_3:Int) (x3_4 x3_5 x3_6 x3_7:D) (m3_8 c3_8:Nat) (r4:List D) (q4:Nat) (N:Nat):Prop:=AT prog 108 [(Sh.ag 9),(Sh.sl 0),(Sh.int IntKind.i64)] Q N0 (.io E [.var [.sv none 0 [] 0,.int .i64 0]]) (zF prog 108 15) ⟨.pb 0 0 0 0::an 1 (.sv a2 0 e2 c2::.sv a3 0 e3 c3::an 1 (.pb 1 0 0 0::an 2 (.pb 2 0 0 0::.pb 3 0 0 0::.sv a10 0 e10 c10::.int .i64 n11::.sv a12 0 e12 c12::an 1 (.int .i64 n14::an 94 [])))),[.var [.sv a0_0 0 e0_0 c0_0,.int .i64 n0_1],.vd y1 9,.var [.int .i64 n2_0,.str s2_1,.str s2_2,.int .i64 n2_3,.int .i64 n2_4,.sv a2_5 2 e2_5 c2_5,.int .i64 n2_6,.sv a2_7 2 e2_7 c2_7,.sv a2_8 9 e2_8 c2_8],.var [.int .i64 n3_0,.str s3_1,.str s3_2,.int .i64 n3_3,.dc x3_4,.dc x3_5,.dc x3_6,.dc x3_7,.sb 4 9 0 m3_8 c3_8],.arr 35 9 r4 q4],N,some (xz E 0 [.var [.sv none 0 [] 0,.int .i64 0]],[])⟩
theorem zAO (N:Nat) (a0:Option Addr) (e0:List D) (c0:Nat) (a1:Option Addr) (e1:List D) (c1:Nat) (s2:ByteArray) (Q:QT [.str]) (h :
Bel N (D.sl a0 0 e0 c0)->Bel N (D.sl a1 0 e1 c1)->yv Q N a0 e0 c0 a1 e1 c1 s2 (IntKind.i64.wrap ((e0.length:Int) - 1)) N):ACalls prog 171 [.str] [PV.sv a0 0 e0 c0,PV.sv a1 0 e1 c1,PV.str s2] N Q:=
 eE (H:=tD) (by kernel_rfl) (by kernel_rfl) h
theorem rq (N:Nat) (x0:D) (Q:QT [.ag 9]) (h :
Bel N x0->∀ b,N<=b->ACalls prog 109 [.sl 0] [.dg 9 x0] b (fun a c d e=>b<=e->Bel e (D.sl a 0 c d)->(0=0/\0=0)/\∀ b f,e<=f
 -> Fresh N f b [D.ag []]->(0=0/\0=0)/\∀ e g,f<=g->Fresh N g e [D.ag []]->∀ f,g<=f->BCalls prog 108 [.ag 9,.sl 0,.int .i64] [.pb
 0 0 0 0,.dg 9 x0,.sv b 0 [] 0,.sv e 0 [] 0] [Bx.var [.sv a 0 c d,.int .i64 0]] f (fun x a b c _ d=>f<=d->Bel d x->Bel d (D.sl a
 0 b c)->∀ a,d<=a->Q x a))):ACalls prog 47 [.ag 9] [PV.dg 9 x0] N Q:=
  eE (H:=rl) (by kernel_rfl) (by kernel_rfl) h
theorem rd (N:Nat) (x0:D) (Q:QT [.ag 9]) (h :
Bel N x0->∀ d,N<=d->ACalls prog 116 [.row (OfNat.ofNat 9) 0] [.dg 9 x0] d (fun c e f=>d<=f->Bel f (D.ag c)->(c.length=c.length/\e =
 e)/\∀ a,ApA a c->∀ d,f<=d->rx d [a]->ACalls prog 115 [.row (OfNat.ofNat 9) 0] [.sv a 0 c e] d (fun c e f=>d<=f->Off [a] (D.ag
 c)/\(Bel f (D.ag c)->∀ (b:Nat) a,f<=b->b<a->∀ d,a<=d->BCalls prog 117 [.ag 9,.sl 0] [.pb 0 0 0 0,.dg 9 x0,.dc (D.mp b (List.toArray
 []) 0)] [Bx.var [.sb 1 0 0 c.length e],Bx.arr 9 0 c e] d (fun x a b c e=>d<=e->Bel e x->Bel e (D.sl a 0 b c)->∀ a,e
 <= a->Q x a))))):ACalls prog 52 [.ag 9] [PV.dg 9 x0] N Q:=
  eE (H:=ra) (by kernel_rfl) (by kernel_rfl) h
theorem vW (Q:QT [.str]) (N0:Nat) (a0:Option Addr) (e0:List D) (c0:Nat) (a1:Option Addr) (e1:List D) (c1:Nat) (s2:ByteArray) (n7:Int) (N:Nat) (h :
Br (decide (n7≥0)) ((0<=n7/\n7<(e0.length:Int))/\∃ s,List.getD e0 n7.toNat default=D.lit (.string s)/\Br (ByteArray.toList s==ByteArray.toList s2)
 ((0<=n7/\n7<(e1.length:Int))/\∃ a,List.getD e1 n7.toNat default=D.lit (.string a)/\∀ b,N<=b->Q a b) (yv Q N0 a0 e0 c0 a1
 e1 c1 s2 (IntKind.i64.wrap (n7 - 1)) N)) (∀ a,N<=a->Q s2 a)):yv Q N0 a0 e0 c0 a1 e1 c1 s2 n7 N:=
  hE (H:=tD) (by kernel_rfl) h
theorem rm (N:Nat) (x1:D) (a2:Option Addr) (e2:List D) (c2:Nat) (a3:Option Addr) (e3:List D) (c3:Nat) (aB0_0:Option Addr) (eB0_0:List D) (cB0_0:Nat) (nB0_1:Int) (Q:QT [(Sh.ag 9),(Sh.sl 0),(Sh.int IntKind.i64)]) (h:∀ E:Env,
Bel N x1->Bel N (D.sl a2 0 e2 c2)->Bel N (D.sl a3 0 e3 c3)->Bel N (D.sl aB0_0 0 eB0_0 cB0_0)->∃ n:Int,(x1.cell 0)=D.lit (.int .i64 n)/\∃ s,(x1.cell 1)
 = D.lit (.string s)/\∃ b,(x1.cell 2)=D.lit (.string b)/\∃ d:Int,(x1.cell 3)=D.lit (.int .i64 d)/\∀ e,N<=e->ACalls prog 141 [.ag 2] [.dg
 2 (D.sub x1 4 2)] e (fun x f=>e<=f->Bel f x->∀ e,f<=e->ACalls prog 141 [.ag 2] [.dg 2 (D.sub x1 6 2)] e (fun f g=>e<=g->Bel
 g f->∃ e:Int,(x1.cell 0)=D.lit (.int .i64 e)/\Br (e==1) (∃ e,(x1.cell 1)=D.lit (.string e)/\∀ h,g<=h->ACalls prog 171 [.str]
 [.sv a2 0 e2 c2,.sv a3 0 e3 c3,.str e] h (fun e g=>h<=g->∀ h,g<=h->ACalls prog 172 [.sl 0,.int .i64] [.dg 9 x1] h (fun a c g i j
 => h<=j->Bel j (D.sl a 0 c g)->z7 E Q N a2 e2 c2 a3 e3 c3 a c g i 0 0 0 aB0_0 eB0_0 cB0_0 nB0_1 x1 0 (bytes []) (bytes []) 0 0 Option.none
 [] 0 0 Option.none [] 0 Option.none [] 0 n e b d (x.cell 0) (x.cell 1) (f.cell 0) (f.cell 1) Option.none [] 0 [] 0 j))) (∀ a,g<=a->ACalls prog
 172 [.sl 0,.int .i64] [.dg 9 x1] a (fun c e g h i=>a<=i->Bel i (D.sl c 0 e g)->z7 E Q N a2 e2 c2 a3 e3 c3 c e
 g h 0 0 0 aB0_0 eB0_0 cB0_0 nB0_1 x1 0 (bytes []) (bytes []) 0 0 Option.none [] 0 0 Option.none [] 0 Option.none [] 0 n s b d (x.cell 0) (x.cell 1) (f.cell
 0) (f.cell 1) Option.none [] 0 [] 0 i))))):BCalls prog 108 [(Sh.ag 9),(Sh.sl 0),(Sh.int IntKind.i64)] [.pb 0 0 0 0,.dg 9 x1,.sv a2 0 e2 c2,.sv a3 0 e3 c3] [.var [.sv aB0_0 0 eB0_0 cB0_0,.int .i64 nB0_1]] N Q:=
  bE (H:=xw) (by kernel_rfl) (fun E=>by kernel_rfl) h
theorem wt (N:Nat) (x1 x2:D) (mB0_0 cB0_0:Nat) (rB1:List D) (qB1:Nat) (Q:QT [(Sh.ag 9),(Sh.sl 0)]) (h:∀ E:Env,
Bel N x1->Bel N (D.sl Option.none 0 rB1 qB1)->∃ n:Int,(x1.cell 0)=D.lit (.int .i64 n)/\Br (n==1) (∀ d,N<=d->ACalls prog 101 [Sh.pk,.int .i64,.str,
 .str,.int .i64,Sh.dc,Sh.dc,Sh.dc,Sh.dc,.row (OfNat.ofNat 35) 9] [.dg 9 x1] d (fun c s e f x g h i j k l=>d<=l->Bel l (D.ag j) ->
 ∃ d,(x1.cell 1)=D.lit (.string d)/\∃ b:Nat,∃ a:Array MapEntry,∃ m:Nat,x2=D.mp b a m/\∃ b:Option ByteArray,zEr prog 134 a m d
 b/\Br (Option.isSome b) ((j.length=j.length/\k=k)/\(j.length=j.length/\k=k)/\(j.length=j.length/\k=k)/\(j.length=j.length/\k =
 k)/\∀ a d,l<=d->Fresh N d a [D.ag j,x,g,h,i]->zFU E [.var [.sb 1 0 0 0 0],.arr 9 0 [] 0]/\(mB0_0=rB1.length/\cB0_0=qB1)/\∀ l,
 d<=l->Q (D.ag [D.lit (.int .i64 c),D.lit (.string (Option.getD b (bytes []))),D.lit (.string e),D.lit (.int .i64 f),x,g,h,i,D.sl a
 9 j k]) Option.none rB1 qB1 l) ((j.length=j.length/\k=k)/\(j.length=j.length/\k=k)/\(j.length=j.length/\k=k)/\(j.length=j.length /\
 k=k)/\∀ a b,l<=b->Fresh N b a [D.ag j,x,g,h,i]->zFU E [.var [.sb 1 0 0 0 0],.arr 9 0 [] 0]/\(mB0_0=rB1.length/\cB0_0=qB1) /\
 ∀ d,b<=d->Q (D.ag [D.lit (.int .i64 c),D.lit (.string s),D.lit (.string e),D.lit (.int .i64 f),x,g,h,i,D.sl a 9 j k]) Option.none
 rB1 qB1 d))) (∀ a,N<=a->ACalls prog 181 [.sl 0,.int .i64] [.dg 9 x1] a (fun b c d e f=>a<=f->Bel f (D.sl b 0 c d)->∀ a,
 f<=a->ACalls prog 186 [Sh.dc] [.dc x2] a (fun f g=>a<=g->zY E Q N x2 e f 0 0 b c d (c.length:Int) 0
 mB0_0 cB0_0 rB1 qB1 x1 0 (bytes []) (bytes []) 0 0 Option.none [] 0 0 Option.none [] 0 Option.none [] 0 [] 0 g)))):BCalls prog 117 [(Sh.ag 9),(Sh.sl 0)] [.pb 0 0 0 0,.dg 9 x1,.dc x2] [.var [.sb 1 0 0 mB0_0 cB0_0],.arr 9 0 rB1 qB1] N Q:=
  bE (H:=yI) (by kernel_rfl) (fun E=>by kernel_rfl) h
theorem uL (E:Env) (Q:QT [(Sh.ag 9),(Sh.sl 0),(Sh.int IntKind.i64)]) (N0:Nat) (a2:Option Addr) (e2:List D) (c2:Nat) (a3:Option Addr) (e3:List D) (c3:Nat) (a10:Option Addr) (e10:List D) (c10:Nat) (n11:Int) (m12 c12:Nat) (n13:Int) (a0_0:Option Addr) (e0_0:List D) (c0_0:Nat) (n0_1:Int) (y1:D) (n2_0:Int) (s2_1 s2_2:ByteArray) (n2_3 n2_4:Int) (a2_5:Option Addr) (e2_5:List D) (c2_5:Nat) (n2_6:Int) (a2_7:Option Addr) (e2_7:List D) (c2_7:Nat) (a2_8:Option Addr) (e2_8:List D) (c2_8:Nat) (n3_0:Int) (s3_1 s3_2:ByteArray) (n3_3:Int) (x3_4 x3_5 x3_6 x3_7:D) (a3_8:Option Addr) (e3_8:List D) (c3_8:Nat) (r4:List D) (q4:Nat) (N:Nat) (h :
Br (decide (n13<(e10.length:Int))) (∀ b,N<=b->BCalls prog 173 [.str,.sl 0,.int .i64] [.pb 0 0 0 0] [Bx.var [.sv a0_0 0 e0_0 c0_0,.int .i64 n0_1]] b
 (fun s a c d n e=>b<=e->Bel e (D.sl a 0 c d)->(m12=r4.length/\c12=q4)/\zC r4 [D.lit (.string s)] 16/\∀ (b:Nat),z7 E
 Q N0 a2 e2 c2 a3 e3 c3 a10 e10 c10 n11 (r4++[D.lit (.string s)]).length b (IntKind.i64.wrap (n13+1)) a c d n y1 n2_0 s2_1 s2_2 n2_3 n2_4 a2_5 e2_5 c2_5 n2_6
 a2_7 e2_7 c2_7 a2_8 e2_8 c2_8 n3_0 s3_1 s3_2 n3_3 x3_4 x3_5 x3_6 x3_7 a3_8 e3_8 c3_8 (r4++[D.lit (.string s)]) b e)) (Br (decide ((m12:Int)>0)) (((0 :
 Int)<=(0:Int)/\0<(m12:Int)/\0<r4.length)/\0<r4.length/\∃ a,List.getD r4 0 default=D.lit (.string a)/\Br (decide ((m12:Int)>1)) (((0 :
 Int)<=(1:Int)/\1<(m12:Int)/\1<r4.length)/\1<r4.length/\∃ b,List.getD r4 1 default=D.lit (.string b)/\(m12=r4.length/\c12=q4)/\(m12 =
 r4.length/\c12=q4)/\(m12=r4.length/\c12=q4)/\(m12=r4.length/\c12=q4)/\(m12=r4.length/\c12=q4)/\∀ c d,N<=d->Fresh N0 d c [D.ag
 r4]->ze E Q N0 a2 e2 c2 a3 e3 c3 a10 e10 c10 n11 c r4 q4 0 a0_0 e0_0 c0_0 n0_1 y1 n2_0 s2_1 s2_2 n2_3 n2_4 a2_5 e2_5 c2_5 n2_6 a2_7 e2_7 c2_7 a2_8
 e2_8 c2_8 n3_0 a b n3_3 x3_4 x3_5 x3_6 x3_7 a3_8 e3_8 c3_8 d) ((m12=r4.length/\c12=q4)/\(m12=r4.length/\c12=q4)/\(m12=r4.length/\c12=q4) /\
 (m12=r4.length/\c12=q4)/\∀ b c,N<=c->Fresh N0 c b [D.ag r4]->ze E Q N0 a2 e2 c2 a3 e3 c3 a10 e10 c10 n11 b r4 q4 0 a0_0 e0_0
 c0_0 n0_1 y1 n2_0 s2_1 s2_2 n2_3 n2_4 a2_5 e2_5 c2_5 n2_6 a2_7 e2_7 c2_7 a2_8 e2_8 c2_8 n3_0 a s3_2 n3_3 x3_4 x3_5 x3_6 x3_7 a3_8 e3_8 c3_8 c)) (Br (decide ((m12
 : Int)>1)) (((0:Int)<=(1:Int)/\1<(m12:Int)/\1<r4.length)/\1<r4.length/\∃ a,List.getD r4 1 default=D.lit (.string a)/\(m12=r4.length
 /\ c12=q4)/\(m12=r4.length/\c12=q4)/\(m12=r4.length/\c12=q4)/\(m12=r4.length/\c12=q4)/\∀ b c,N<=c->Fresh N0 c b [D.ag r4]->ze
 E Q N0 a2 e2 c2 a3 e3 c3 a10 e10 c10 n11 b r4 q4 0 a0_0 e0_0 c0_0 n0_1 y1 n2_0 s2_1 s2_2 n2_3 n2_4 a2_5 e2_5 c2_5 n2_6 a2_7 e2_7 c2_7 a2_8 e2_8 c2_8 n3_0 s3_1
 a n3_3 x3_4 x3_5 x3_6 x3_7 a3_8 e3_8 c3_8 c) ((m12=r4.length/\c12=q4)/\(m12=r4.length/\c12=q4)/\(m12=r4.length/\c12=q4)/\∀ a b,N<=b
 -> Fresh N0 b a [D.ag r4]->ze E Q N0 a2 e2 c2 a3 e3 c3 a10 e10 c10 n11 a r4 q4 0 a0_0 e0_0 c0_0 n0_1 y1 n2_0 s2_1 s2_2 n2_3 n2_4 a2_5 e2_5 c2_5
 n2_6 a2_7 e2_7 c2_7 a2_8 e2_8 c2_8 n3_0 s3_1 s3_2 n3_3 x3_4 x3_5 x3_6 x3_7 a3_8 e3_8 c3_8 b)))):z7 E Q N0 a2 e2 c2 a3 e3 c3 a10 e10 c10 n11 m12 c12 n13 a0_0 e0_0 c0_0 n0_1 y1 n2_0 s2_1 s2_2 n2_3 n2_4 a2_5 e2_5 c2_5 n2_6 a2_7 e2_7 c2_7 a2_8 e2_8 c2_8 n3_0 s3_1 s3_2 n3_3 x3_4 x3_5 x3_6 x3_7 a3_8 e3_8 c3_8 r4 q4 N:=
  hE (H:=xw) (by kernel_rfl) h
theorem yg (E:Env) (Q:QT [(Sh.ag 9),(Sh.sl 0)]) (N0:Nat) (x2:D) (n11:Int) (x12:D) (m13 c13:Nat) (a43:Option Addr) (e43:List D) (c43:Nat) (n44 n45:Int) (m0_0 c0_0:Nat) (r1:List D) (q1:Nat) (y2:D) (n3_0:Int) (s3_1 s3_2:ByteArray) (n3_3 n3_4:Int) (a3_5:Option Addr) (e3_5:List D) (c3_5:Nat) (n3_6:Int) (a3_7:Option Addr) (e3_7:List D) (c3_7:Nat) (a3_8:Option Addr) (e3_8:List D) (c3_8:Nat) (r4:List D) (q4:Nat) (N:Nat) (h :
Br (decide (n45<n44)) ((0<=n45/\n45<(e43.length:Int))/\∃ s,List.getD e43 n45.toNat default=D.lit (.string s)/\∀ d,N<=d->BCalls prog 187 [.str,
 .sl 0] [.pb 0 0 0 0] [Bx.var [.sb 1 0 0 m0_0 c0_0],Bx.arr 9 0 r1 q1] d (fun a c e f g=>d<=g->Bel g (D.sl c 0 e f)->(m13=r4.length/\c13=q4)
 /\ zC r4 [D.lit (.string a)] 16/\∀ (c:Nat),(0<=IntKind.i64.wrap (((r4++[D.lit (.string a)]).length:Int) - 1)/\IntKind.i64.wrap (((r4++[D.lit
 (.string a)]).length:Int) - 1)<((r4++[D.lit (.string a)]).length:Int)/\(0+(IntKind.i64.wrap (((r4++[D.lit (.string a)]).length:Int) - 1)).toNat
 : Nat)<(r4++[D.lit (.string a)]).length)/\(0+(IntKind.i64.wrap (((r4++[D.lit (.string a)]).length:Int) - 1)).toNat:Nat)<(r4++[D.lit (.string
 a)]).length/\∃ d,List.getD (r4++[D.lit (.string a)]) (0+(IntKind.i64.wrap (((r4++[D.lit (.string a)]).length:Int) - 1)).toNat:Nat) default =
 D.lit (.string d)/\∃ b:Nat,∃ h:Array MapEntry,∃ i:Nat,x12=D.mp b h i/\x12=x12/\N0<=b/\Dis x12 [x2,D.sl a43 0 e43 c43,D.ag e,y2,D.sl
 a3_5 2 e3_5 c3_5,D.sl a3_7 2 e3_7 c3_7,D.sl a3_8 9 e3_8 c3_8,D.ag (r4++[D.lit (.string a)]),D.ag [D.lit (.string a)]]/\∃ j:Array MapEntry,∃ k :
 Nat,zE8 prog 134 h i s d j k/\zY E Q N0 x2 n11 (D.mp b j k) (r4++[D.lit (.string a)]).length c a43 e43 c43 n44 (IntKind.i64.wrap
 (n45+1)) e.length f e f y2 n3_0 s3_1 s3_2 n3_3 n3_4 a3_5 e3_5 c3_5 n3_6 a3_7 e3_7 c3_7 a3_8 e3_8 c3_8 (r4++[D.lit (.string a)]) c g)) (∀ a,N<=a
 -> ACalls prog 101 [Sh.pk,.int .i64,.str,.str,.int .i64,Sh.dc,Sh.dc,Sh.dc,Sh.dc,.row (OfNat.ofNat 35) 9] [.dg 9 y2] a (fun n b c d x e f g
 h i j=>a<=j->Bel j (D.ag h)->∃ a k,∃ l:Nat,(y2.cell 8)=D.sl a 9 k l/\zE E Q N0 x2 n11 x12 m13 c13
 a k l (k.length:Int) 0 m0_0 c0_0 r1 q1 n3_0 s3_1 s3_2 n3_3 n3_4 a3_5 e3_5 c3_5 n3_6 a3_7 e3_7 c3_7 a3_8 e3_8 c3_8 r4 q4 n b c d x e f g h.length
 i h i j))):zY E Q N0 x2 n11 x12 m13 c13 a43 e43 c43 n44 n45 m0_0 c0_0 r1 q1 y2 n3_0 s3_1 s3_2 n3_3 n3_4 a3_5 e3_5 c3_5 n3_6 a3_7 e3_7 c3_7 a3_8 e3_8 c3_8 r4 q4 N:=
  hE (H:=yI) (by kernel_rfl) h
theorem s5 (N:Nat) (aB0_0:Option Addr) (eB0_0:List D) (cB0_0:Nat) (nB0_1:Int) (Q:QT [Sh.str,(Sh.sl 0),(Sh.int IntKind.i64)]) (h:∀ E:Env,
Bel N (D.sl aB0_0 0 eB0_0 cB0_0)->yk E Q N aB0_0 eB0_0 cB0_0 nB0_1 N):BCalls prog 173 [Sh.str,(Sh.sl 0),(Sh.int IntKind.i64)] [.pb 0 0 0 0] [.var [.sv aB0_0 0 eB0_0 cB0_0,.int .i64 nB0_1]] N Q:=
 bE (H:=u3) (by kernel_rfl) (fun E=>by kernel_rfl) h
theorem vX (E:Env) (Q:QT [(Sh.ag 9),(Sh.sl 0),(Sh.int IntKind.i64)]) (N0:Nat) (a2:Option Addr) (e2:List D) (c2:Nat) (a3:Option Addr) (e3:List D) (c3:Nat) (a10:Option Addr) (e10:List D) (c10:Nat) (n11:Int) (a12:Option Addr) (e12:List D) (c12:Nat) (n14:Int) (a0_0:Option Addr) (e0_0:List D) (c0_0:Nat) (n0_1:Int) (y1:D) (n2_0:Int) (s2_1 s2_2:ByteArray) (n2_3 n2_4:Int) (a2_5:Option Addr) (e2_5:List D) (c2_5:Nat) (n2_6:Int) (a2_7:Option Addr) (e2_7:List D) (c2_7:Nat) (a2_8:Option Addr) (e2_8:List D) (c2_8:Nat) (n3_0:Int) (s3_1 s3_2:ByteArray) (n3_3:Int) (x3_4 x3_5 x3_6 x3_7:D) (a3_8:Option Addr) (e3_8:List D) (c3_8:Nat) (N:Nat) (h :
∃ a b,∃ c:Nat,(y1.cell 8)=D.sl a 9 b c/\Br (decide (n14<(b.length:Int))) (Br (n14==n11) ((0=0/\0=0)/\zC [] e2 16/\∀ (a:Nat),(([]
 ++ e2).length=([]++e2).length/\a=a)/\zC ([]++e2) e10 16/\∀ (a:Nat),(0=0/\0=0)/\zC [] e3 16/\∀ (b:Nat),(([]++e3).length
 = ([]++e3).length/\b=b)/\zC ([]++e3) e12 16/\∀ (b:Nat),∃ c d,∃ e:Nat,(y1.cell 8)=D.sl c 9 d e/\(0<=n14/\n14<(d.length
 : Int))/\(([]++e2++e10).length=([]++e2++e10).length/\a=a)/\(([]++e2++e10).length=([]++e2++e10).length/\a=a)/\(([]++e2++e10).length
 = ([]++e2++e10).length/\a=a)/\∀ c e,N<=e->Fresh N0 e c [D.ag ([]++e2++e10)]->(([]++e3++e12).length=([]++e3++e12).length /\
 b=b)/\(([]++e3++e12).length=([]++e3++e12).length/\b=b)/\(([]++e3++e12).length=([]++e3++e12).length/\b=b)/\∀ f g,e
 <= g->Fresh N0 g f [D.ag ([]++e3++e12)]->∀ e,g<=e->BCalls prog 108 [.ag 9,.sl 0,.int .i64] [.pb 0 0 0 0,.dg 9 (List.getD d n14.toNat default),
 .sv c 0 ([]++e2++e10) a,.sv f 0 ([]++e3++e12) b] [Bx.var [.sv a0_0 0 e0_0 c0_0,.int .i64 n0_1]] e (fun x a b c n d=>e<=d->Bel
 d x->Bel d (D.sl a 0 b c)->zJl a3_8 e3_8 c3_8 [x]/\zC e3_8 [x] 136/\∀ (e:Nat),zN E Q N0 a2 e2 c2 a3 e3 c3 a10 e10 c10
 n11 a12 e12 c12 (IntKind.i64.wrap (n14+1)) a b c n y1 n2_0 s2_1 s2_2 n2_3 n2_4 a2_5 e2_5 c2_5 n2_6 a2_7 e2_7 c2_7 a2_8 e2_8 c2_8 n3_0 s3_1 s3_2 n3_3 x3_4
 x3_5 x3_6 x3_7 (e3_8++[x]).length e (e3_8++[x]) e d)) (∃ a b,∃ c:Nat,(y1.cell 8)=D.sl a 9 b c/\(0<=n14/\n14<(b.length:Int))
 /\ ∀ a,N<=a->BCalls prog 108 [.ag 9,.sl 0,.int .i64] [.pb 0 0 0 0,.dg 9 (List.getD b n14.toNat default),.sv a2 0 e2 c2,.sv a3 0 e3 c3] [Bx.var [.sv
 a0_0 0 e0_0 c0_0,.int .i64 n0_1]] a (fun b c d e f g=>a<=g->Bel g b->Bel g (D.sl c 0 d e)->zJl a3_8 e3_8 c3_8 [b]/\zC
 e3_8 [b] 136/\∀ (a:Nat),zN E Q N0 a2 e2 c2 a3 e3 c3 a10 e10 c10 n11 a12 e12 c12 (IntKind.i64.wrap (n14+1)) c d e f y1 n2_0 s2_1
 s2_2 n2_3 n2_4 a2_5 e2_5 c2_5 n2_6 a2_7 e2_7 c2_7 a2_8 e2_8 c2_8 n3_0 s3_1 s3_2 n3_3 x3_4 x3_5 x3_6 x3_7 (e3_8++[b]).length a (e3_8++[b]) a g)))
 (zFU E [.var [.sv none 0 [] 0,.int .i64 0]]/\∀ a,N<=a->Q (D.ag [D.lit (.int .i64 n3_0),D.lit (.string s3_1),D.lit (.string s3_2),D.lit (.int .i64 n3_3),
 x3_4,x3_5,x3_6,x3_7,D.sl a3_8 9 e3_8 c3_8]) a0_0 e0_0 c0_0 n0_1 a)):ze E Q N0 a2 e2 c2 a3 e3 c3 a10 e10 c10 n11 a12 e12 c12 n14 a0_0 e0_0 c0_0 n0_1 y1 n2_0 s2_1 s2_2 n2_3 n2_4 a2_5 e2_5 c2_5 n2_6 a2_7 e2_7 c2_7 a2_8 e2_8 c2_8 n3_0 s3_1 s3_2 n3_3 x3_4 x3_5 x3_6 x3_7 a3_8 e3_8 c3_8 N:=
  hE (H:=xw) (by kernel_rfl) h
theorem w9 (N:Nat) (mB0_0 cB0_0:Nat) (rB1:List D) (qB1:Nat) (Q:QT [Sh.str,(Sh.sl 0)]) (h:∀ E:Env,
Bel N (D.sl Option.none 0 rB1 qB1)->(mB0_0=rB1.length/\cB0_0=qB1)/\∀ a,ApA a rB1->∀ b,N<=b->rx b [a]->ACalls prog 244 [.str] [.str (bytes [98]),
 .sv a 0 rB1 cB0_0] b (fun s a=>b<=a->(mB0_0=rB1.length/\cB0_0=qB1)/\zC rB1 [D.lit (.string s)] 16/\∀ (c:Nat),zFU E [.var [.sb 1 0 0 0
 0],.arr 9 0 [] 0]/\((rB1++[D.lit (.string s)]).length=(rB1++[D.lit (.string s)]).length/\c=c)/\∀ b,a<=b->Q s Option.none (rB1++[D.lit (.string
 s)]) c b)):BCalls prog 187 [Sh.str,(Sh.sl 0)] [.pb 0 0 0 0] [.var [.sb 1 0 0 mB0_0 cB0_0],.arr 9 0 rB1 qB1] N Q:=
  bE (H:=vu) (by kernel_rfl) (fun E=>by kernel_rfl) h
theorem ye (E:Env) (Q:QT [(Sh.ag 9),(Sh.sl 0)]) (N0:Nat) (x2:D) (n11:Int) (x12:D) (m13 c13:Nat) (a66:Option Addr) (e66:List D) (c66:Nat) (n67 n68:Int) (m0_0 c0_0:Nat) (r1:List D) (q1:Nat) (n2_0:Int) (s2_1 s2_2:ByteArray) (n2_3 n2_4:Int) (a2_5:Option Addr) (e2_5:List D) (c2_5:Nat) (n2_6:Int) (a2_7:Option Addr) (e2_7:List D) (c2_7:Nat) (a2_8:Option Addr) (e2_8:List D) (c2_8:Nat) (r3:List D) (q3:Nat) (n4_0:Int) (s4_1 s4_2:ByteArray) (n4_3:Int) (x4_4 x4_5 x4_6 x4_7:D) (m4_8 c4_8:Nat) (r5:List D) (q5:Nat) (N:Nat) (h :
Br (decide (n68<n67)) ((0<=n68/\n68<(e66.length:Int))/\Br (n68==n11) (∀ b,N<=b->BCalls prog 117 [.ag 9,.sl 0] [.pb 0 0 0 0,.dg 9 (List.getD e66
 n68.toNat default),.dc x12] [Bx.var [.sb 1 0 0 m0_0 c0_0],Bx.arr 9 0 r1 q1] b (fun x a c d e=>b<=e->Bel e x->Bel e (D.sl a 0 c d)->(0<=n68
 /\ n68<(m4_8:Int)/\(0+n68.toNat:Nat)<r5.length)/\(0+n68.toNat:Nat)<r5.length/\zE E Q N0 x2 n11 x12 m13 c13 a66 e66 c66 n67
 (IntKind.i64.wrap (n68+1)) c.length d c d n2_0 s2_1 s2_2 n2_3 n2_4 a2_5 e2_5 c2_5 n2_6 a2_7 e2_7 c2_7 a2_8 e2_8 c2_8 r3 q3 n4_0 s4_1 s4_2 n4_3 x4_4 x4_5 x4_6
 x4_7 m4_8 c4_8 (List.set r5 (0+n68.toNat:Nat) x) q5 e)) (∀ a,N<=a->BCalls prog 117 [.ag 9,.sl 0] [.pb 0 0 0 0,.dg 9 (List.getD e66 n68.toNat default),
 .dc x2] [Bx.var [.sb 1 0 0 m0_0 c0_0],Bx.arr 9 0 r1 q1] a (fun b c d e f=>a<=f->Bel f b->Bel f (D.sl c 0 d e)->(0<=n68/\n68
 < (m4_8:Int)/\(0+n68.toNat:Nat)<r5.length)/\(0+n68.toNat:Nat)<r5.length/\zE E Q N0 x2 n11 x12 m13 c13 a66 e66 c66 n67 (IntKind.i64.wrap
 (n68+1)) d.length e d e n2_0 s2_1 s2_2 n2_3 n2_4 a2_5 e2_5 c2_5 n2_6 a2_7 e2_7 c2_7 a2_8 e2_8 c2_8 r3 q3 n4_0 s4_1 s4_2 n4_3 x4_4 x4_5 x4_6 x4_7 m4_8
 c4_8 (List.set r5 (0+n68.toNat:Nat) b) q5 f))) (Br (decide ((m13:Int)>0)) (((0:Int)<=(0:Int)/\0<(m13:Int)/\0<r3.length)/\0<r3.length
 /\ ∃ s,List.getD r3 0 default=D.lit (.string s)/\Br (decide ((m13:Int)>1)) (((0:Int)<=(1:Int)/\1<(m13:Int)/\1<r3.length)/\1<r3.length/\∃
 a,List.getD r3 1 default=D.lit (.string a)/\(m4_8=r5.length/\c4_8=q5)/\(m4_8=r5.length/\c4_8=q5)/\(m4_8=r5.length/\c4_8=q5)/\∀ b c,
 N<=c->Fresh N0 c b [D.ag r5,x4_4,x4_5,x4_6,x4_7]->zFU E [.var [.sb 1 0 0 0 0],.arr 9 0 [] 0]/\(m0_0=r1.length/\c0_0=q1)/\∀ d,c<=d ->
 Q (D.ag [D.lit (.int .i64 n4_0),D.lit (.string s),D.lit (.string a),D.lit (.int .i64 n4_3),x4_4,x4_5,x4_6,x4_7,D.sl b 9 r5 q5]) Option.none r1 q1 d)
 ((m4_8=r5.length/\c4_8=q5)/\(m4_8=r5.length/\c4_8=q5)/\(m4_8=r5.length/\c4_8=q5)/\∀ a b,N<=b->Fresh N0 b a [D.ag r5,x4_4,x4_5,x4_6,
 x4_7]->zFU E [.var [.sb 1 0 0 0 0],.arr 9 0 [] 0]/\(m0_0=r1.length/\c0_0=q1)/\∀ c,b<=c->Q (D.ag [D.lit (.int .i64 n4_0),D.lit (.string s),D.lit
 (.string s4_2),D.lit (.int .i64 n4_3),x4_4,x4_5,x4_6,x4_7,D.sl a 9 r5 q5]) Option.none r1 q1 c)) (Br (decide ((m13:Int)>1)) (((0:Int)<=(1:Int)
 /\ 1<(m13:Int)/\1<r3.length)/\1<r3.length/\∃ a,List.getD r3 1 default=D.lit (.string a)/\(m4_8=r5.length/\c4_8=q5)/\(m4_8=r5.length/\c4_8
 = q5)/\(m4_8=r5.length/\c4_8=q5)/\∀ b c,N<=c->Fresh N0 c b [D.ag r5,x4_4,x4_5,x4_6,x4_7]->zFU E [.var [.sb 1 0 0 0 0],.arr 9 0 [] 0] /\
 (m0_0=r1.length/\c0_0=q1)/\∀ d,c<=d->Q (D.ag [D.lit (.int .i64 n4_0),D.lit (.string s4_1),D.lit (.string a),D.lit (.int .i64 n4_3),x4_4,x4_5,
 x4_6,x4_7,D.sl b 9 r5 q5]) Option.none r1 q1 d) ((m4_8=r5.length/\c4_8=q5)/\(m4_8=r5.length/\c4_8=q5)/\(m4_8=r5.length/\c4_8=q5)/\∀ a
 b,N<=b->Fresh N0 b a [D.ag r5,x4_4,x4_5,x4_6,x4_7]->zFU E [.var [.sb 1 0 0 0 0],.arr 9 0 [] 0]/\(m0_0=r1.length/\c0_0=q1)/\∀ c,b
 <= c->Q (D.ag [D.lit (.int .i64 n4_0),D.lit (.string s4_1),D.lit (.string s4_2),D.lit (.int .i64 n4_3),x4_4,x4_5,x4_6,x4_7,D.sl a 9 r5 q5]) Option.none
 r1 q1 c)))):zE E Q N0 x2 n11 x12 m13 c13 a66 e66 c66 n67 n68 m0_0 c0_0 r1 q1 n2_0 s2_1 s2_2 n2_3 n2_4 a2_5 e2_5 c2_5 n2_6 a2_7 e2_7 c2_7 a2_8 e2_8 c2_8 r3 q3 n4_0 s4_1 s4_2 n4_3 x4_4 x4_5 x4_6 x4_7 m4_8 c4_8 r5 q5 N:=
  hE (H:=yI) (by kernel_rfl) h
theorem rt (E:Env) (Q:QT [Sh.str,(Sh.sl 0),(Sh.int IntKind.i64)]) (N0:Nat) (a0_0:Option Addr) (e0_0:List D) (c0_0:Nat) (n0_1:Int) (N:Nat) (h :
∀ a,N<=a->ACalls prog 188 [.str] [.int .i64 (IntKind.i64.wrap (n0_1+1))] a (fun s b=>a<=b->(1+s.size:Nat)<=9223372036854775807/\∀ a,
 b<=a->ACalls prog 234 [.int .i64] [.sv a0_0 0 e0_0 c0_0,.str (bytes [98]++s)] a (fun n b=>a<=b->Br (decide (n<0)) (zFU E [.var [.sv none
 0 [] 0,.int .i64 0]]/\∀ a,b<=a->Q (bytes [98]++s) a0_0 e0_0 c0_0 (IntKind.i64.wrap (n0_1+1)) a) (yk E Q N0 a0_0 e0_0 c0_0 (IntKind.i64.wrap
 (n0_1+1)) b)))):yk E Q N0 a0_0 e0_0 c0_0 n0_1 N:=
  hE (H:=u3) (by kernel_rfl) h
theorem wI (E:Env) (Q:QT [(Sh.ag 9),(Sh.sl 0),(Sh.int IntKind.i64)]) (N0:Nat) (a2:Option Addr) (e2:List D) (c2:Nat) (a3:Option Addr) (e3:List D) (c3:Nat) (a10:Option Addr) (e10:List D) (c10:Nat) (n11:Int) (a12:Option Addr) (e12:List D) (c12:Nat) (n14:Int) (a0_0:Option Addr) (e0_0:List D) (c0_0:Nat) (n0_1:Int) (y1:D) (n2_0:Int) (s2_1 s2_2:ByteArray) (n2_3 n2_4:Int) (a2_5:Option Addr) (e2_5:List D) (c2_5:Nat) (n2_6:Int) (a2_7:Option Addr) (e2_7:List D) (c2_7:Nat) (a2_8:Option Addr) (e2_8:List D) (c2_8:Nat) (n3_0:Int) (s3_1 s3_2:ByteArray) (n3_3:Int) (x3_4 x3_5 x3_6 x3_7:D) (m3_8 c3_8:Nat) (r4:List D) (q4:Nat) (N:Nat) (h :
∃ a b,∃ c:Nat,(y1.cell 8)=D.sl a 9 b c/\Br (decide (n14<(b.length:Int))) (Br (n14==n11) ((0=0/\0=0)/\zC [] e2 16/\∀ (a:Nat),(([]
 ++ e2).length=([]++e2).length/\a=a)/\zC ([]++e2) e10 16/\∀ (a:Nat),(0=0/\0=0)/\zC [] e3 16/\∀ (b:Nat),(([]++e3).length
 = ([]++e3).length/\b=b)/\zC ([]++e3) e12 16/\∀ (b:Nat),∃ c d,∃ e:Nat,(y1.cell 8)=D.sl c 9 d e/\(0<=n14/\n14<(d.length
 : Int))/\(([]++e2++e10).length=([]++e2++e10).length/\a=a)/\(([]++e2++e10).length=([]++e2++e10).length/\a=a)/\(([]++e2++e10).length
 = ([]++e2++e10).length/\a=a)/\∀ c e,N<=e->Fresh N0 e c [D.ag ([]++e2++e10)]->(([]++e3++e12).length=([]++e3++e12).length /\
 b=b)/\(([]++e3++e12).length=([]++e3++e12).length/\b=b)/\(([]++e3++e12).length=([]++e3++e12).length/\b=b)/\∀ f g,e
 <= g->Fresh N0 g f [D.ag ([]++e3++e12)]->∀ e,g<=e->BCalls prog 108 [.ag 9,.sl 0,.int .i64] [.pb 0 0 0 0,.dg 9 (List.getD d n14.toNat default),
 .sv c 0 ([]++e2++e10) a,.sv f 0 ([]++e3++e12) b] [Bx.var [.sv a0_0 0 e0_0 c0_0,.int .i64 n0_1]] e (fun x a b c n d=>e<=d->Bel
 d x->Bel d (D.sl a 0 b c)->(m3_8=r4.length/\c3_8=q4)/\zC r4 [x] 136/\∀ (e:Nat),zN E Q N0 a2 e2 c2 a3 e3 c3 a10 e10
 c10 n11 a12 e12 c12 (IntKind.i64.wrap (n14+1)) a b c n y1 n2_0 s2_1 s2_2 n2_3 n2_4 a2_5 e2_5 c2_5 n2_6 a2_7 e2_7 c2_7 a2_8 e2_8 c2_8 n3_0 s3_1 s3_2 n3_3
 x3_4 x3_5 x3_6 x3_7 (r4++[x]).length e (r4++[x]) e d)) (∃ a b,∃ c:Nat,(y1.cell 8)=D.sl a 9 b c/\(0<=n14/\n14<(b.length:Int))
 /\ ∀ a,N<=a->BCalls prog 108 [.ag 9,.sl 0,.int .i64] [.pb 0 0 0 0,.dg 9 (List.getD b n14.toNat default),.sv a2 0 e2 c2,.sv a3 0 e3 c3] [Bx.var [.sv
 a0_0 0 e0_0 c0_0,.int .i64 n0_1]] a (fun b c d e f g=>a<=g->Bel g b->Bel g (D.sl c 0 d e)->(m3_8=r4.length/\c3_8=q4)
 /\ zC r4 [b] 136/\∀ (a:Nat),zN E Q N0 a2 e2 c2 a3 e3 c3 a10 e10 c10 n11 a12 e12 c12 (IntKind.i64.wrap (n14+1)) c d e f y1
 n2_0 s2_1 s2_2 n2_3 n2_4 a2_5 e2_5 c2_5 n2_6 a2_7 e2_7 c2_7 a2_8 e2_8 c2_8 n3_0 s3_1 s3_2 n3_3 x3_4 x3_5 x3_6 x3_7 (r4++[b]).length a (r4++[b]) a g)))
 ((m3_8=r4.length/\c3_8=q4)/\(m3_8=r4.length/\c3_8=q4)/\(m3_8=r4.length/\c3_8=q4)/\∀ a b,N<=b->Fresh N0 b a [D.ag r4,x3_4,x3_5,x3_6,
 x3_7]->zFU E [.var [.sv none 0 [] 0,.int .i64 0]]/\∀ c,b<=c->Q (D.ag [D.lit (.int .i64 n3_0),D.lit (.string s3_1),D.lit (.string s3_2),D.lit (.int
 .i64 n3_3),x3_4,x3_5,x3_6,x3_7,D.sl a 9 r4 q4]) a0_0 e0_0 c0_0 n0_1 c)):zN E Q N0 a2 e2 c2 a3 e3 c3 a10 e10 c10 n11 a12 e12 c12 n14 a0_0 e0_0 c0_0 n0_1 y1 n2_0 s2_1 s2_2 n2_3 n2_4 a2_5 e2_5 c2_5 n2_6 a2_7 e2_7 c2_7 a2_8 e2_8 c2_8 n3_0 s3_1 s3_2 n3_3 x3_4 x3_5 x3_6 x3_7 m3_8 c3_8 r4 q4 N:=
  hE (H:=xw) (by kernel_rfl) h
end Go.Proofs.YtmfjakahanbnlaaGreatDoor
set_option maxRecDepth 100000
namespace Go.Proofs.YtmfjakahanbnlaaGreatDoor
open Go Go.Proofs Go.Proofs.Tryz
def qV:Hint:=⟨[hc 3 [0,1,5,6] [(5,5,0)]],[],[]⟩
def zBH:Hint:=⟨[],[],[(7,[en 0,en 1,en 2,en 3,en 7,en 8,en 9,en 10,ec 4 [14],en 5,en 6,ec 11 [21],en 12,en 13,en 14]),(8,hs 8 [ec 4 [28]])]⟩
def zBw:Hint:=⟨[],[],[(5,[en 0,en 1,en 2,en 3,en 4,en 5,en 9,en 10,en 11,ec 6 [20],en 7,en 8,en 12,en 13,en 14]),(9,[en 0,en 1,en 2,en 3,en 4,eh 5,en 6,en 7,en 8]),(11,[en 0,en 1,en 2,en 3,en 4,en 5,en 6,en 7,en 8,en 9,en 13,en 14,en 18,en 19,en 20,ec 10 [56],en 11,en 12,ec 15 [61],en 16,en 17,en 21,en 22,en 23])]⟩
def sM:Hint:=⟨[hc 3 [1,3,4] [(3,9,0)]],[],[(5,hs 10 [ec 6 [18]]),(16,[en 0,en 1,en 2,en 3,en 4,en 5,en 6,en 7,en 8,en 9,en 10,en 11,en 12]),(21,hs 4 [ec 2 [77]])]⟩
def pV:Hint:=⟨[],[],[(1,hs 3 [ec 1 [3]]),(3,hs 3 [ec 1 [6]])]⟩
def uI:Hint:=⟨[hc 3 [0,3,4]],[],[]⟩
def pK:Hint:=⟨[],[],[(1,hs 5 [ec 1 [3],ec 2 [4]])]⟩
def zD7:Hint:=⟨[],[],[]⟩
def ri:Hint:=⟨[],[],[(7,[en 0,en 1,en 2,en 3,en 7,en 8,en 9,en 10,ec 4 [14],en 5,en 6,ec 11 [21],en 12,en 13,en 14]),(8,hs 8 [ec 4 [28]])]⟩
def rJ:Hint:=⟨[],[],[(1,hs 3 [ec 1 [3]]),(3,hs 3 [ec 1 [6]])]⟩
def vg:Hint:=⟨[hc 3 [1,3,8,9,10] [(3,9,0)]],[],[(5,hs 6 [ec 2 [15]]),(17,[en 0,en 1,en 2,en 3,en 4,en 5,en 6,en 7,en 8,en 9,en 10,en 11,en 12]),(21,[en 0,en 1,en 2,en 3,en 4,en 5,en 9,en 10,en 11,ec 6 [75],en 7,en 8,en 12,en 13,en 14]),(25,[en 0,en 1,en 2,en 3,en 4,eh 5,en 6,en 7,en 8]),(27,[en 0,en 1,en 2,en 3,en 4,en 5,en 6,en 7,en 8,en 9,en 13,en 14,en 18,en 19,en 20,ec 10 [111],en 11,en 12,ec 15 [116],en 16,en 17,en 21,en 22,en 23])]⟩
def qc:Hint:=⟨[],[],[(1,hs 3 [ec 1 [3]]),(3,hs 3 [ec 1 [6]])]⟩
def uC:Hint:=⟨[hc 3 [0,3,6,7]],[],[]⟩
def pJ:Hint:=⟨[],[],[(1,hs 5 [ec 1 [3],ec 2 [4]])]⟩
def xQ (Q:QT [.str]) (N0:Nat) (a0:Option Addr) (e0:List D) (c0:Nat) (s1:ByteArray) (m5 c5:Nat) (n6:Int) (r0:List D) (q0:Nat) (N:Nat):Prop:=AT prog 99 [.str] Q N0 .ord (zF prog 99 3) ⟨.sv a0 0 e0 c0::.str s1::an 3 (.sb 0 0 0 m5 c5::.int .i64 n6::an 20 []),[.arr 5 0 r0 q0],N,none⟩
def xB (Q:QT [.str]) (N0:Nat) (m3 c3:Nat) (n4:Int) (y0:D) (r1:List D) (q1:Nat) (N:Nat):Prop:=AT prog 119 [.str] Q N0 .ord (zF prog 119 3) ⟨an 1 (.pb 0 0 0 0::an 1 (.sb 1 0 0 m3 c3::.int .i64 n4::an 75 [])),[.vd y0 9,.arr 9 0 r1 q1],N,none⟩
def yV (Q:QT [.int .i64]) (N0:Nat) (s0:ByteArray) (n3 n4:Int) (N:Nat):Prop:=AT prog 55 [.int .i64] Q N0 .ord (zF prog 55 3) ⟨.str s0::an 2 (.int .i64 n3::.int .i64 n4::an 15 []),[],N,none⟩
def yJ (Q:QT [.str]) (N0:Nat) (m3 c3:Nat) (a8:Option Addr) (e8:List D) (c8:Nat) (n9 n10:Int) (y0:D) (r1:List D) (q1:Nat) (N:Nat):Prop:=AT prog 120 [.str] Q N0 .ord (zF prog 120 3) ⟨an 1 (.pb 0 0 0 0::an 1 (.sb 1 0 0 m3 c3::an 4 (.sv a8 9 e8 c8::.int .i64 n9::.int .i64 n10::an 139 []))),[.vd y0 9,.arr 9 0 r1 q1],N,none⟩
def yT (Q:QT [.int .i64]) (N0:Nat) (s0:ByteArray) (n3 n6 n7:Int) (N:Nat):Prop:=AT prog 57 [.int .i64] Q N0 .ord (zF prog 57 3) ⟨.str s0::an 2 (.int .i64 n3::an 2 (.int .i64 n6::.int .i64 n7::an 12 [])),[],N,none⟩
theorem zDu (N:Nat) (a0:Option Addr) (e0:List D) (c0:Nat) (s1:ByteArray) (Q:QT [.str]) (h :
Bel N (D.sl a0 0 e0 c0)->xQ Q N a0 e0 c0 s1 0 0 0 [] 0 N):ACalls prog 99 [.str] [PV.sv a0 0 e0 c0,PV.str s1] N Q:=
 eE (H:=qV) (by kernel_rfl) (by kernel_rfl) h
theorem xy (N:Nat) (x0:D) (Q:QT [.str]) (h :
Bel N x0->∃ n:Int,(x0.cell 0)=D.lit (.int .i64 n)/\Br (n==1) (∀ a,N<=a->Q (bytes [73]) a) (Br (n==2) (∀ a,N<=a->Q (bytes [66]) a) (Br
 (n==3) (∃ a b,∃ c:Nat,(x0.cell 1)=D.sl a 2 b c/\((0:Int)<=(0:Int)/\0<(b.length:Int))/\∃ a c,∃ d:Nat,(x0.cell 1)=D.sl a 2 c
 d/\((0:Int)<=(1:Int)/\1<(c.length:Int))/\∀ a,N<=a->ACalls prog 245 [.str] [.dg 2 (List.getD b 0 default)] a (fun s b=>a<=b ->
 (1+s.size:Nat)<=9223372036854775807/\(ByteArray.size (bytes [40]++s)+1:Nat)<=9223372036854775807/\∀ a,b<=a->ACalls prog 245 [.str] [.dg 2
 (List.getD c 1 default)] a (fun b c=>a<=c->(ByteArray.size (bytes [40]++s++bytes [62])+b.size:Nat)<=9223372036854775807/\(ByteArray.size
 (bytes [40]++s++bytes [62]++b)+1:Nat)<=9223372036854775807/\∀ a,c<=a->Q (bytes [40]++s++bytes [62]++b++bytes [41]) a))) (∃ a
 b,∃ c:Nat,(x0.cell 1)=D.sl a 2 b c/\((0:Int)<=(0:Int)/\0<(b.length:Int))/\∀ a,N<=a->ACalls prog 245 [.str] [.dg 2 (List.getD
 b 0 default)] a (fun b c=>a<=c->(1+b.size:Nat)<=9223372036854775807/\(ByteArray.size (bytes [60]++b)+1:Nat)<=9223372036854775807
 /\ ∀ a,c<=a->Q (bytes [60]++b++bytes [62]) a))))):ACalls prog 245 [.str] [PV.dg 2 x0] N Q:=
  eE (H:=zBH) (by kernel_rfl) (by kernel_rfl) h
theorem zBK (N:Nat) (x0:D) (a1:Option Addr) (e1:List D) (c1:Nat) (Q:QT [.str]) (h :
Bel N x0->Bel N (D.sl a1 0 e1 c1)->∃ n:Int,(x0.cell 0)=D.lit (.int .i64 n)/\Br (n==5) (∀ a,N<=a->ACalls prog 99 [.str] [.sv a1 0 e1 c1,.str (bytes
 [32])] a (fun s b=>a<=b->(4+s.size:Nat)<=9223372036854775807/\(ByteArray.size (bytes [40,105,102,32]++s)+1:Nat)<=9223372036854775807
 /\ ∀ a,b<=a->Q (bytes [40,105,102,32]++s++bytes [41]) a)) (Br (n==6) (∃ a,(x0.cell 1)=D.lit (.string a)/\(2+a.size:Nat)<=9223372036854775807
 /\ (ByteArray.size (bytes [40,92]++a)+1:Nat)<=9223372036854775807/\((0:Int)<=(0:Int)/\0<(e1.length:Int))/\∃ b,List.getD e1 0 default=D.lit
 (.string b)/\∀ c,N<=c->ACalls prog 245 [.str] [.dg 2 (D.sub x0 4 2)] c (fun d e=>c<=e->(ByteArray.size (bytes [40,92]++a++bytes [58])
 + d.size:Nat)<=9223372036854775807/\(ByteArray.size (bytes [40,92]++a++bytes [58]++d)+1:Nat)<=9223372036854775807/\(ByteArray.size (bytes
 [40,92]++a++bytes [58]++d++bytes [46])+b.size:Nat)<=9223372036854775807/\(ByteArray.size (bytes [40,92]++a++bytes [58]++d++bytes
 [46]++b)+1:Nat)<=9223372036854775807/\∀ c,e<=c->Q (bytes [40,92]++a++bytes [58]++d++bytes [46]++b++bytes [41]) c)) (Br (n
 == 7) (∀ a,N<=a->ACalls prog 99 [.str] [.sv a1 0 e1 c1,.str (bytes [32])] a (fun b c=>a<=c->(1+b.size:Nat)<=9223372036854775807/\(ByteArray.size
 (bytes [40]++b)+1:Nat)<=9223372036854775807/\∀ a,c<=a->Q (bytes [40]++b++bytes [41]) a)) (Br (n==8) (∃ a,(x0.cell 1)=D.lit (.string
 a)/\(5+a.size:Nat)<=9223372036854775807/\(ByteArray.size (bytes [40,108,101,116,32]++a)+1:Nat)<=9223372036854775807/\∀ b,N<=b ->
 ACalls prog 99 [.str] [.sv a1 0 e1 c1,.str (bytes [32])] b (fun c d=>b<=d->(ByteArray.size (bytes [40,108,101,116,32]++a++bytes [61])
 + c.size:Nat)<=9223372036854775807/\(ByteArray.size (bytes [40,108,101,116,32]++a++bytes [61]++c)+1:Nat)<=9223372036854775807/\∀ b,
 d<=b->Q (bytes [40,108,101,116,32]++a++bytes [61]++c++bytes [41]) b)) (Br (n==9) (∃ a,(x0.cell 1)=D.lit (.string a)/\(5+a.size
 : Nat)<=9223372036854775807/\(ByteArray.size (bytes [40,114,101,99,32]++a)+1:Nat)<=9223372036854775807/\∃ b,(x0.cell 2)=D.lit (.string b)
 /\ (ByteArray.size (bytes [40,114,101,99,32]++a++bytes [32])+b.size:Nat)<=9223372036854775807/\(ByteArray.size (bytes [40,114,101,99,32] ++
 a++bytes [32]++b)+1:Nat)<=9223372036854775807/\((0:Int)<=(0:Int)/\0<(e1.length:Int))/\∃ c,List.getD e1 0 default=D.lit (.string c)
 /\ ∀ d,N<=d->ACalls prog 245 [.str] [.dg 2 (D.sub x0 4 2)] d (fun e f=>d<=f->(ByteArray.size (bytes [40,114,101,99,32]++a++bytes
 [32]++b++bytes [58])+e.size:Nat)<=9223372036854775807/\(ByteArray.size (bytes [40,114,101,99,32]++a++bytes [32]++b++bytes [58] ++
 e)+1:Nat)<=9223372036854775807/\∀ d,f<=d->ACalls prog 245 [.str] [.dg 2 (D.sub x0 6 2)] d (fun f g=>d<=g->(ByteArray.size
 (bytes [40,114,101,99,32]++a++bytes [32]++b++bytes [58]++e++bytes [62])+f.size:Nat)<=9223372036854775807/\(ByteArray.size (bytes
 [40,114,101,99,32]++a++bytes [32]++b++bytes [58]++e++bytes [62]++f)+1:Nat)<=9223372036854775807/\(ByteArray.size (bytes [40,114,
 101,99,32]++a++bytes [32]++b++bytes [58]++e++bytes [62]++f++bytes [46])+c.size:Nat)<=9223372036854775807/\(ByteArray.size (bytes
 [40,114,101,99,32]++a++bytes [32]++b++bytes [58]++e++bytes [62]++f++bytes [46]++c)+1:Nat)<=9223372036854775807/\∀ d,g
 <= d->Q (bytes [40,114,101,99,32]++a++bytes [32]++b++bytes [58]++e++bytes [62]++f++bytes [46]++c++bytes [41]) d))) (Br
 (n==12) (((0:Int)<=(0:Int)/\0<(e1.length:Int))/\∃ a,List.getD e1 0 default=D.lit (.string a)/\(5+a.size:Nat)<=9223372036854775807
 /\ (ByteArray.size (bytes [40,114,117,110,32]++a)+1:Nat)<=9223372036854775807/\∀ b,N<=b->Q (bytes [40,114,117,110,32]++a++bytes
 [41]) b) (((0:Int)<=(0:Int)/\0<(e1.length:Int))/\∃ a,List.getD e1 0 default=D.lit (.string a)/\(6+a.size:Nat)<=9223372036854775807
 /\ (ByteArray.size (bytes [40,108,105,102,116,32]++a)+1:Nat)<=9223372036854775807/\∀ b,N<=b->Q (bytes [40,108,105,102,116,32]++a
 ++ bytes [41]) b))))))):ACalls prog 189 [.str] [PV.dg 9 x0,PV.sv a1 0 e1 c1] N Q:=
  eE (H:=zBw) (by kernel_rfl) (by kernel_rfl) h
theorem zBN (N:Nat) (x0:D) (Q:QT [.str]) (h :
Bel N x0->xB Q N 0 0 0 x0 [] 0 N):ACalls prog 119 [.str] [PV.dg 9 x0] N Q:=
 eE (H:=sM) (by kernel_rfl) (by kernel_rfl) h
theorem qT (N:Nat) (x0:D) (Q:QT [.str]) (h :
Bel N x0->∀ a,N<=a->ACalls prog 46 [.bool] [.dg 9 x0] a (fun b c=>a<=c->Br (!b) (∀ a,c<=a->Q (bytes []) a) (∀ a,c<=a->ACalls
 prog 119 [.str] [.dg 9 x0] a (fun s b=>a<=b->∀ a,b<=a->Q s a)))):ACalls prog 56 [.str] [PV.dg 9 x0] N Q:=
  eE (H:=pV) (by kernel_rfl) (by kernel_rfl) h
theorem qH (N:Nat) (s0:ByteArray) (Q:QT [.int .i64]) (h :
yV Q N s0 7 0 N):ACalls prog 55 [.int .i64] [PV.str s0] N Q:=
 eE (H:=uI) (by kernel_rfl) (by kernel_rfl) h
theorem pv (N:Nat) (x0:D) (Q:QT [.int .i64]) (h :
Bel N x0->∀ a,N<=a->ACalls prog 47 [.ag 9] [.dg 9 x0] a (fun x b=>a<=b->Bel b x->∀ a,b<=a->ACalls prog 56 [.str] [.dg 9 x] a (fun
 s b=>a<=b->∀ a,b<=a->ACalls prog 55 [.int .i64] [.str s] a (fun n b=>a<=b->∀ a,b<=a->Q n a)))):ACalls prog 13 [.int .i64] [PV.dg 9 x0] N Q:=
  eE (H:=pK) (by kernel_rfl) (by kernel_rfl) h
theorem zD0 (N:Nat) (a0:Option Addr) (e0:List D) (c0:Nat) (s1:ByteArray) (Q:QT [.str]) (h :
Bel N (D.sl a0 0 e0 c0)->∀ a,N<=a->ACalls prog 159 [.str] [.sv a0 0 e0 c0,.str s1] a (fun s b=>a<=b->∀ a,b<=a->Q s a)):ACalls prog 97 [.str] [PV.sv a0 0 e0 c0,PV.str s1] N Q:=
 eE (H:=zD7) (by kernel_rfl) (by kernel_rfl) h
theorem yx (N:Nat) (x0:D) (Q:QT [.str]) (h :
Bel N x0->∃ n:Int,(x0.cell 0)=D.lit (.int .i64 n)/\Br (n==1) (∀ a,N<=a->Q (bytes [73]) a) (Br (n==2) (∀ a,N<=a->Q (bytes [66]) a) (Br
 (n==3) (∃ a b,∃ c:Nat,(x0.cell 1)=D.sl a 2 b c/\((0:Int)<=(0:Int)/\0<(b.length:Int))/\∃ a c,∃ d:Nat,(x0.cell 1)=D.sl a 2 c
 d/\((0:Int)<=(1:Int)/\1<(c.length:Int))/\∀ a,N<=a->ACalls prog 247 [.str] [.dg 2 (List.getD b 0 default)] a (fun s b=>a<=b ->
 (1+s.size:Nat)<=9223372036854775807/\(ByteArray.size (bytes [40]++s)+1:Nat)<=9223372036854775807/\∀ a,b<=a->ACalls prog 247 [.str] [.dg 2
 (List.getD c 1 default)] a (fun b c=>a<=c->(ByteArray.size (bytes [40]++s++bytes [62])+b.size:Nat)<=9223372036854775807/\(ByteArray.size
 (bytes [40]++s++bytes [62]++b)+1:Nat)<=9223372036854775807/\∀ a,c<=a->Q (bytes [40]++s++bytes [62]++b++bytes [41]) a))) (∃ a
 b,∃ c:Nat,(x0.cell 1)=D.sl a 2 b c/\((0:Int)<=(0:Int)/\0<(b.length:Int))/\∀ a,N<=a->ACalls prog 247 [.str] [.dg 2 (List.getD
 b 0 default)] a (fun b c=>a<=c->(1+b.size:Nat)<=9223372036854775807/\(ByteArray.size (bytes [60]++b)+1:Nat)<=9223372036854775807
 /\ ∀ a,c<=a->Q (bytes [60]++b++bytes [62]) a))))):ACalls prog 247 [.str] [PV.dg 2 x0] N Q:=
  eE (H:=ri) (by kernel_rfl) (by kernel_rfl) h
theorem sm (N:Nat) (x0:D) (Q:QT [.str]) (h :
Bel N x0->∀ a,N<=a->ACalls prog 239 [.bool] [.dg 2 x0] a (fun b c=>a<=c->Br (!b) (∀ a,c<=a->Q (bytes []) a) (∀ a,c<=a->ACalls
 prog 247 [.str] [.dg 2 x0] a (fun s b=>a<=b->∀ a,b<=a->Q s a)))):ACalls prog 191 [.str] [PV.dg 2 x0] N Q:=
  eE (H:=rJ) (by kernel_rfl) (by kernel_rfl) h
theorem rY (N:Nat) (x0:D) (Q:QT [.str]) (h :
Bel N x0->∃ a b,∃ c:Nat,(x0.cell 8)=D.sl a 9 b c/\yJ Q N 0 0 a b c (b.length:Int) 0 x0 [] 0 N):ACalls prog 120 [.str] [PV.dg 9 x0] N Q:=
 eE (H:=vg) (by kernel_rfl) (by kernel_rfl) h
theorem qE (N:Nat) (x0:D) (Q:QT [.str]) (h :
Bel N x0->∀ a,N<=a->ACalls prog 50 [.bool] [.dg 9 x0] a (fun b c=>a<=c->Br (!b) (∀ a,c<=a->Q (bytes []) a) (∀ a,c<=a->ACalls
 prog 120 [.str] [.dg 9 x0] a (fun s b=>a<=b->∀ a,b<=a->Q s a)))):ACalls prog 58 [.str] [PV.dg 9 x0] N Q:=
  eE (H:=qc) (by kernel_rfl) (by kernel_rfl) h
theorem qh (N:Nat) (s0:ByteArray) (Q:QT [.int .i64]) (h :
yT Q N s0 7 (s0.size:Int) 0 N):ACalls prog 57 [.int .i64] [PV.str s0] N Q:=
 eE (H:=uC) (by kernel_rfl) (by kernel_rfl) h
theorem qq (N:Nat) (x0:D) (Q:QT [.int .i64]) (h :
Bel N x0->∀ a,N<=a->ACalls prog 52 [.ag 9] [.dg 9 x0] a (fun x b=>a<=b->Bel b x->∀ a,b<=a->ACalls prog 58 [.str] [.dg 9 x] a (fun
 s b=>a<=b->∀ a,b<=a->ACalls prog 57 [.int .i64] [.str s] a (fun n b=>a<=b->∀ a,b<=a->Q n a)))):ACalls prog 14 [.int .i64] [PV.dg 9 x0] N Q:=
  eE (H:=pJ) (by kernel_rfl) (by kernel_rfl) h
theorem sL (Q:QT [.str]) (N0:Nat) (a0:Option Addr) (e0:List D) (c0:Nat) (s1:ByteArray) (m5 c5:Nat) (n6:Int) (r0:List D) (q0:Nat) (N:Nat) (h :
Br (decide (n6<(e0.length:Int))) (Br (decide (n6>0)) ((m5=r0.length/\c5=q0)/\zC r0 (zo s1) 1/\∀ (c:Nat),(0<=n6/\n6<(e0.length:Int))
 /\ ∃ s,List.getD e0 n6.toNat default=D.lit (.string s)/\((r0++zo s1).length=(r0++zo s1).length/\c=c)/\zC (r0++zo s1) (zo s) 1
 /\ ∀ (a:Nat),xQ Q N0 a0 e0 c0 s1 (r0++zo s1++zo s).length a (IntKind.i64.wrap (n6+1)) (r0++zo s1++zo s) a N) ((0<=n6
 /\ n6<(e0.length:Int))/\∃ a,List.getD e0 n6.toNat default=D.lit (.string a)/\(m5=r0.length/\c5=q0)/\zC r0 (zo a) 1/\∀ (b:Nat),
 xQ Q N0 a0 e0 c0 s1 (r0++zo a).length b (IntKind.i64.wrap (n6+1)) (r0++zo a) b N)) (m5<=r0.length/\∃ a:List Int,List.take
 m5 r0=List.map (fun n=>D.lit (.int IntKind.u8 n)) a/\∀ b,N<=b->Q (bytesOf a) b)):xQ Q N0 a0 e0 c0 s1 m5 c5 n6 r0 q0 N:=
  hE (H:=qV) (by kernel_rfl) h
theorem vw (Q:QT [.str]) (N0:Nat) (m3 c3:Nat) (n4:Int) (y0:D) (r1:List D) (q1:Nat) (N:Nat) (h :
∃ a b,∃ c:Nat,(y0.cell 8)=D.sl a 9 b c/\Br (decide (n4<(b.length:Int))) (∃ a b,∃ c:Nat,(y0.cell 8)=D.sl a 9 b c/\(0<=n4/\n4
 < (b.length:Int))/\∀ a,N<=a->ACalls prog 119 [.str] [.dg 9 (List.getD b n4.toNat default)] a (fun s b=>a<=b->(m3=r1.length/\c3=q1)
 /\ zC r1 [D.lit (.string s)] 16/\∀ (a:Nat),xB Q N0 (r1++[D.lit (.string s)]).length a (IntKind.i64.wrap (n4+1)) y0 (r1++[D.lit (.string
 s)]) a b)) (∃ n:Int,(y0.cell 0)=D.lit (.int .i64 n)/\Br (n==1) (∃ a,(y0.cell 1)=D.lit (.string a)/\∀ b,N<=b->Q a b) (Br (n==2) (∃
 a:Int,(y0.cell 3)=D.lit (.int .i64 a)/\∀ b,N<=b->ACalls prog 188 [.str] [.int .i64 a] b (fun a c=>b<=c->∀ b,c<=b->Q a
 b)) (Br (n==3) (∃ a:Int,(y0.cell 3)=D.lit (.int .i64 a)/\∃ b:Int,(y0.cell 3)=D.lit (.int .i64 b)/\(0<=a/\a<=IntKind.i64.wrap (b
 + 1)/\IntKind.i64.wrap (b+1)<=2)/\(1+ByteArray.size (ByteArray.extract (bytes [102,116]) a.toNat (IntKind.i64.wrap (b+1)).toNat):Nat)<=9223372036854775807
 /\ ∀ c,N<=c->Q (bytes [35]++ByteArray.extract (bytes [102,116]) a.toNat (IntKind.i64.wrap (b+1)).toNat) c) (Br (n==4) (Br ((m3:Int)==1) (((0
 : Int)<=(0:Int)/\0<(m3:Int)/\0<r1.length)/\0<r1.length/\∃ a,List.getD r1 0 default=D.lit (.string a)/\(2+a.size:Nat)<=9223372036854775807
 /\ (ByteArray.size (bytes [40,33]++a)+1:Nat)<=9223372036854775807/\∀ b,N<=b->Q (bytes [40,33]++a++bytes [41]) b) (((0:Int)<=(0:Int)
 /\ 0<(m3:Int)/\0<r1.length)/\0<r1.length/\∃ a,List.getD r1 0 default=D.lit (.string a)/\(1+a.size:Nat)<=9223372036854775807/\∃ b,(y0.cell
 1)=D.lit (.string b)/\(ByteArray.size (bytes [40]++a)+b.size:Nat)<=9223372036854775807/\((0:Int)<=(1:Int)/\1<(m3:Int)/\1<r1.length)
 /\ 1<r1.length/\∃ c,List.getD r1 1 default=D.lit (.string c)/\(ByteArray.size (bytes [40]++a++b)+c.size:Nat)<=9223372036854775807/\(ByteArray.size
 (bytes [40]++a++b++c)+1:Nat)<=9223372036854775807/\∀ d,N<=d->Q (bytes [40]++a++b++c++bytes [41]) d)) (Br (n==10) (((0
 : Int)<=(0:Int)/\0<(m3:Int)/\0<r1.length)/\0<r1.length/\∃ a,List.getD r1 0 default=D.lit (.string a)/\(1+a.size:Nat)<=9223372036854775807
 /\ (ByteArray.size (bytes [60]++a)+1:Nat)<=9223372036854775807/\∀ b,N<=b->Q (bytes [60]++a++bytes [62]) b) (Br (n==11) (((0:Int) <=
 (0:Int)/\0<(m3:Int)/\0<r1.length)/\0<r1.length/\∃ a,List.getD r1 0 default=D.lit (.string a)/\(1+a.size:Nat)<=9223372036854775807 /\
 ∀ b,N<=b->Q (bytes [126]++a) b) ((m3=r1.length/\c3=q1)/\∀ a,ApA a r1->Off [a] y0->∀ b,N<=b->rx b [a]->ACalls prog
 189 [.str] [.dg 9 y0,.sv a 0 r1 c3] b (fun a c=>b<=c->∀ b,c<=b->Q a b))))))))):xB Q N0 m3 c3 n4 y0 r1 q1 N:=
  hE (H:=sM) (by kernel_rfl) h
theorem w5 (Q:QT [.int .i64]) (N0:Nat) (s0:ByteArray) (n3 n4:Int) (N:Nat) (h :
Br (decide (n4<(s0.size:Int))) ((0<=n4/\n4<(s0.size:Int))/\(1000003:Int)≠(0:Int)/\yV Q N0 s0 (Int.tmod (IntKind.i64.wrap (IntKind.i64.wrap
 (31*n3)+IntKind.i64.wrap (UInt8.toNat (Array.getD (ByteArray.data s0) n4.toNat (OfNat.ofNat 0)):Int))) 1000003) (IntKind.i64.wrap (n4+1)) N) (∀ a,N <=
 a->Q n3 a)):yV Q N0 s0 n3 n4 N:=
  hE (H:=uI) (by kernel_rfl) h
theorem wi (Q:QT [.str]) (N0:Nat) (m3 c3:Nat) (a8:Option Addr) (e8:List D) (c8:Nat) (n9 n10:Int) (y0:D) (r1:List D) (q1:Nat) (N:Nat) (h :
Br (decide (n10<n9)) ((0<=n10/\n10<(e8.length:Int))/\∀ a,N<=a->ACalls prog 120 [.str] [.dg 9 (List.getD e8 n10.toNat default)] a (fun s b=>
 a<=b->(m3=r1.length/\c3=q1)/\zC r1 [D.lit (.string s)] 16/\∀ (c:Nat),yJ Q N0 (r1++[D.lit (.string s)]).length c a8 e8 c8 n9
 (IntKind.i64.wrap (n10+1)) y0 (r1++[D.lit (.string s)]) c b)) (∃ n:Int,(y0.cell 0)=D.lit (.int .i64 n)/\Br (n==1) (∃ a,(y0.cell 1)=D.lit (.string
 a)/\∀ b,N<=b->Q a b) (Br (n==2) (∃ a:Int,(y0.cell 3)=D.lit (.int .i64 a)/\∀ b,N<=b->ACalls prog 190 [.str] [.int .i64 a] b (fun
 a c=>b<=c->∀ b,c<=b->Q a b)) (Br (n==3) (∃ a:Int,(y0.cell 3)=D.lit (.int .i64 a)/\∃ b:Int,(y0.cell 3)=D.lit (.int .i64
 b)/\(0<=a/\a<=IntKind.i64.wrap (b+1)/\IntKind.i64.wrap (b+1)<=2)/\(1+ByteArray.size (ByteArray.extract (bytes [102,116]) a.toNat (IntKind.i64.wrap
 (b+1)).toNat):Nat)<=9223372036854775807/\∀ c,N<=c->Q (bytes [35]++ByteArray.extract (bytes [102,116]) a.toNat (IntKind.i64.wrap (b+1)).toNat)
 c) (Br (n==4) (Br ((m3:Int)==1) (((0:Int)<=(0:Int)/\0<(m3:Int)/\0<r1.length)/\0<r1.length/\∃ a,List.getD r1 0 default=D.lit (.string
 a)/\(2+a.size:Nat)<=9223372036854775807/\(ByteArray.size (bytes [40,33]++a)+1:Nat)<=9223372036854775807/\∀ b,N<=b->Q (bytes [40,33]
 ++ a++bytes [41]) b) (((0:Int)<=(0:Int)/\0<(m3:Int)/\0<r1.length)/\0<r1.length/\∃ a,List.getD r1 0 default=D.lit (.string a)/\(1 +
 a.size:Nat)<=9223372036854775807/\∃ b,(y0.cell 1)=D.lit (.string b)/\(ByteArray.size (bytes [40]++a)+b.size:Nat)<=9223372036854775807 /\
 ((0:Int)<=(1:Int)/\1<(m3:Int)/\1<r1.length)/\1<r1.length/\∃ c,List.getD r1 1 default=D.lit (.string c)/\(ByteArray.size (bytes [40]++a
 ++ b)+c.size:Nat)<=9223372036854775807/\(ByteArray.size (bytes [40]++a++b++c)+1:Nat)<=9223372036854775807/\∀ d,N<=d->Q (bytes
 [40]++a++b++c++bytes [41]) d)) (Br (n==5) ((m3=r1.length/\c3=q1)/\∀ a,ApA a r1->∀ b,N<=b->rx b [a]->ACalls prog 97 [.str]
 [.sv a 0 r1 c3,.str (bytes [32])] b (fun a c=>b<=c->(4+a.size:Nat)<=9223372036854775807/\(ByteArray.size (bytes [40,105,102,32] ++
 a)+1:Nat)<=9223372036854775807/\∀ b,c<=b->Q (bytes [40,105,102,32]++a++bytes [41]) b)) (Br (n==6) (∃ a,(y0.cell 1)=D.lit (.string
 a)/\(2+a.size:Nat)<=9223372036854775807/\(ByteArray.size (bytes [40,92]++a)+1:Nat)<=9223372036854775807/\((0:Int)<=(0:Int)/\0<(m3 :
 Int)/\0<r1.length)/\0<r1.length/\∃ b,List.getD r1 0 default=D.lit (.string b)/\∀ c,N<=c->ACalls prog 191 [.str] [.dg 2 (D.sub y0 4 2)] c
 (fun d e=>c<=e->(ByteArray.size (bytes [40,92]++a++bytes [58])+d.size:Nat)<=9223372036854775807/\(ByteArray.size (bytes [40,92]
 ++ a++bytes [58]++d)+1:Nat)<=9223372036854775807/\(ByteArray.size (bytes [40,92]++a++bytes [58]++d++bytes [46])+b.size:Nat) <=
 9223372036854775807/\(ByteArray.size (bytes [40,92]++a++bytes [58]++d++bytes [46]++b)+1:Nat)<=9223372036854775807/\∀ c,e<=c ->
 Q (bytes [40,92]++a++bytes [58]++d++bytes [46]++b++bytes [41]) c)) (Br (n==7) ((m3=r1.length/\c3=q1)/\∀ a,ApA a r1->∀ b,
 N<=b->rx b [a]->ACalls prog 97 [.str] [.sv a 0 r1 c3,.str (bytes [32])] b (fun a c=>b<=c->(1+a.size:Nat)<=9223372036854775807
 /\ (ByteArray.size (bytes [40]++a)+1:Nat)<=9223372036854775807/\∀ b,c<=b->Q (bytes [40]++a++bytes [41]) b)) (Br (n==8) (∃ a,
 (y0.cell 1)=D.lit (.string a)/\(5+a.size:Nat)<=9223372036854775807/\(ByteArray.size (bytes [40,108,101,116,32]++a)+1:Nat)<=9223372036854775807
 /\ (m3=r1.length/\c3=q1)/\∀ b,ApA b r1->∀ c,N<=c->rx c [b]->ACalls prog 97 [.str] [.sv b 0 r1 c3,.str (bytes [32])] c (fun b
 d=>c<=d->(ByteArray.size (bytes [40,108,101,116,32]++a++bytes [61])+b.size:Nat)<=9223372036854775807/\(ByteArray.size (bytes [40,
 108,101,116,32]++a++bytes [61]++b)+1:Nat)<=9223372036854775807/\∀ c,d<=c->Q (bytes [40,108,101,116,32]++a++bytes [61]
 ++ b++bytes [41]) c)) (Br (n==9) (∃ a,(y0.cell 1)=D.lit (.string a)/\(5+a.size:Nat)<=9223372036854775807/\(ByteArray.size (bytes [40,
 114,101,99,32]++a)+1:Nat)<=9223372036854775807/\∃ b,(y0.cell 2)=D.lit (.string b)/\(ByteArray.size (bytes [40,114,101,99,32]++a
 ++ bytes [32])+b.size:Nat)<=9223372036854775807/\(ByteArray.size (bytes [40,114,101,99,32]++a++bytes [32]++b)+1:Nat)<=9223372036854775807
 /\ ((0:Int)<=(0:Int)/\0<(m3:Int)/\0<r1.length)/\0<r1.length/\∃ c,List.getD r1 0 default=D.lit (.string c)/\∀ d,N<=d->ACalls prog
 191 [.str] [.dg 2 (D.sub y0 4 2)] d (fun e f=>d<=f->(ByteArray.size (bytes [40,114,101,99,32]++a++bytes [32]++b++bytes [58])
 + e.size:Nat)<=9223372036854775807/\(ByteArray.size (bytes [40,114,101,99,32]++a++bytes [32]++b++bytes [58]++e)+1:Nat)<=9223372036854775807
 /\ ∀ d,f<=d->ACalls prog 191 [.str] [.dg 2 (D.sub y0 6 2)] d (fun f g=>d<=g->(ByteArray.size (bytes [40,114,101,99,32]++a
 ++ bytes [32]++b++bytes [58]++e++bytes [62])+f.size:Nat)<=9223372036854775807/\(ByteArray.size (bytes [40,114,101,99,32]++a++bytes
 [32]++b++bytes [58]++e++bytes [62]++f)+1:Nat)<=9223372036854775807/\(ByteArray.size (bytes [40,114,101,99,32]++a++bytes [32]
 ++ b++bytes [58]++e++bytes [62]++f++bytes [46])+c.size:Nat)<=9223372036854775807/\(ByteArray.size (bytes [40,114,101,99,32]++a
 ++ bytes [32]++b++bytes [58]++e++bytes [62]++f++bytes [46]++c)+1:Nat)<=9223372036854775807/\∀ d,g<=d->Q (bytes [40,114,
 101,99,32]++a++bytes [32]++b++bytes [58]++e++bytes [62]++f++bytes [46]++c++bytes [41]) d))) (Br (n==10) (((0:Int)<=(0
 : Int)/\0<(m3:Int)/\0<r1.length)/\0<r1.length/\∃ a,List.getD r1 0 default=D.lit (.string a)/\(1+a.size:Nat)<=9223372036854775807 /\
 (ByteArray.size (bytes [60]++a)+1:Nat)<=9223372036854775807/\∀ b,N<=b->Q (bytes [60]++a++bytes [62]) b) (Br (n==11) (((0:Int) <=
 (0:Int)/\0<(m3:Int)/\0<r1.length)/\0<r1.length/\∃ a,List.getD r1 0 default=D.lit (.string a)/\(1+a.size:Nat)<=9223372036854775807
 /\ ∀ b,N<=b->Q (bytes [126]++a) b) (Br (n==12) (((0:Int)<=(0:Int)/\0<(m3:Int)/\0<r1.length)/\0<r1.length/\∃ a,List.getD r1
 0 default=D.lit (.string a)/\(5+a.size:Nat)<=9223372036854775807/\(ByteArray.size (bytes [40,114,117,110,32]++a)+1:Nat)<=9223372036854775807
 /\ ∀ b,N<=b->Q (bytes [40,114,117,110,32]++a++bytes [41]) b) (((0:Int)<=(0:Int)/\0<(m3:Int)/\0<r1.length)/\0<r1.length/\∃
 a,List.getD r1 0 default=D.lit (.string a)/\(6+a.size:Nat)<=9223372036854775807/\(ByteArray.size (bytes [40,108,105,102,116,32]++a)
 + 1:Nat)<=9223372036854775807/\∀ b,N<=b->Q (bytes [40,108,105,102,116,32]++a++bytes [41]) b)))))))))))))):yJ Q N0 m3 c3 a8 e8 c8 n9 n10 y0 r1 q1 N:=
  hE (H:=vg) (by kernel_rfl) h
theorem w8 (Q:QT [.int .i64]) (N0:Nat) (s0:ByteArray) (n3 n6 n7:Int) (N:Nat) (h :
Br (decide (n7<n6)) ((0<=n7/\n7<(s0.size:Int))/\(1000003:Int)≠(0:Int)/\yT Q N0 s0 (Int.tmod (IntKind.i64.wrap (IntKind.i64.wrap (31
 * n3)+IntKind.i64.wrap (UInt8.toNat (Array.getD (ByteArray.data s0) n7.toNat (OfNat.ofNat 0)):Int))) 1000003) n6 (IntKind.i64.wrap (n7+1)) N) (∀ a,N<=a
 -> Q n3 a)):yT Q N0 s0 n3 n6 n7 N:=
  hE (H:=uC) (by kernel_rfl) h
end Go.Proofs.YtmfjakahanbnlaaGreatDoor
set_option maxRecDepth 100000
namespace Go.Proofs.YtmfjakahanbnlaaGreatDoor
open Go Go.Proofs Go.Proofs.Tryz
def vm:Hint:=⟨[],[],[(2,hs 4 [ec 2 [7]]),(5,hs 4 [ec 1 [12],ec 2 [13]]),(6,hs 4 [ec 1 [15]]),(7,hs 3 [ec 1 [17]]),(10,[en 0,en 1,ec 2 [23],ec 3 [22,24],en 4])]⟩
theorem vn (N:Nat) (x0:D) (Q:QT [.bool]) (h :
Bel N x0->∀ a,N<=a->ACalls prog 8 [.int .i64] [.dg 9 x0,.int .i64 1048576] a (fun n c=>a<=c->Br (decide (n<0)) (∀ a,c<=a->Q true
 a) (∀ a,c<=a->ACalls prog 10 [.ag 9] [.dg 9 x0] a (fun x c=>a<=c->Bel c x->∀ a,c<=a->ACalls prog 13 [.int .i64] [.dg 9 x] a
 (fun c d=>a<=d->∀ a,d<=a->ACalls prog 10 [.ag 9] [.dg 9 x0] a (fun d e=>a<=e->Bel e d->∀ a,e<=a->ACalls prog 14
 [.int .i64] [.dg 9 d] a (fun e f=>a<=f->Br (bne e c) (∀ a,f<=a->Q false a) (∀ a,f<=a->ACalls prog 10 [.ag 9] [.dg
 9 x0] a (fun c e=>a<=e->Bel e c->∀ a,e<=a->ACalls prog 12 [.bool] [.dg 9 d,.dg 9 c] a (fun b c=>a<=c->Br
 (!b) (∀ a,c<=a->Q false a) (∀ a,c<=a->Q true a))))))))))):ACalls prog 4 [.bool] [PV.dg 9 x0] N Q:=
  eE (H:=vm) (by kernel_rfl) (by kernel_rfl) h
end Go.Proofs.YtmfjakahanbnlaaGreatDoor
