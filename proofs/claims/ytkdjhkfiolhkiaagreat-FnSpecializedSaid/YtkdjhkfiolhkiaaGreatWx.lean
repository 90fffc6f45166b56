/- Printed by gen.py: what the functions come to. -/
import Derived.Test.YtkdjhkfiolhkiaaGreatJh
set_option linter.unusedVariables false
set_option maxRecDepth 100000
namespace Go.Proofs.YtkdjhkfiolhkiaaGreat
open Go Go.Proofs Go.Proofs.Tryz
def zGL:Hint:=⟨[],[],[]⟩
def zIB:Hint:=⟨[],[],[]⟩
def zAK:Hint:=⟨[],[],[]⟩
def su:Hint:=⟨[hc 3 [0,3,4] [(3,148,2)]],[],[(5,[en 0,en 1,en 2,en 3,en 4,en 5,en 6,en 7,en 8,en 9,en 10,en 11,en 12,eh 13,eh 14])]⟩
def zCP:Hint:=⟨[],[],[(1,hs 9 [ec 2 [11]]),(2,[en 0,en 1,en 2,eh 3,ec 4 [16],ec 5 [15],eh 6])]⟩
def tT:Hint:=⟨[hc 3 [0,3,4] [(3,97,2)]],[],[(5,[en 0,en 1,en 2,en 3,en 4,en 5,en 6,en 7,en 8,en 9,en 10,en 11,en 12,eh 13,eh 14])]⟩
def zD3:Hint:=⟨[],[],[]⟩
def zEy:Hint:=⟨[],[],[(1,hs 12 [ec 5 [16]]),(2,hs 6 [ec 4 [23]]),(3,[en 0,en 1,en 2,en 3,en 4,eh 5,ec 6 [28],en 7]),(4,[en 0,en 1,en 2,en 3,en 4,eh 5,ec 6 [36],en 7]),(5,[en 0,en 1,en 2,en 3,en 4,en 5,en 6,en 7,en 8,en 10,eh 9,ec 11 [43],eh 12]),(6,[en 0,en 1,en 2,en 3,en 4,en 5,en 6,en 7,en 9,en 10,en 11,en 12,en 13,en 14,en 15,en 16,en 18,ec 8 [57],eh 17,ec 19 [64],ec 20 [60,71],eh 21])]⟩
def pH:Hint:=⟨[hc 10 [1,2,3,6,8,9]],[],[(2,hs 5 [ec 2 [13]]),(3,hs 5 [ec 3 [17]]),(4,hs 13 [ec 9 [29]]),(5,[en 0,en 1,en 2,en 3,en 4,en 5,en 6,en 12,en 13,eh 7,ec 8 [39],en 9,en 10,en 11,ec 14 [45],eh 15]),(7,hs 5 [ec 3 [53]]),(8,hs 4 [ec 1 [57]]),(12,[en 0,en 1,en 2,en 3,en 4,en 5,en 6,en 7,en 8,en 9,ec 10 [73],en 11,eh 12])]⟩
def v8:Hint:=⟨[hc 4 [0,4,5,6] [(4,47,4),(5,47,4)]],[],[(6,[en 0,en 1,en 2,en 3,en 4,en 5,en 6,en 7,en 8,en 9,en 11,en 12,en 13,en 14,en 15,en 17,ec 10 [25],en 16,eh 18])]⟩
def ur:Hint:=⟨[hc 8 [0,2,4,6,12,13,14] [(12,108,3)]],[],[(1,hs 9 [ec 2 [18]]),(10,[en 0,en 1,en 2,en 3,en 4,en 5,en 6,en 7,en 8,en 9,en 10,en 11,eh 12]),(12,[en 0,en 1,en 2,en 3,en 4,en 5,en 6,en 7,en 8,ec 9 [62],en 10]),(17,[en 0,en 1,en 2,eh 3,ec 4 [81],eh 5,en 6])]⟩
def v4:Hint:=⟨[hc 3 [4,5,11,12,13] [(4,47,4),(5,47,4)]],[],[(5,[en 0,en 1,en 2,en 3,en 5,en 6,en 8,ec 4 [20],en 7,eh 9])]⟩
def zHJ:Hint:=⟨[],[],[]⟩
def zDY:Hint:=⟨[],[],[]⟩
def zD8:Hint:=⟨[],[],[(1,[en 0,en 1,en 2,en 3,en 4,en 5,en 6,en 7,ec 8 [12],en 9,en 10,eh 11,en 12])]⟩
def wh:Hint:=⟨[hc 12 [0,1,5,6,8,93,94,95] [(8,30,9)]],[],[(1,hs 4 [ec 2 [12,13]]),(2,[en 0,en 1,en 3,en 4,ec 2 [16,17],ec 5 [19,20],en 6,en 7,eh 8,eh 9]),(4,hs 3 [ec 1 [29]]),(5,hs 13 [ec 9 [36,40]]),(6,[en 0,en 1,en 2,en 3,en 4,en 5,en 6,en 7,en 8,ec 9 [48,52],en 10,en 11,en 12,ec 13 [44,45,56],eh 14]),(7,hs 13 [ec 9 [63,67]]),(8,[en 0,en 1,en 2,en 3,en 4,en 5,en 6,en 9,ec 7 [73,77],en 8,eh 10]),(9,[en 0,en 1,en 3,en 4,en 6,en 7,en 8,en 9,ec 2 [80],ec 5 [83,84],ec 10 [82,85,89],eh 11]),(16,hs 4 [ec 2 [108,109]]),(17,[en 0,en 1,en 2,en 3,en 5,en 6,ec 4 [112,113],ec 7 [115,116,117],en 8,eh 9,eh 10]),(19,hs 4 [ec 2 [122,123]])]⟩
def uO:Hint:=⟨[hc 7 [0,2,4,6,12,36,37,38] [(12,65,4)]],[],[(2,hs 9 [ec 2 [22]]),(11,[en 0,en 1,en 3,en 4,eh 2,ec 5 [55],eh 6,en 7])]⟩
def xL (Q:QT [.sl 2]) (N0:Nat) (a0:Option Addr) (e0:List D) (c0 m3 c3:Nat) (n4:Int) (r0:List D) (q0:Nat) (N:Nat):Prop:=AT prog 146 [.sl 2] Q N0 .ord (zE prog 146 3) ⟨.sv a0 3 e0 c0::an 2 (.sb 0 2 0 m3 c3::.int .i64 n4::an 22 []),[.arr 148 2 r0 q0],N,none⟩
def yz (Q:QT [.sl 2]) (N0:Nat) (a0:Option Addr) (e0:List D) (c0 m3 c3:Nat) (n4:Int) (r0:List D) (q0:Nat) (N:Nat):Prop:=AT prog 148 [.sl 2] Q N0 .ord (zE prog 148 3) ⟨.sv a0 3 e0 c0::an 2 (.sb 0 2 0 m3 c3::.int .i64 n4::an 22 []),[.arr 97 2 r0 q0],N,none⟩
def yI (Q:QT [.ag 9]) (N0:Nat) (a1:Option Addr) (e1:List D) (c1:Nat) (a2:Option Addr) (e2:List D) (c2:Nat) (n9:Int) (y0:D) (n1_0:Int) (s1_1 s1_2:ByteArray) (n1_3 n1_4:Int) (a1_5:Option Addr) (e1_5:List D) (c1_5:Nat) (n1_6:Int) (a1_7:Option Addr) (e1_7:List D) (c1_7:Nat) (a1_8:Option Addr) (e1_8:List D) (c1_8:Nat) (n2_0:Int) (s2_1 s2_2:ByteArray) (n2_3:Int) (x2_4 x2_5 x2_6 x2_7:D) (m2_8 c2_8:Nat) (r3:List D) (q3:Nat) (N:Nat):Prop:=AT prog 86 [.ag 9] Q N0 .ord (zE prog 86 10) ⟨an 1 (.sv a1 3 e1 c1::.sv a2 4 e2 c2::.pb 0 0 0 0::an 2 (.pb 1 0 0 0::an 1 (.pb 2 0 0 0::.int .i64 n9::an 69 []))),[.vd y0 9,.var [.int .i64 n1_0,.str s1_1,.str s1_2,.int .i64 n1_3,.int .i64 n1_4,.sv a1_5 2 e1_5 c1_5,.int .i64 n1_6,.sv a1_7 2 e1_7 c1_7,.sv a1_8 9 e1_8 c1_8],.var [.int .i64 n2_0,.str s2_1,.str s2_2,.int .i64 n2_3,.dc x2_4,.dc x2_5,.dc x2_6,.dc x2_7,.sb 3 9 0 m2_8 c2_8],.arr 30 9 r3 q3],N,none⟩
def z8 (Q:QT [.sl 4,.sl 4]) (N0:Nat) (a0:Option Addr) (e0:List D) (c0 m4 c4 m5 c5:Nat) (n6:Int) (r0:List D) (q0:Nat) (r1:List D) (q1:Nat) (N:Nat):Prop:=AT prog 80 [.sl 4,.sl 4] Q N0 .ord (zE prog 80 4) ⟨.sv a0 4 e0 c0::an 3 (.sb 0 4 0 m4 c4::.sb 1 4 0 m5 c5::.int .i64 n6::an 38 []),[.arr 47 4 r0 q0,.arr 47 4 r1 q1],N,none⟩
def yF (Q:QT [.ag 9,.bool]) (N0:Nat) (a0:Option Addr) (e0:List D) (c0:Nat) (a2:Option Addr) (e2:List D) (c2 m12 c12:Nat) (n13 n14:Int) (y0:D) (n1_0:Int) (s1_1 s1_2:ByteArray) (n1_3 n1_4:Int) (a1_5:Option Addr) (e1_5:List D) (c1_5:Nat) (n1_6:Int) (a1_7:Option Addr) (e1_7:List D) (c1_7:Nat) (a1_8:Option Addr) (e1_8:List D) (c1_8:Nat) (r2:List D) (q2:Nat) (N:Nat):Prop:=AT prog 29 [.ag 9,.bool] Q N0 .ord (zE prog 29 8) ⟨.sv a0 4 e0 c0::an 1 (.sv a2 0 e2 c2::an 1 (.pb 0 0 0 0::an 1 (.pb 1 0 0 0::an 5 (.sb 2 3 0 m12 c12::.int .i64 n13::.int .i64 n14::an 71 [])))),[.vd y0 9,.var [.int .i64 n1_0,.str s1_1,.str s1_2,.int .i64 n1_3,.int .i64 n1_4,.sv a1_5 2 e1_5 c1_5,.int .i64 n1_6,.sv a1_7 2 e1_7 c1_7,.sv a1_8 9 e1_8 c1_8],.arr 108 3 r2 q2],N,none⟩
def z7 (Q:QT [.sl 4,.sl 4]) (N0:Nat) (m4 c4 m5 c5:Nat) (a11:Option Addr) (e11:List D) (c11:Nat) (n12 n13:Int) (r0:List D) (q0:Nat) (r1:List D) (q1:Nat) (N:Nat):Prop:=AT prog 82 [.sl 4,.sl 4] Q N0 .ord (zE prog 82 3) ⟨an 4 (.sb 0 4 0 m4 c4::.sb 1 4 0 m5 c5::an 5 (.sv a11 4 e11 c11::.int .i64 n12::.int .i64 n13::an 24 [])),[.arr 47 4 r0 q0,.arr 47 4 r1 q1],N,none⟩
def zB (Q:QT [.ag 9]) (N0:Nat) (a0:Option Addr) (e0:List D) (c0:Nat) (a1:Option Addr) (e1:List D) (c1 m8 c8:Nat) (a93:Option Addr) (e93:List D) (c93:Nat) (n94 n95:Int) (y0:D) (n1_0:Int) (s1_1 s1_2:ByteArray) (n1_3 n1_4:Int) (a1_5:Option Addr) (e1_5:List D) (c1_5:Nat) (n1_6:Int) (a1_7:Option Addr) (e1_7:List D) (c1_7:Nat) (a1_8:Option Addr) (e1_8:List D) (c1_8:Nat) (r2:List D) (q2:Nat) (N:Nat):Prop:=AT prog 144 [.ag 9] Q N0 .ord (zE prog 144 12) ⟨.sv a0 3 e0 c0::.sv a1 4 e1 c1::an 3 (.pb 0 0 0 0::.pb 1 0 0 0::an 1 (.sb 2 9 0 m8 c8::an 84 (.sv a93 9 e93 c93::.int .i64 n94::.int .i64 n95::an 29 []))),[.vd y0 9,.var [.int .i64 n1_0,.str s1_1,.str s1_2,.int .i64 n1_3,.int .i64 n1_4,.sv a1_5 2 e1_5 c1_5,.int .i64 n1_6,.sv a1_7 2 e1_7 c1_7,.sv a1_8 9 e1_8 c1_8],.arr 30 9 r2 q2],N,none⟩
def ym (Q:QT [.ag 9,.bool]) (N0:Nat) (a0:Option Addr) (e0:List D) (c0:Nat) (a2:Option Addr) (e2:List D) (c2 m12 c12:Nat) (a36:Option Addr) (e36:List D) (c36:Nat) (n37 n38:Int) (y0:D) (n1_0:Int) (s1_1 s1_2:ByteArray) (n1_3 n1_4:Int) (a1_5:Option Addr) (e1_5:List D) (c1_5:Nat) (n1_6:Int) (a1_7:Option Addr) (e1_7:List D) (c1_7:Nat) (a1_8:Option Addr) (e1_8:List D) (c1_8:Nat) (r2:List D) (q2:Nat) (N:Nat):Prop:=AT prog 83 [.ag 9,.bool] Q N0 .ord (zE prog 83 7) ⟨.sv a0 4 e0 c0::an 1 (.sv a2 0 e2 c2::an 1 (.pb 0 0 0 0::an 1 (.pb 1 0 0 0::an 5 (.sb 2 4 0 m12 c12::an 23 (.sv a36 4 e36 c36::.int .i64 n37::.int .i64 n38::an 18 []))))),[.vd y0 9,.var [.int .i64 n1_0,.str s1_1,.str s1_2,.int .i64 n1_3,.int .i64 n1_4,.sv a1_5 2 e1_5 c1_5,.int .i64 n1_6,.sv a1_7 2 e1_7 c1_7,.sv a1_8 9 e1_8 c1_8],.arr 65 4 r2 q2],N,none⟩
theorem p8 (N:Nat) (n0:Int) (Q:QT [.ag 9]) (h :
∀ a,N<=a->Q (D.ag [D.lit (.int .i64 3),D.lit (.string (bytes [])),D.lit (.string (bytes [])),D.lit (.int .i64 n0),D.lit (.int .i64 0),D.sl Option.none
 2 [] 0,D.lit (.int .i64 0),D.sl Option.none 2 [] 0,D.sl Option.none 9 [] 0]) a):ACalls prog 205 [.ag 9] [PV.int .i64 n0] N Q:=
  eE (H:=zGL) (by kernel_rfl) (by kernel_rfl) h
theorem zA4 (N:Nat) (n0:Int) (Q:QT [.ag 9]) (h :
∀ a,N<=a->Q (D.ag [D.lit (.int .i64 2),D.lit (.string (bytes [])),D.lit (.string (bytes [])),D.lit (.int .i64 n0),D.lit (.int .i64 0),D.sl Option.none
 2 [] 0,D.lit (.int .i64 0),D.sl Option.none 2 [] 0,D.sl Option.none 9 [] 0]) a):ACalls prog 204 [.ag 9] [PV.int .i64 n0] N Q:=
  eE (H:=zIB) (by kernel_rfl) (by kernel_rfl) h
theorem zAm (N:Nat) (x0:D) (n1:Int) (Q:QT [.ag 9]) (h :
Bel N x0->∃ n:Int,(x0.cell 0)=D.lit (.int .i64 n)/\Br (n==2) (∀ a,N<=a->ACalls prog 205 [.ag 9] [.int .i64 n1] a (fun x b=>a<=b->Bel
 b x->∀ a,b<=a->Q x a)) (∀ a,N<=a->ACalls prog 204 [.ag 9] [.int .i64 n1] a (fun b c=>a<=c->Bel c b->∀ a,c<=a->Q
 b a))):ACalls prog 200 [.ag 9] [PV.dg 2 x0,PV.int .i64 n1] N Q:=
  eE (H:=zAK) (by kernel_rfl) (by kernel_rfl) h
theorem zBz (N:Nat) (a0:Option Addr) (e0:List D) (c0:Nat) (Q:QT [.sl 2]) (h :
Bel N (D.sl a0 3 e0 c0)->xL Q N a0 e0 c0 0 0 0 [] 0 N):ACalls prog 146 [.sl 2] [PV.sv a0 3 e0 c0] N Q:=
 eE (H:=su) (by kernel_rfl) (by kernel_rfl) h
theorem zCr (N:Nat) (x0:D) (a1:Option Addr) (e1:List D) (c1:Nat) (a2:Option Addr) (e2:List D) (c2:Nat) (Q:QT [.ag 9]) (h :
Bel N x0->Bel N (D.sl a1 3 e1 c1)->Bel N (D.sl a2 4 e2 c2)->∀ d,N<=d->ACalls prog 97 [.ag 2,.bool] [.sv a2 4 e2 c2,.dg 9 x0,.int .i64 0] d (fun x
 _ b=>d<=b->Bel b x->∀ d,b<=d->ACalls prog 148 [.sl 2] [.sv a1 3 e1 c1] d (fun a b c e=>d<=e->Bel e (D.sl a 2 b c)->∀ d,
 e<=d->ACalls prog 75 [.int .i64] [.dg 9 x0,.sv a 2 b c] d (fun n a=>d<=a->∀ b,a<=b->ACalls prog 200 [.ag 9] [.dg 2 x,.int .i64 n] b
 (fun a c=>b<=c->Bel c a->∀ b,c<=b->Q a b))))):ACalls prog 147 [.ag 9] [PV.dg 9 x0,PV.sv a1 3 e1 c1,PV.sv a2 4 e2 c2] N Q:=
  eE (H:=zCP) (by kernel_rfl) (by kernel_rfl) h
theorem zBZ (N:Nat) (a0:Option Addr) (e0:List D) (c0:Nat) (Q:QT [.sl 2]) (h :
Bel N (D.sl a0 3 e0 c0)->yz Q N a0 e0 c0 0 0 0 [] 0 N):ACalls prog 148 [.sl 2] [PV.sv a0 3 e0 c0] N Q:=
 eE (H:=tT) (by kernel_rfl) (by kernel_rfl) h
theorem zDN (N:Nat) (a0:Option Addr) (e0:List D) (c0:Nat) (x1:D) (Q:QT [.sl 3]) (h :
Bel N (D.sl a0 3 e0 c0)->Bel N x1->(0=0/\0=0)/\zA [] e0 32/\∀ (c:Nat),(([]++e0).length=([]++e0).length/\c=c)/\zA ([]++e0) [x1]
 32/\∀ (b:Nat),(([]++e0++[x1]).length=([]++e0++[x1]).length/\b=b)/\(([]++e0++[x1]).length=([]++e0++[x1]).length/\b=b)/\∀
 a c,N<=c->Fresh N c a [D.ag ([]++e0++[x1])]->∀ d,c<=d->Q a ([]++e0++[x1]) b d):ACalls prog 201 [.sl 3] [PV.sv a0 3 e0 c0,PV.dg 3 x1] N Q:=
  eE (H:=zD3) (by kernel_rfl) (by kernel_rfl) h
theorem zFB (N:Nat) (x0:D) (a1:Option Addr) (e1:List D) (c1:Nat) (a2:Option Addr) (e2:List D) (c2:Nat) (Q:QT [.ag 9]) (h :
Bel N x0->Bel N (D.sl a1 3 e1 c1)->Bel N (D.sl a2 4 e2 c2)->∃ a d,∃ c:Nat,(x0.cell 8)=D.sl a 9 d c/\((0:Int)<=(0:Int)/\0<(d.length:Int)) /\
 ∀ a,N<=a->ACalls prog 97 [.ag 2,.bool] [.sv a2 4 e2 c2,.dg 9 (List.getD d 0 default),.int .i64 0] a (fun x _ b=>a<=b->Bel b x->∃ s,(x0.cell
 1)=D.lit (.string s)/\∀ a,b<=a->ACalls prog 162 [.sl 4] [.sv a2 4 e2 c2,.str s,.dg 2 x,.int .i64 0] a (fun b c d e=>a<=e->Bel e
 (D.sl b 4 c d)->∃ a f,∃ g:Nat,(x0.cell 8)=D.sl a 9 f g/\((0:Int)<=(0:Int)/\0<(f.length:Int))/\∀ a,e<=a->ACalls
 prog 146 [.sl 2] [.sv a1 3 e1 c1] a (fun e g h i=>a<=i->Bel i (D.sl e 2 g h)->∀ a,i<=a->ACalls prog 69 [.bool] [.dg 9 (List.getD
 f 0 default),.sv e 2 g h] a (fun e f=>a<=f->Br (!e) (∃ a e,∃ g:Nat,(x0.cell 8)=D.sl a 9 e g/\((0:Int)<=(0:Int)
 /\ 0<(e.length:Int))/\∀ a,f<=a->ACalls prog 148 [.sl 2] [.sv a1 3 e1 c1] a (fun f g h i=>a<=i->Bel i (D.sl f 2 g h)
 -> ∀ a,i<=a->ACalls prog 75 [.int .i64] [.dg 9 (List.getD e 0 default),.sv f 2 g h] a (fun n e=>a<=e->∃ a f,∃ g:Nat,
 (x0.cell 8)=D.sl a 9 f g/\((0:Int)<=(1:Int)/\1<(f.length:Int))/\∃ a,(x0.cell 1)=D.lit (.string a)/\∀ g,e<=g->ACalls prog
 201 [.sl 3] [.sv a1 3 e1 c1,.dg 3 (D.ag [D.lit (.string a),D.lit (.bool false),D.lit (.int .i64 n)])] g (fun a e h i=>g<=i->Bel i
 (D.sl a 3 e h)->∀ g,i<=g->ACalls prog 86 [.ag 9] [.dg 9 (List.getD f 1 default),.sv a 3 e h,.sv b 4 c d] g (fun a b
 => g<=b->Bel b a->∀ c,b<=c->Q a c))))) (∃ a,(x0.cell 1)=D.lit (.string a)/\∃ e g,∃ h:Nat,(x0.cell 8)=D.sl e
 9 g h/\((0:Int)<=(0:Int)/\0<(g.length:Int))/\∃ e h,∃ i:Nat,(x0.cell 8)=D.sl e 9 h i/\((0:Int)<=(1:Int)/\1<(h.length
 : Int))/\∃ e,(x0.cell 1)=D.lit (.string e)/\∀ i,f<=i->ACalls prog 86 [.ag 9] [.dg 9 (List.getD g 0 default),.sv a1 3 e1 c1,.sv a2 4 e2 c2]
 i (fun f g=>i<=g->Bel g f->∀ i,g<=i->ACalls prog 201 [.sl 3] [.sv a1 3 e1 c1,.dg 3 (D.ag [D.lit (.string e),D.lit (.bool
 true),D.lit (.int .i64 0)])] i (fun e g j k=>i<=k->Bel k (D.sl e 3 g j)->∀ i,k<=i->ACalls prog 86 [.ag 9] [.dg
 9 (List.getD h 1 default),.sv e 3 g j,.sv b 4 c d] i (fun b c=>i<=c->Bel c b->∀ d,c<=d->ACalls prog 186
 [.ag 9] [.str a,.dg 9 f,.dg 9 b] d (fun a b=>d<=b->Bel b a->∀ c,b<=c->Q a c)))))))))):ACalls prog 149 [.ag 9] [PV.dg 9 x0,PV.sv a1 3 e1 c1,PV.sv a2 4 e2 c2] N Q:=
  eE (H:=zEy) (by kernel_rfl) (by kernel_rfl) h
theorem zFU (N:Nat) (x0:D) (a1:Option Addr) (e1:List D) (c1:Nat) (a2:Option Addr) (e2:List D) (c2:Nat) (Q:QT [.ag 9]) (h :
Bel N x0->Bel N (D.sl a1 3 e1 c1)->Bel N (D.sl a2 4 e2 c2)->∀ d,N<=d->ACalls prog 146 [.sl 2] [.sv a1 3 e1 c1] d (fun a c e f=>d<=f->Bel f
 (D.sl a 2 c e)->∀ d,f<=d->ACalls prog 69 [.bool] [.dg 9 x0,.sv a 2 c e] d (fun b f=>d<=f->Br (!b) (∀ a,f<=a->ACalls prog 147 [.ag
 9] [.dg 9 x0,.sv a1 3 e1 c1,.sv a2 4 e2 c2] a (fun x b=>a<=b->Bel b x->∀ a,b<=a->Q x a)) (∃ n:Int,(x0.cell 0)=D.lit (.int .i64 n)
 /\ Br (n==5) (∃ b d,∃ g:Nat,(x0.cell 8)=D.sl b 9 d g/\((0:Int)<=(0:Int)/\0<(d.length:Int))/\∀ b,f<=b->ACalls prog 69
 [.bool] [.dg 9 (List.getD d 0 default),.sv a 2 c e] b (fun a c=>b<=c->Br (!a) (∃ a b,∃ d:Nat,(x0.cell 8)=D.sl a 9 b d /\
 ∃ a d,∃ e:Nat,(x0.cell 8)=D.sl a 9 d e/\((0:Int)<=(0:Int)/\0<(d.length:Int))/\∀ a,c<=a->ACalls prog 148 [.sl 2] [.sv
 a1 3 e1 c1] a (fun c e f g=>a<=g->Bel g (D.sl c 2 e f)->∀ a,g<=a->ACalls prog 75 [.int .i64] [.dg 9 (List.getD d
 0 default),.sv c 2 e f] a (fun c d=>a<=d->(0<=IntKind.i64.wrap (2 - c)/\IntKind.i64.wrap (2 - c)<(b.length:Int))/\∀ a,
 d<=a->ACalls prog 86 [.ag 9] [.dg 9 (List.getD b (IntKind.i64.wrap (2 - c)).toNat default),.sv a1 3 e1 c1,.sv a2 4 e2 c2] a (fun b c=>a
 <= c->Bel c b->∀ a,c<=a->Q b a)))) (∃ a:Int,(x0.cell 0)=D.lit (.int .i64 a)/\Br (a==8) (∀ a,c<=a->ACalls prog
 149 [.ag 9] [.dg 9 x0,.sv a1 3 e1 c1,.sv a2 4 e2 c2] a (fun b c=>a<=c->Bel c b->∀ a,c<=a->Q b a)) (∀ a,c<=a
 -> ACalls prog 124 [Sh.pk,.int .i64,.str,.str,.int .i64,Sh.dc,Sh.dc,Sh.dc,Sh.dc,.row (OfNat.ofNat 30) 9] [.dg 9 x0] a (fun b s c d e f g h
 i j k=>a<=k->Bel k (D.ag i)->yI Q N a1 e1 c1 a2 e2 c2 0 x0 0 (bytes []) (bytes []) 0 0 Option.none [] 0 0 Option.none [] 0
 Option.none [] 0 b s c d e f g h i.length j i j k))))) (∃ a:Int,(x0.cell 0)=D.lit (.int .i64 a)/\Br (a==8) (∀ a,f
 <= a->ACalls prog 149 [.ag 9] [.dg 9 x0,.sv a1 3 e1 c1,.sv a2 4 e2 c2] a (fun b c=>a<=c->Bel c b->∀ a,c<=a->Q b a))
 (∀ a,f<=a->ACalls prog 124 [Sh.pk,.int .i64,.str,.str,.int .i64,Sh.dc,Sh.dc,Sh.dc,Sh.dc,.row (OfNat.ofNat 30) 9] [.dg 9 x0] a (fun b c
 d e f g h i j k l=>a<=l->Bel l (D.ag j)->yI Q N a1 e1 c1 a2 e2 c2 0 x0 0 (bytes []) (bytes []) 0 0 Option.none
 [] 0 0 Option.none [] 0 Option.none [] 0 b c d e f g h i j.length k j k l))))))):ACalls prog 86 [.ag 9] [PV.dg 9 x0,PV.sv a1 3 e1 c1,PV.sv a2 4 e2 c2] N Q:=
  eE (H:=pH) (by kernel_rfl) (by kernel_rfl) h
theorem pj (N:Nat) (a0:Option Addr) (e0:List D) (c0:Nat) (Q:QT [.sl 4,.sl 4]) (h :
Bel N (D.sl a0 4 e0 c0)->z8 Q N a0 e0 c0 0 0 0 0 0 [] 0 [] 0 N):ACalls prog 80 [.sl 4,.sl 4] [PV.sv a0 4 e0 c0] N Q:=
 eE (H:=v8) (by kernel_rfl) (by kernel_rfl) h
theorem zAx (N:Nat) (a0:Option Addr) (e0:List D) (c0:Nat) (x1:D) (a2:Option Addr) (e2:List D) (c2:Nat) (Q:QT [.ag 9,.bool]) (h :
Bel N (D.sl a0 4 e0 c0)->Bel N x1->Bel N (D.sl a2 0 e2 c2)->∀ d,N<=d->ACalls prog 68 [.ag 2,.bool] [.sv a0 4 e0 c0,.dg 9 x1] d (fun x b e=>d
 <= e->Bel e x->∀ d,e<=d->ACalls prog 80 [.sl 4,.sl 4] [.sv a0 4 e0 c0] d (fun a c e f g h i=>d<=i->Bel i (D.sl a 4 c e)->Bel
 i (D.sl f 4 g h)->Br (!b) (∀ a,i<=a->Q (D.ag [D.lit (.int .i64 0),D.lit (.string (bytes [])),D.lit (.string (bytes [])),D.lit (.int .i64 0),
 D.lit (.int .i64 0),D.sl Option.none 2 [] 0,D.lit (.int .i64 0),D.sl Option.none 2 [] 0,D.sl Option.none 9 [] 0]) false a) (Br (bne (e2.length:Int) (c.length
 : Int)) (∀ a,i<=a->Q (D.ag [D.lit (.int .i64 0),D.lit (.string (bytes [])),D.lit (.string (bytes [])),D.lit (.int .i64 0),D.lit (.int .i64 0),D.sl
 Option.none 2 [] 0,D.lit (.int .i64 0),D.sl Option.none 2 [] 0,D.sl Option.none 9 [] 0]) false a) (yF Q N a0 e0 c0 a2 e2 c2 0 0 0 0 x1 0 (bytes
 []) (bytes []) 0 0 Option.none [] 0 0 Option.none [] 0 Option.none [] 0 [] 0 i))))):ACalls prog 29 [.ag 9,.bool] [PV.sv a0 4 e0 c0,PV.dg 9 x1,PV.sv a2 0 e2 c2] N Q:=
  eE (H:=ur) (by kernel_rfl) (by kernel_rfl) h
theorem pu (N:Nat) (a0:Option Addr) (e0:List D) (c0:Nat) (Q:QT [.sl 4,.sl 4]) (h :
Bel N (D.sl a0 4 e0 c0)->z7 Q N 0 0 0 0 a0 e0 c0 (e0.length:Int) 0 [] 0 [] 0 N):ACalls prog 82 [.sl 4,.sl 4] [PV.sv a0 4 e0 c0] N Q:=
 eE (H:=v4) (by kernel_rfl) (by kernel_rfl) h
theorem zH5 (N:Nat) (n0:Int) (Q:QT [.ag 9]) (h :
∀ a,N<=a->Q (D.ag [D.lit (.int .i64 2),D.lit (.string (bytes [])),D.lit (.string (bytes [])),D.lit (.int .i64 n0),D.lit (.int .i64 0),D.sl Option.none
 2 [] 0,D.lit (.int .i64 0),D.sl Option.none 2 [] 0,D.sl Option.none 9 [] 0]) a):ACalls prog 239 [.ag 9] [PV.int .i64 n0] N Q:=
  eE (H:=zHJ) (by kernel_rfl) (by kernel_rfl) h
theorem zDn (N:Nat) (n0:Int) (b1:Bool) (Q:QT [.ag 9]) (h :
Br b1 (∀ a,N<=a->Q (D.ag [D.lit (.int .i64 3),D.lit (.string (bytes [])),D.lit (.string (bytes [])),D.lit (.int .i64 n0),D.lit (.int .i64 0),D.sl Option.none
 2 [] 0,D.lit (.int .i64 0),D.sl Option.none 2 [] 0,D.sl Option.none 9 [] 0]) a) (∀ a,N<=a->ACalls prog 239 [.ag 9] [.int .i64 n0] a (fun x b=>a
 <= b->Bel b x->∀ a,b<=a->Q x a))):ACalls prog 196 [.ag 9] [PV.int .i64 n0,PV.bool b1] N Q:=
  eE (H:=zDY) (by kernel_rfl) (by kernel_rfl) h
theorem zEA (N:Nat) (a0:Option Addr) (e0:List D) (c0:Nat) (x1:D) (Q:QT [.sl 4]) (h :
Bel N (D.sl a0 4 e0 c0)->Bel N x1->∃ s,(x1.cell 1)=D.lit (.string s)/\∃ a b,∃ c:Nat,(x1.cell 8)=D.sl a 9 b c/\((0:Int)<=(0:Int)/\0<(b.length
 : Int))/\∀ a,N<=a->ACalls prog 95 [.ag 2] [.sv a0 4 e0 c0,.dg 9 (List.getD b 0 default),.int .i64 0] a (fun x b=>a<=b->Bel b x->(1=([D.ag
 [D.lit (.string s),(x.cell 0),(x.cell 1),D.lit (.int .i64 0)]]).length/\1=1)/\∀ a,ApA a [D.ag [D.lit (.string s),(x.cell 0),(x.cell 1),D.lit (.int
 .i64 0)]]->Off [a] (D.sl a0 4 e0 c0)->∀ c,b<=c->uR c [a]->ACalls prog 212 [.sl 4] [.sv a0 4 e0 c0,.sv a 4 [D.ag [D.lit (.string s),(x.cell
 0),(x.cell 1),D.lit (.int .i64 0)]] 1] c (fun b d e f=>c<=f->Off [a] (D.sl b 4 d e)/\(Bel f (D.sl b 4 d e)->∀ a,f <=
 a->Q b d e a)))):ACalls prog 197 [.sl 4] [PV.sv a0 4 e0 c0,PV.dg 9 x1] N Q:=
  eE (H:=zD8) (by kernel_rfl) (by kernel_rfl) h
theorem sd (N:Nat) (a0:Option Addr) (e0:List D) (c0:Nat) (a1:Option Addr) (e1:List D) (c1:Nat) (x2:D) (Q:QT [.ag 9]) (h :
Bel N (D.sl a0 3 e0 c0)->Bel N (D.sl a1 4 e1 c1)->Bel N x2->∀ d,N<=d->ACalls prog 66 [.bool] [.sv a0 3 e0 c0,.dg 9 x2] d (fun b e=>d<=e->Br
 (!b) (∀ a,e<=a->ACalls prog 145 [.int .i64] [.sv a0 3 e0 c0,.dg 9 x2] a (fun n b=>a<=b->∀ a,b<=a->ACalls prog 95 [.ag 2] [.sv a1 4
 e1 c1,.dg 9 x2,.int .i64 0] a (fun x b=>a<=b->Bel b x->∃ a:Int,(x.cell 0)=D.lit (.int .i64 a)/\∀ c,b<=c->ACalls prog 196 [.ag
 9] [.int .i64 n,.bool (a==2)] c (fun a b=>c<=b->Bel b a->∀ c,b<=c->Q a c)))) (∃ b:Int,(x2.cell 0)=D.lit (.int .i64 b)
 /\ Br (b==1) (∀ a,e<=a->ACalls prog 121 [.ag 9] [.dg 9 x2] a (fun b c=>a<=c->Bel c b->∀ a,c<=a->Q b a)) (∃
 b:Int,(x2.cell 0)=D.lit (.int .i64 b)/\Br (b==5) (∃ a b,∃ c:Nat,(x2.cell 8)=D.sl a 9 b c/\((0:Int)<=(0:Int)/\0<(b.length:Int))
 /\ ∀ a,e<=a->ACalls prog 66 [.bool] [.sv a0 3 e0 c0,.dg 9 (List.getD b 0 default)] a (fun b c=>a<=c->Br (!b) (∃ a b,∃ d :
 Nat,(x2.cell 8)=D.sl a 9 b d/\∃ a d,∃ e:Nat,(x2.cell 8)=D.sl a 9 d e/\((0:Int)<=(0:Int)/\0<(d.length:Int))/\∀ a,
 c<=a->ACalls prog 145 [.int .i64] [.sv a0 3 e0 c0,.dg 9 (List.getD d 0 default)] a (fun c d=>a<=d->(0<=IntKind.i64.wrap (2 - c)
 /\ IntKind.i64.wrap (2 - c)<(b.length:Int))/\∀ a,d<=a->ACalls prog 144 [.ag 9] [.sv a0 3 e0 c0,.sv a1 4 e1 c1,.dg 9 (List.getD b (IntKind.i64.wrap
 (2 - c)).toNat default)] a (fun b c=>a<=c->Bel c b->∀ a,c<=a->Q b a))) (∃ a:Int,(x2.cell 0)=D.lit (.int .i64 a)
 /\ Br (a==8) (∃ a b,∃ d:Nat,(x2.cell 8)=D.sl a 9 b d/\((0:Int)<=(0:Int)/\0<(b.length:Int))/\∀ a,c<=a->ACalls prog
 66 [.bool] [.sv a0 3 e0 c0,.dg 9 (List.getD b 0 default)] a (fun b c=>a<=c->Br (!b) (∃ s,(x2.cell 1)=D.lit (.string s)/\∃ a b,∃
 d:Nat,(x2.cell 8)=D.sl a 9 b d/\((0:Int)<=(0:Int)/\0<(b.length:Int))/\∀ a,c<=a->ACalls prog 145 [.int .i64] [.sv a0 3 e0
 c0,.dg 9 (List.getD b 0 default)] a (fun b c=>a<=c->∃ a d,∃ e:Nat,(x2.cell 8)=D.sl a 9 d e/\((0:Int)<=(1:Int)/\1
 < (d.length:Int))/\∀ a,c<=a->ACalls prog 136 [.sl 3] [.sv a0 3 e0 c0,.dg 3 (D.ag [D.lit (.string s),D.lit (.int .i64 b),D.lit (.bool false)])]
 a (fun b c e f=>a<=f->Bel f (D.sl b 3 c e)->∀ a,f<=a->ACalls prog 197 [.sl 4] [.sv a1 4 e1 c1,.dg 9 x2] a (fun
 f g h i=>a<=i->Bel i (D.sl f 4 g h)->∀ a,i<=a->ACalls prog 144 [.ag 9] [.sv b 3 c e,.sv f 4 g h,.dg 9
 (List.getD d 1 default)] a (fun b c=>a<=c->Bel c b->∀ a,c<=a->Q b a))))) (∃ a b,∃ d:Nat,(x2.cell 8)=D.sl
 a 9 b d/\zB Q N a0 e0 c0 a1 e1 c1 0 0 a b d (b.length:Int) 0 x2 0 (bytes []) (bytes []) 0 0 Option.none [] 0 0 Option.none
 [] 0 Option.none [] 0 [] 0 c))) (∃ a b,∃ d:Nat,(x2.cell 8)=D.sl a 9 b d/\zB Q N a0 e0 c0 a1 e1 c1 0 0 a b d
 (b.length:Int) 0 x2 0 (bytes []) (bytes []) 0 0 Option.none [] 0 0 Option.none [] 0 Option.none [] 0 [] 0 c)))) (∃ a:Int,(x2.cell 0)=D.lit (.int .i64
 a)/\Br (a==8) (∃ a b,∃ c:Nat,(x2.cell 8)=D.sl a 9 b c/\((0:Int)<=(0:Int)/\0<(b.length:Int))/\∀ a,e<=a
 -> ACalls prog 66 [.bool] [.sv a0 3 e0 c0,.dg 9 (List.getD b 0 default)] a (fun b c=>a<=c->Br (!b) (∃ a,(x2.cell 1)=D.lit (.string a)
 /\ ∃ b d,∃ e:Nat,(x2.cell 8)=D.sl b 9 d e/\((0:Int)<=(0:Int)/\0<(d.length:Int))/\∀ b,c<=b->ACalls prog 145 [.int
 .i64] [.sv a0 3 e0 c0,.dg 9 (List.getD d 0 default)] b (fun c d=>b<=d->∃ b e,∃ f:Nat,(x2.cell 8)=D.sl b 9 e f /\
 ((0:Int)<=(1:Int)/\1<(e.length:Int))/\∀ b,d<=b->ACalls prog 136 [.sl 3] [.sv a0 3 e0 c0,.dg 3 (D.ag [D.lit (.string a),D.lit (.int
 .i64 c),D.lit (.bool false)])] b (fun a c d f=>b<=f->Bel f (D.sl a 3 c d)->∀ b,f<=b->ACalls prog 197 [.sl
 4] [.sv a1 4 e1 c1,.dg 9 x2] b (fun f g h i=>b<=i->Bel i (D.sl f 4 g h)->∀ b,i<=b->ACalls prog 144 [.ag 9] [.sv
 a 3 c d,.sv f 4 g h,.dg 9 (List.getD e 1 default)] b (fun a c=>b<=c->Bel c a->∀ b,c<=b->Q a b)))))
 (∃ a b,∃ d:Nat,(x2.cell 8)=D.sl a 9 b d/\zB Q N a0 e0 c0 a1 e1 c1 0 0 a b d (b.length:Int) 0 x2
 0 (bytes []) (bytes []) 0 0 Option.none [] 0 0 Option.none [] 0 Option.none [] 0 [] 0 c))) (∃ a b,∃ c:Nat,(x2.cell 8)=D.sl a 9 b c /\
 zB Q N a0 e0 c0 a1 e1 c1 0 0 a b c (b.length:Int) 0 x2 0 (bytes []) (bytes []) 0 0 Option.none [] 0 0 Option.none [] 0 Option.none
 [] 0 [] 0 e)))))):ACalls prog 144 [.ag 9] [PV.sv a0 3 e0 c0,PV.sv a1 4 e1 c1,PV.dg 9 x2] N Q:=
  eE (H:=wh) (by kernel_rfl) (by kernel_rfl) h
theorem zAi (N:Nat) (a0:Option Addr) (e0:List D) (c0:Nat) (x1:D) (a2:Option Addr) (e2:List D) (c2:Nat) (Q:QT [.ag 9,.bool]) (h :
Bel N (D.sl a0 4 e0 c0)->Bel N x1->Bel N (D.sl a2 0 e2 c2)->∀ d,N<=d->ACalls prog 82 [.sl 4,.sl 4] [.sv a0 4 e0 c0] d (fun a c e f g h i=>
 d<=i->Bel i (D.sl a 4 c e)->Bel i (D.sl f 4 g h)->∀ d,i<=d->ACalls prog 64 [.ag 2,.bool] [.sv a0 4 e0 c0,.dg 9 x1] d (fun x b f
 => d<=f->Bel f x->Br (!b) (∀ a,f<=a->Q (D.ag [D.lit (.int .i64 0),D.lit (.string (bytes [])),D.lit (.string (bytes [])),D.lit (.int .i64 0),
 D.lit (.int .i64 0),D.sl Option.none 2 [] 0,D.lit (.int .i64 0),D.sl Option.none 2 [] 0,D.sl Option.none 9 [] 0]) false a) (∀ b,f<=b->ACalls prog
 143 [.bool] [.sv a 4 c e,.sv a2 0 e2 c2] b (fun a c=>b<=c->Br (!a) (∀ a,c<=a->Q (D.ag [D.lit (.int .i64 0),D.lit (.string (bytes [])),
 D.lit (.string (bytes [])),D.lit (.int .i64 0),D.lit (.int .i64 0),D.sl Option.none 2 [] 0,D.lit (.int .i64 0),D.sl Option.none 2 [] 0,D.sl Option.none 9 []
 0]) false a) (ym Q N a0 e0 c0 a2 e2 c2 0 0 a0 e0 c0 (e0.length:Int) 0 x1 0 (bytes []) (bytes []) 0 0 Option.none [] 0 0 Option.none [] 0 Option.none
 [] 0 [] 0 c)))))):ACalls prog 83 [.ag 9,.bool] [PV.sv a0 4 e0 c0,PV.dg 9 x1,PV.sv a2 0 e2 c2] N Q:=
  eE (H:=uO) (by kernel_rfl) (by kernel_rfl) h
theorem ui (Q:QT [.sl 2]) (N0:Nat) (a0:Option Addr) (e0:List D) (c0 m3 c3:Nat) (n4:Int) (r0:List D) (q0:Nat) (N:Nat) (h :
Br (decide (n4<(e0.length:Int))) ((0<=n4/\n4<(e0.length:Int))/\∃ s,(if 0=0 then D.cell (List.getD e0 n4.toNat default) 0 else D.sub (List.getD e0 n4.toNat
 default) 0 0)=D.lit (.string s)/\(0<=n4/\n4<(e0.length:Int))/\∃ b:Bool,(if 0=0 then D.cell (List.getD e0 n4.toNat default) 1 else D.sub (List.getD
 e0 n4.toNat default) 1 0)=D.lit (.bool b)/\(m3=r0.length/\c3=q0)/\zA r0 [D.ag [D.lit (.string s),D.lit (.bool b)]] 24/\∀ (c:Nat),xL
 Q N0 a0 e0 c0 (r0++[D.ag [D.lit (.string s),D.lit (.bool b)]]).length c (IntKind.i64.wrap (n4+1)) (r0++[D.ag [D.lit (.string s),D.lit (.bool b)]]) c N) ((m3
 = r0.length/\c3=q0)/\(m3=r0.length/\c3=q0)/\(m3=r0.length/\c3=q0)/\∀ a b,N<=b->Fresh N0 b a [D.ag r0]->∀ c,b<=c->Q a r0 q0 c) 
 ):xL Q N0 a0 e0 c0 m3 c3 n4 r0 q0 N:=
  hE (H:=su) (by kernel_rfl) h
theorem uD (Q:QT [.sl 2]) (N0:Nat) (a0:Option Addr) (e0:List D) (c0 m3 c3:Nat) (n4:Int) (r0:List D) (q0:Nat) (N:Nat) (h :
Br (decide (n4<(e0.length:Int))) ((0<=n4/\n4<(e0.length:Int))/\∃ s,(if 0=0 then D.cell (List.getD e0 n4.toNat default) 0 else D.sub (List.getD e0 n4.toNat
 default) 0 0)=D.lit (.string s)/\(0<=n4/\n4<(e0.length:Int))/\∃ n:Int,(if 0=0 then D.cell (List.getD e0 n4.toNat default) 2 else D.sub (List.getD
 e0 n4.toNat default) 2 0)=D.lit (.int .i64 n)/\(m3=r0.length/\c3=q0)/\zA r0 [D.ag [D.lit (.string s),D.lit (.int .i64 n)]] 24/\∀ (c:Nat),yz
 Q N0 a0 e0 c0 (r0++[D.ag [D.lit (.string s),D.lit (.int .i64 n)]]).length c (IntKind.i64.wrap (n4+1)) (r0++[D.ag [D.lit (.string s),D.lit (.int .i64 n)]])
 c N) ((m3=r0.length/\c3=q0)/\(m3=r0.length/\c3=q0)/\(m3=r0.length/\c3=q0)/\∀ a b,N<=b->Fresh N0 b a [D.ag r0]->∀ c,b<=c->Q a
 r0 q0 c)):yz Q N0 a0 e0 c0 m3 c3 n4 r0 q0 N:=
  hE (H:=tT) (by kernel_rfl) h
theorem tl (Q:QT [.ag 9]) (N0:Nat) (a1:Option Addr) (e1:List D) (c1:Nat) (a2:Option Addr) (e2:List D) (c2:Nat) (n9:Int) (y0:D) (n1_0:Int) (s1_1 s1_2:ByteArray) (n1_3 n1_4:Int) (a1_5:Option Addr) (e1_5:List D) (c1_5:Nat) (n1_6:Int) (a1_7:Option Addr) (e1_7:List D) (c1_7:Nat) (a1_8:Option Addr) (e1_8:List D) (c1_8:Nat) (n2_0:Int) (s2_1 s2_2:ByteArray) (n2_3:Int) (x2_4 x2_5 x2_6 x2_7:D) (m2_8 c2_8:Nat) (r3:List D) (q3:Nat) (N:Nat) (h :
∃ a b,∃ c:Nat,(y0.cell 8)=D.sl a 9 b c/\Br (decide (n9<(b.length:Int))) (∃ a b,∃ c:Nat,(y0.cell 8)=D.sl a 9 b c/\(0<=n9/\n9
 < (b.length:Int))/\∀ a,N<=a->ACalls prog 86 [.ag 9] [.dg 9 (List.getD b n9.toNat default),.sv a1 3 e1 c1,.sv a2 4 e2 c2] a (fun x b=>a
 <= b->Bel b x->(0<=n9/\n9<(m2_8:Int)/\(0+n9.toNat:Nat)<r3.length)/\(0+n9.toNat:Nat)<r3.length/\yI Q N0 a1 e1 c1 a2 e2 c2
 (IntKind.i64.wrap (n9+1)) y0 n1_0 s1_1 s1_2 n1_3 n1_4 a1_5 e1_5 c1_5 n1_6 a1_7 e1_7 c1_7 a1_8 e1_8 c1_8 n2_0 s2_1 s2_2 n2_3 x2_4 x2_5 x2_6 x2_7 m2_8 c2_8 (List.set
 r3 (0+n9.toNat:Nat) x) q3 b)) ((m2_8=r3.length/\c2_8=q3)/\(m2_8=r3.length/\c2_8=q3)/\(m2_8=r3.length/\c2_8=q3)/\∀ a b,N<=b->Fresh
 N0 b a [D.ag r3,x2_4,x2_5,x2_6,x2_7]->∀ c,b<=c->Q (D.ag [D.lit (.int .i64 n2_0),D.lit (.string s2_1),D.lit (.string s2_2),D.lit (.int .i64 n2_3),
 x2_4,x2_5,x2_6,x2_7,D.sl a 9 r3 q3]) c)):yI Q N0 a1 e1 c1 a2 e2 c2 n9 y0 n1_0 s1_1 s1_2 n1_3 n1_4 a1_5 e1_5 c1_5 n1_6 a1_7 e1_7 c1_7 a1_8 e1_8 c1_8 n2_0 s2_1 s2_2 n2_3 x2_4 x2_5 x2_6 x2_7 m2_8 c2_8 r3 q3 N:=
  hE (H:=pH) (by kernel_rfl) h
theorem ww (Q:QT [.sl 4,.sl 4]) (N0:Nat) (a0:Option Addr) (e0:List D) (c0 m4 c4 m5 c5:Nat) (n6:Int) (r0:List D) (q0:Nat) (r1:List D) (q1:Nat) (N:Nat) (h :
Br (decide (n6<(e0.length:Int))) ((0<=n6/\n6<(e0.length:Int))/\∃ s,(if 0=0 then D.cell (List.getD e0 n6.toNat default) 0 else D.sub (List.getD e0 n6.toNat
 default) 0 0)=D.lit (.string s)/\(0<=n6/\n6<(e0.length:Int))/\(0<=n6/\n6<(e0.length:Int))/\∃ b:Bool,(if 0=0 then D.cell (List.getD e0 n6.toNat
 default) 3 else D.sub (List.getD e0 n6.toNat default) 3 0)=D.lit (.bool b)/\∀ a,N<=a->ACalls prog 110 [.ag 2] [.dg 2 (if 2=0 then D.cell (List.getD e0
 n6.toNat default) 1 else D.sub (List.getD e0 n6.toNat default) 1 2)] a (fun x d=>a<=d->Bel d x->Br b ((m5=r1.length/\c5=q1)/\zA r1 [D.ag
 [D.lit (.string s),(x.cell 0),(x.cell 1),D.lit (.bool b)]] 56/\∀ (c:Nat),z8 Q N0 a0 e0 c0 m4 c4 (r1++[D.ag [D.lit (.string s),(x.cell
 0),(x.cell 1),D.lit (.bool b)]]).length c (IntKind.i64.wrap (n6+1)) r0 q0 (r1++[D.ag [D.lit (.string s),(x.cell 0),(x.cell 1),D.lit (.bool b)]]) c d)
 ((m4=r0.length/\c4=q0)/\zA r0 [D.ag [D.lit (.string s),(x.cell 0),(x.cell 1),D.lit (.bool b)]] 56/\∀ (a:Nat),z8 Q N0 a0 e0
 c0 (r0++[D.ag [D.lit (.string s),(x.cell 0),(x.cell 1),D.lit (.bool b)]]).length a m5 c5 (IntKind.i64.wrap (n6+1)) (r0++[D.ag [D.lit (.string s),(x.cell
 0),(x.cell 1),D.lit (.bool b)]]) a r1 q1 d))) ((m4=r0.length/\c4=q0)/\(m4=r0.length/\c4=q0)/\(m4=r0.length/\c4=q0)/\∀ a b,N<=b->Fresh
 N0 b a [D.ag r0,D.ag r1]->(m5=r1.length/\c5=q1)/\(m5=r1.length/\c5=q1)/\(m5=r1.length/\c5=q1)/\∀ c d,b<=d->Fresh N0 d c [D.ag
 r1,D.sl a 4 r0 q0]->∀ b,d<=b->Q a r0 q0 c r1 q1 b)):z8 Q N0 a0 e0 c0 m4 c4 m5 c5 n6 r0 q0 r1 q1 N:=
  hE (H:=v8) (by kernel_rfl) h
theorem vK (Q:QT [.ag 9,.bool]) (N0:Nat) (a0:Option Addr) (e0:List D) (c0:Nat) (a2:Option Addr) (e2:List D) (c2 m12 c12:Nat) (n13 n14:Int) (y0:D) (n1_0:Int) (s1_1 s1_2:ByteArray) (n1_3 n1_4:Int) (a1_5:Option Addr) (e1_5:List D) (c1_5:Nat) (n1_6:Int) (a1_7:Option Addr) (e1_7:List D) (c1_7:Nat) (a1_8:Option Addr) (e1_8:List D) (c1_8:Nat) (r2:List D) (q2:Nat) (N:Nat) (h :
Br (decide (n14<(e0.length:Int))) ((0<=n14/\n14<(e0.length:Int))/\∃ s,(if 0=0 then D.cell (List.getD e0 n14.toNat default) 0 else D.sub (List.getD
 e0 n14.toNat default) 0 0)=D.lit (.string s)/\(0<=n14/\n14<(e0.length:Int))/\∃ b:Bool,(if 0=0 then D.cell (List.getD e0 n14.toNat default) 3 else
 D.sub (List.getD e0 n14.toNat default) 3 0)=D.lit (.bool b)/\Br (!b) ((0<=n14/\n14<(e0.length:Int))/\(0<=n13/\n13<(e2.length:Int))/\∃ n:Int,List.getD
 e2 n13.toNat default=D.lit (.int .i64 n)/\∀ a,N<=a->ACalls prog 74 [.bool] [.dg 2 (if 2=0 then D.cell (List.getD e0 n14.toNat default) 1 else D.sub (List.getD
 e0 n14.toNat default) 1 2),.int .i64 n] a (fun d e=>a<=e->Br (!d) (∀ a,e<=a->Q (D.ag [D.lit (.int .i64 0),D.lit (.string (bytes [])),
 D.lit (.string (bytes [])),D.lit (.int .i64 0),D.lit (.int .i64 0),D.sl Option.none 2 [] 0,D.lit (.int .i64 0),D.sl Option.none 2 [] 0,D.sl Option.none 9 []
 0]) false a) ((0<=n13/\n13<(e2.length:Int))/\∃ a:Int,List.getD e2 n13.toNat default=D.lit (.int .i64 a)/\(m12=r2.length/\c12=q2)/\zA
 r2 [D.ag [D.lit (.string s),D.lit (.bool b),D.lit (.int .i64 a)]] 32/\∀ (c:Nat),yF Q N0 a0 e0 c0 a2 e2 c2 (r2++[D.ag [D.lit (.string s),
 D.lit (.bool b),D.lit (.int .i64 a)]]).length c (IntKind.i64.wrap (n13+1)) (IntKind.i64.wrap (n14+1)) y0 n1_0 s1_1 s1_2 n1_3 n1_4 a1_5 e1_5 c1_5 n1_6 a1_7
 e1_7 c1_7 a1_8 e1_8 c1_8 (r2++[D.ag [D.lit (.string s),D.lit (.bool b),D.lit (.int .i64 a)]]) c e))) ((m12=r2.length/\c12=q2)/\zA r2 [D.ag [D.lit
 (.string s),D.lit (.bool b),D.lit (.int .i64 0)]] 32/\∀ (a:Nat),yF Q N0 a0 e0 c0 a2 e2 c2 (r2++[D.ag [D.lit (.string s),D.lit (.bool
 b),D.lit (.int .i64 0)]]).length a n13 (IntKind.i64.wrap (n14+1)) y0 n1_0 s1_1 s1_2 n1_3 n1_4 a1_5 e1_5 c1_5 n1_6 a1_7 e1_7 c1_7 a1_8 e1_8 c1_8 (r2++[D.ag
 [D.lit (.string s),D.lit (.bool b),D.lit (.int .i64 0)]]) a N)) (∀ b,N<=b->ACalls prog 87 [.sl 4] [.sv a0 4 e0 c0] b (fun a c d e=>b<=e
 -> Bel e (D.sl a 4 c d)->(m12=r2.length/\c12=q2)/\∀ b,ApA b r2->Off [b] y0->Off [b] (D.sl a 4 c d)->∀ f,e<=f->uR f [b] ->
 ACalls prog 86 [.ag 9] [.dg 9 y0,.sv b 3 r2 c12,.sv a 4 c d] f (fun x a=>f<=a->Off [b] x/\(Bel a x->∀ b,a<=b->Q x true b)))) 
 ):yF Q N0 a0 e0 c0 a2 e2 c2 m12 c12 n13 n14 y0 n1_0 s1_1 s1_2 n1_3 n1_4 a1_5 e1_5 c1_5 n1_6 a1_7 e1_7 c1_7 a1_8 e1_8 c1_8 r2 q2 N:=
  hE (H:=ur) (by kernel_rfl) h
theorem w4 (Q:QT [.sl 4,.sl 4]) (N0:Nat) (m4 c4 m5 c5:Nat) (a11:Option Addr) (e11:List D) (c11:Nat) (n12 n13:Int) (r0:List D) (q0:Nat) (r1:List D) (q1:Nat) (N:Nat) (h :
Br (decide (n13<n12)) ((0<=n13/\n13<(e11.length:Int))/\∃ s,D.cell (List.getD e11 n13.toNat default) 0=D.lit (.string s)/\∃ b:Bool,D.cell (List.getD
 e11 n13.toNat default) 3=D.lit (.bool b)/\∀ a,N<=a->ACalls prog 104 [.ag 2] [.dg 2 (D.sub (List.getD e11 n13.toNat default) 1 2)] a (fun x d=>a
 <= d->Bel d x->∃ a:Bool,D.cell (List.getD e11 n13.toNat default) 3=D.lit (.bool a)/\Br a ((m5=r1.length/\c5=q1)/\zA r1 [D.ag [D.lit (.string
 s),(x.cell 0),(x.cell 1),D.lit (.bool b)]] 56/\∀ (c:Nat),z7 Q N0 m4 c4 (r1++[D.ag [D.lit (.string s),(x.cell 0),(x.cell 1),D.lit (.bool
 b)]]).length c a11 e11 c11 n12 (IntKind.i64.wrap (n13+1)) r0 q0 (r1++[D.ag [D.lit (.string s),(x.cell 0),(x.cell 1),D.lit (.bool b)]]) c d) ((m4=r0.length
 /\ c4=q0)/\zA r0 [D.ag [D.lit (.string s),(x.cell 0),(x.cell 1),D.lit (.bool b)]] 56/\∀ (a:Nat),z7 Q N0 (r0++[D.ag [D.lit (.string
 s),(x.cell 0),(x.cell 1),D.lit (.bool b)]]).length a m5 c5 a11 e11 c11 n12 (IntKind.i64.wrap (n13+1)) (r0++[D.ag [D.lit (.string s),(x.cell 0),(x.cell
 1),D.lit (.bool b)]]) a r1 q1 d))) ((m4=r0.length/\c4=q0)/\(m4=r0.length/\c4=q0)/\(m4=r0.length/\c4=q0)/\∀ a b,N<=b->Fresh N0 b a
 [D.ag r0,D.ag r1]->(m5=r1.length/\c5=q1)/\(m5=r1.length/\c5=q1)/\(m5=r1.length/\c5=q1)/\∀ c d,b<=d->Fresh N0 d c [D.ag r1,D.sl
 a 4 r0 q0]->∀ b,d<=b->Q a r0 q0 c r1 q1 b)):z7 Q N0 m4 c4 m5 c5 a11 e11 c11 n12 n13 r0 q0 r1 q1 N:=
  hE (H:=v4) (by kernel_rfl) h
theorem xt (Q:QT [.ag 9]) (N0:Nat) (a0:Option Addr) (e0:List D) (c0:Nat) (a1:Option Addr) (e1:List D) (c1 m8 c8:Nat) (a93:Option Addr) (e93:List D) (c93:Nat) (n94 n95:Int) (y0:D) (n1_0:Int) (s1_1 s1_2:ByteArray) (n1_3 n1_4:Int) (a1_5:Option Addr) (e1_5:List D) (c1_5:Nat) (n1_6:Int) (a1_7:Option Addr) (e1_7:List D) (c1_7:Nat) (a1_8:Option Addr) (e1_8:List D) (c1_8:Nat) (r2:List D) (q2:Nat) (N:Nat) (h :
Br (decide (n95<n94)) ((0<=n95/\n95<(e93.length:Int))/\∃ n:Int,(y0.cell 0)=D.lit (.int .i64 n)/\Br (n==8) (Br (n95==1) (∀ b,N<=b->ACalls
 prog 197 [.sl 4] [.sv a1 4 e1 c1,.dg 9 y0] b (fun a c d e=>b<=e->Bel e (D.sl a 4 c d)->∀ b,e<=b->ACalls prog 138 [.sl 3] [.sv a0 3 e0
 c0,.dg 9 y0,.int .i64 n95] b (fun e f g h=>b<=h->Bel h (D.sl e 3 f g)->∀ b,h<=b->ACalls prog 144 [.ag 9] [.sv e 3 f
 g,.sv a 4 c d,.dg 9 (List.getD e93 n95.toNat default)] b (fun x a=>b<=a->Bel a x->(m8=r2.length/\c8=q2)/\zA r2 [x] 136/\∀ (b :
 Nat),zB Q N0 a0 e0 c0 a1 e1 c1 (r2++[x]).length b a93 e93 c93 n94 (IntKind.i64.wrap (n95+1)) y0 n1_0 s1_1 s1_2 n1_3 n1_4 a1_5 e1_5 c1_5
 n1_6 a1_7 e1_7 c1_7 a1_8 e1_8 c1_8 (r2++[x]) b a)))) (∀ a,N<=a->ACalls prog 138 [.sl 3] [.sv a0 3 e0 c0,.dg 9 y0,.int .i64 n95] a (fun b c
 d e=>a<=e->Bel e (D.sl b 3 c d)->∀ a,e<=a->ACalls prog 144 [.ag 9] [.sv b 3 c d,.sv a1 4 e1 c1,.dg 9 (List.getD e93 n95.toNat
 default)] a (fun b c=>a<=c->Bel c b->(m8=r2.length/\c8=q2)/\zA r2 [b] 136/\∀ (a:Nat),zB Q N0 a0 e0
 c0 a1 e1 c1 (r2++[b]).length a a93 e93 c93 n94 (IntKind.i64.wrap (n95+1)) y0 n1_0 s1_1 s1_2 n1_3 n1_4 a1_5 e1_5 c1_5 n1_6 a1_7 e1_7 c1_7 a1_8 e1_8 c1_8 (r2
 ++ [b]) a c)))) (∀ a,N<=a->ACalls prog 138 [.sl 3] [.sv a0 3 e0 c0,.dg 9 y0,.int .i64 n95] a (fun b c d e=>a<=e->Bel e
 (D.sl b 3 c d)->∀ a,e<=a->ACalls prog 144 [.ag 9] [.sv b 3 c d,.sv a1 4 e1 c1,.dg 9 (List.getD e93 n95.toNat default)] a (fun b
 c=>a<=c->Bel c b->(m8=r2.length/\c8=q2)/\zA r2 [b] 136/\∀ (a:Nat),zB Q N0 a0 e0 c0 a1 e1 c1 (r2++[b]).length
 a a93 e93 c93 n94 (IntKind.i64.wrap (n95+1)) y0 n1_0 s1_1 s1_2 n1_3 n1_4 a1_5 e1_5 c1_5 n1_6 a1_7 e1_7 c1_7 a1_8 e1_8 c1_8 (r2++[b]) a c)))) ((m8 =
 r2.length/\c8=q2)/\(m8=r2.length/\c8=q2)/\∀ a b,N<=b->Fresh N0 b a [D.ag r2]->∀ c,b<=c->ACalls prog 198 [.ag 9] [.dg 9 y0,
 .sv a 9 r2 q2] c (fun a b=>c<=b->Bel b a->∀ c,b<=c->Q a c))):zB Q N0 a0 e0 c0 a1 e1 c1 m8 c8 a93 e93 c93 n94 n95 y0 n1_0 s1_1 s1_2 n1_3 n1_4 a1_5 e1_5 c1_5 n1_6 a1_7 e1_7 c1_7 a1_8 e1_8 c1_8 r2 q2 N:=
  hE (H:=wh) (by kernel_rfl) h
theorem vc (Q:QT [.ag 9,.bool]) (N0:Nat) (a0:Option Addr) (e0:List D) (c0:Nat) (a2:Option Addr) (e2:List D) (c2 m12 c12:Nat) (a36:Option Addr) (e36:List D) (c36:Nat) (n37 n38:Int) (y0:D) (n1_0:Int) (s1_1 s1_2:ByteArray) (n1_3 n1_4:Int) (a1_5:Option Addr) (e1_5:List D) (c1_5:Nat) (n1_6:Int) (a1_7:Option Addr) (e1_7:List D) (c1_7:Nat) (a1_8:Option Addr) (e1_8:List D) (c1_8:Nat) (r2:List D) (q2:Nat) (N:Nat) (h :
Br (decide (n38<n37)) ((0<=n38/\n38<(e36.length:Int))/\∃ s,D.cell (List.getD e36 n38.toNat default) 0=D.lit (.string s)/\(m12=r2.length/\c12=q2)
 /\ zA r2 [D.ag [D.lit (.string s),D.cell (D.sub (List.getD e36 n38.toNat default) 1 2) 0,D.cell (D.sub (List.getD e36 n38.toNat default) 1 2) 1,D.lit (.int
 .i64 0)]] 56/\∀ (c:Nat),ym Q N0 a0 e0 c0 a2 e2 c2 (r2++[D.ag [D.lit (.string s),D.cell (D.sub (List.getD e36 n38.toNat default) 1 2) 0,D.cell
 (D.sub (List.getD e36 n38.toNat default) 1 2) 1,D.lit (.int .i64 0)]]).length c a36 e36 c36 n37 (IntKind.i64.wrap (n38+1)) y0 n1_0 s1_1 s1_2 n1_3 n1_4 a1_5 e1_5
 c1_5 n1_6 a1_7 e1_7 c1_7 a1_8 e1_8 c1_8 (r2++[D.ag [D.lit (.string s),D.cell (D.sub (List.getD e36 n38.toNat default) 1 2) 0,D.cell (D.sub (List.getD e36 n38.toNat
 default) 1 2) 1,D.lit (.int .i64 0)]]) c N) (∀ b,N<=b->ACalls prog 65 [.sl 3] [.sv a0 4 e0 c0,.sv a2 0 e2 c2] b (fun a c d e=>b<=e->Bel e
 (D.sl a 3 c d)->(m12=r2.length/\c12=q2)/\∀ b,ApA b r2->Off [b] (D.sl a 3 c d)->Off [b] y0->∀ f,e<=f->uR f [b]->ACalls prog
 144 [.ag 9] [.sv a 3 c d,.sv b 4 r2 c12,.dg 9 y0] f (fun x a=>f<=a->Off [b] x/\(Bel a x->∀ b,a<=b->Q x true b))))):ym Q N0 a0 e0 c0 a2 e2 c2 m12 c12 a36 e36 c36 n37 n38 y0 n1_0 s1_1 s1_2 n1_3 n1_4 a1_5 e1_5 c1_5 n1_6 a1_7 e1_7 c1_7 a1_8 e1_8 c1_8 r2 q2 N:=
  hE (H:=uO) (by kernel_rfl) h
end Go.Proofs.YtkdjhkfiolhkiaaGreat
set_option maxRecDepth 100000
namespace Go.Proofs.YtkdjhkfiolhkiaaGreat
open Go Go.Proofs Go.Proofs.Tryz
def qU:Hint:=⟨[],[],[(1,hs 10 [ec 3 [18]]),(3,hs 9 [ec 3 [30]])]⟩
def qM:Hint:=⟨[],[],[(2,hs 10 [ec 3 [21]]),(3,hs 7 [ec 4 [29]]),(5,hs 8 [ec 3 [34]])]⟩
theorem qW (N:Nat) (a0:Option Addr) (e0:List D) (c0:Nat) (x1:D) (a2:Option Addr) (e2:List D) (c2:Nat) (a3:Option Addr) (e3:List D) (c3:Nat) (Q:QT [.int .i64,.bool]) (h :
Bel N (D.sl a0 4 e0 c0)->Bel N x1->Bel N (D.sl a2 0 e2 c2)->Bel N (D.sl a3 0 e3 c3)->∀ d,N<=d->ACalls prog 29 [.ag 9,.bool] [.sv a0 4 e0 c0,.dg 9 x1,
 .sv a2 0 e2 c2] d (fun x b e=>d<=e->Bel e x->∀ d,e<=d->ACalls prog 80 [.sl 4,.sl 4] [.sv a0 4 e0 c0] d (fun a c e f g h i=>
 d<=i->Bel i (D.sl a 4 c e)->Bel i (D.sl f 4 g h)->∀ a,i<=a->ACalls prog 19 [.int .i64,.bool] [.sv f 4 g h,.dg 9 x,.sv a3 0
 e3 c3] a (fun n c d=>a<=d->Br (!b) (∀ a,d<=a->Q 0 false a) (Br (!c) (∀ a,d<=a->Q 0 false a) (∀ a,d<=a->Q n true a))))) 
 ):ACalls prog 25 [.int .i64,.bool] [PV.sv a0 4 e0 c0,PV.dg 9 x1,PV.sv a2 0 e2 c2,PV.sv a3 0 e3 c3] N Q:=
  eE (H:=qU) (by kernel_rfl) (by kernel_rfl) h
theorem qT (N:Nat) (a0:Option Addr) (e0:List D) (c0:Nat) (x1:D) (a2:Option Addr) (e2:List D) (c2:Nat) (a3:Option Addr) (e3:List D) (c3:Nat) (Q:QT [.int .i64,.bool]) (h :
Bel N (D.sl a0 4 e0 c0)->Bel N x1->Bel N (D.sl a2 0 e2 c2)->Bel N (D.sl a3 0 e3 c3)->∀ d,N<=d->ACalls prog 82 [.sl 4,.sl 4] [.sv a0 4 e0 c0] d (fun
 a c e f g h i=>d<=i->Bel i (D.sl a 4 c e)->Bel i (D.sl f 4 g h)->∀ a,i<=a->ACalls prog 83 [.ag 9,.bool] [.sv a0 4 e0 c0,
 .dg 9 x1,.sv a2 0 e2 c2] a (fun x b c=>a<=c->Bel c x->Br (!b) (∀ a,c<=a->Q 0 false a) (∀ a,c<=a->ACalls prog 84 [.int .i64] [.dg
 9 x] a (fun n b=>a<=b->Br (decide (n>80)) (∀ a,b<=a->Q 0 false a) (∀ a,b<=a->ACalls prog 85 [.int .i64,.bool] [.sv f 4 g
 h,.dg 9 x,.sv a3 0 e3 c3] a (fun b c d=>a<=d->∀ a,d<=a->Q b c a))))))):ACalls prog 24 [.int .i64,.bool] [PV.sv a0 4 e0 c0,PV.dg 9 x1,PV.sv a2 0 e2 c2,PV.sv a3 0 e3 c3] N Q:=
  eE (H:=qM) (by kernel_rfl) (by kernel_rfl) h
end Go.Proofs.YtkdjhkfiolhkiaaGreat
set_option maxRecDepth 100000
namespace Go.Proofs.YtkdjhkfiolhkiaaGreat
open Go Go.Proofs Go.Proofs.Tryz
def zHK:Hint:=⟨[],[],[(3,hs 4 [ec 1 [13]])]⟩
theorem zH7 (N:Nat) (s0:ByteArray) (x1 x2:D) (Q:QT [.ag 9]) (h :
Bel N x1->Bel N x2->(1=([x2]).length/\1=1)/\∀ a,ApA a [x2]->∀ b,N<=b->uR b [a]->ACalls prog 123 [.ag 9] [.int .i64 6,.sv a 9 [x2] 1] b (fun
 x c=>b<=c->Off [a] x/\(Bel c x->∀ a,c<=a->ACalls prog 110 [.ag 2] [.dg 2 x1] a (fun b c=>a<=c->Bel c b->∀ a,c<=a
 -> Q (D.ag [(x.cell 0),D.lit (.string s0),(x.cell 2),(x.cell 3),(b.cell 0),(b.cell 1),(x.cell 6),(x.cell 7),(x.cell 8)]) a)))):ACalls prog 161 [.ag 9] [PV.str s0,PV.dg 2 x1,PV.dg 9 x2] N Q:=
  eE (H:=zHK) (by kernel_rfl) (by kernel_rfl) h
end Go.Proofs.YtkdjhkfiolhkiaaGreat
set_option maxRecDepth 100000
namespace Go.Proofs.YtkdjhkfiolhkiaaGreat
open Go Go.Proofs Go.Proofs.Tryz
def zH8:Hint:=⟨[],[],[]⟩
def zA3:Hint:=⟨[hc 3 [0,3,4]],[],[]⟩
def zEq:Hint:=⟨[],[],[(2,[en 0,en 1,en 2,en 3,en 4,en 5,en 6,en 7,en 8,en 9,en 10,en 11,en 12]),(3,[en 0,en 1,en 2,en 3,en 4,en 5,en 6,en 7,en 8,en 9]),(4,[en 0,en 1,en 2,en 3,en 4,en 5,en 6,en 7,en 8,en 9,en 10,en 11,en 12,en 13,eh 14])]⟩
def zD1:Hint:=⟨[],[],[]⟩
def zGZ:Hint:=⟨[],[],[]⟩
def zGV:Hint:=⟨[],[],[]⟩
def zBM:Hint:=⟨[],[],[]⟩
def rh:Hint:=⟨[hc 3 [0,1,3,6,8,10,11] [(10,30,9)]],[],[(5,[en 0,en 1,en 2,en 3,en 4,en 5,en 6,en 7,en 8,en 9,en 10,en 11,en 12,en 13,ec 14 [31,32],en 15,en 16,en 17,en 18,en 19,en 20,en 21,en 22,en 24,eh 23,en 25,en 26])]⟩
def zDm:Hint:=⟨[],[],[(7,[en 0,en 1,en 2,en 3,en 4,en 5,en 6,en 7,en 8,en 9,eh 10,ec 11 [24,31],eh 12])]⟩
def zIR:Hint:=⟨[],[],[]⟩
def tQ:Hint:=⟨[hc 4 [0,3,4,5] [(3,47,4)]],[],[(9,[en 0,en 1,en 2,en 3,en 4,en 5,en 6,eh 7,en 8,en 9,eh 10,eh 11])]⟩
def pL:Hint:=⟨[],[hc 5 [0,1,3,6,8]],[(10,[en 0,en 1,en 3,en 4,en 6,en 7,en 8,en 9,en 10,en 12,en 13,en 14,en 15,en 16,eh 2,eh 5,eh 11,eh 17,en 18,eh 19,eh 20]),(13,[en 0,en 1,en 2,en 3,en 4,en 5,en 7,en 8,en 9,en 10,en 12,en 13,en 14,eh 6,ec 11 [74],eh 15,ec 16 [70,79],eh 17]),(15,[en 0,en 1,en 3,en 4,en 5,en 6,en 7,en 9,en 10,en 11,en 12,en 13,eh 2,eh 8,eh 14,en 15,eh 16,eh 17]),(18,[en 0,en 1,en 3,en 4,en 5,en 6,en 7,en 9,en 10,en 11,en 12,en 13,eh 2,eh 8,eh 14,en 15,eh 16,eh 17])]⟩
def zDo:Hint:=⟨[],[],[]⟩
def rq:Hint:=⟨[hc 3 [0,1,5,6] [(5,3,0)]],[],[]⟩
def zFP:Hint:=⟨[],[],[]⟩
def uw:Hint:=⟨[],[],[(8,[en 0,en 1,en 2,en 3,en 4,eh 5,en 6,en 7])]⟩
def wa (Q:QT [.cu]) (N0:Nat) (a0:Option Addr) (e0:List D) (c0:Nat) (n3 n4:Int) (N:Nat):Prop:=AT prog 58 [.cu] Q N0 .ord (zE prog 58 3) ⟨.sv a0 0 e0 c0::an 2 (.int .i64 n3::.int .i64 n4::an 27 []),[],N,none⟩
def yJ (E:Env) (Q:QT [(Sh.row (OfNat.ofNat 3) 0),(Sh.sl 0),(Sh.int IntKind.i64),(Sh.int IntKind.i64)]) (N0:Nat) (a1:Option Addr) (e1:List D) (c1 m5 c5:Nat) (n6:Int) (a0_0:Option Addr) (e0_0:List D) (c0_0:Nat) (n0_1 n0_2:Int) (r1:List D) (q1:Nat) (N:Nat):Prop:=AT prog 60 [(Sh.row (OfNat.ofNat 3) 0),(Sh.sl 0),(Sh.int IntKind.i64),(Sh.int IntKind.i64)] Q N0 (.io E [.var [.sv none 0 [] 0,.int .i64 0,.int .i64 0]]) (zE prog 60 3) ⟨.pb 0 0 0 0::.sv a1 4 e1 c1::an 3 (.sb 1 0 0 m5 c5::.int .i64 n6::an 25 []),[.var [.sv a0_0 0 e0_0 c0_0,.int .i64 n0_1,.int .i64 n0_2],.arr 3 0 r1 q1],N,some (uK E 0 [.var [.sv none 0 [] 0,.int .i64 0,.int .i64 0]],[])⟩
def zx (E:Env) (Q:QT [(Sh.sl 4),(Sh.sl 0),(Sh.int IntKind.i64),(Sh.int IntKind.i64)]) (N0:Nat) (m3 c3:Nat) (n4 n5:Int) (a0_0:Option Addr) (e0_0:List D) (c0_0:Nat) (n0_1 n0_2:Int) (r1:List D) (q1:Nat) (N:Nat):Prop:=AT prog 128 [(Sh.sl 4),(Sh.sl 0),(Sh.int IntKind.i64),(Sh.int IntKind.i64)] Q N0 (.io E [.var [.sv none 0 [] 0,.int .i64 0,.int .i64 0]]) (zE prog 128 4) ⟨.pb 0 0 0 0::an 2 (.sb 1 4 0 m3 c3::.int .i64 n4::.int .i64 n5::an 26 []),[.var [.sv a0_0 0 e0_0 c0_0,.int .i64 n0_1,.int .i64 n0_2],.arr 47 4 r1 q1],N,some (uK E 0 [.var [.sv none 0 [] 0,.int .i64 0,.int .i64 0]],[])⟩
def zu (E:Env) (Q:QT [(Sh.ag 9),(Sh.sl 0),(Sh.int IntKind.i64),(Sh.int IntKind.i64)]) (N0:Nat) (a1:Option Addr) (e1:List D) (c1:Nat) (n3:Int) (a0_0:Option Addr) (e0_0:List D) (c0_0:Nat) (n0_1 n0_2:Int) (y1:D) (n2_0:Int) (s2_1 s2_2:ByteArray) (n2_3 n2_4:Int) (a2_5:Option Addr) (e2_5:List D) (c2_5:Nat) (n2_6:Int) (a2_7:Option Addr) (e2_7:List D) (c2_7:Nat) (a2_8:Option Addr) (e2_8:List D) (c2_8:Nat) (N:Nat):Prop:=AT prog 129 [(Sh.ag 9),(Sh.sl 0),(Sh.int IntKind.i64),(Sh.int IntKind.i64)] Q N0 (.io E [.var [.sv none 0 [] 0,.int .i64 0,.int .i64 0]]) (zPa prog 129 5) ⟨.pb 0 0 0 0::.sv a1 4 e1 c1::an 1 (.int .i64 n3::an 2 (.pb 1 0 0 0::an 1 (.pb 2 0 0 0::an 119 []))),[.var [.sv a0_0 0 e0_0 c0_0,.int .i64 n0_1,.int .i64 n0_2],.vd y1 2,.var [.int .i64 n2_0,.str s2_1,.str s2_2,.int .i64 n2_3,.int .i64 n2_4,.sv a2_5 2 e2_5 c2_5,.int .i64 n2_6,.sv a2_7 2 e2_7 c2_7,.sv a2_8 9 e2_8 c2_8]],N,some (uK E 0 [.var [.sv none 0 [] 0,.int .i64 0,.int .i64 0]],[])⟩
def zk (E:Env) (Q:QT [(Sh.ag 9),Sh.bool,(Sh.sl 0),(Sh.int IntKind.i64),(Sh.int IntKind.i64)]) (N0:Nat) (a1:Option Addr) (e1:List D) (c1:Nat) (n3:Int) (m10 c10:Nat) (n11:Int) (a0_0:Option Addr) (e0_0:List D) (c0_0:Nat) (n0_1 n0_2:Int) (y1:D) (n2_0:Int) (s2_1 s2_2:ByteArray) (n2_3 n2_4:Int) (a2_5:Option Addr) (e2_5:List D) (c2_5:Nat) (n2_6:Int) (a2_7:Option Addr) (e2_7:List D) (c2_7:Nat) (a2_8:Option Addr) (e2_8:List D) (c2_8:Nat) (r3:List D) (q3:Nat) (N:Nat):Prop:=AT prog 157 [(Sh.ag 9),Sh.bool,(Sh.sl 0),(Sh.int IntKind.i64),(Sh.int IntKind.i64)] Q N0 (.io E [.var [.sv none 0 [] 0,.int .i64 0,.int .i64 0]]) (zE prog 157 3) ⟨.pb 0 0 0 0::.sv a1 4 e1 c1::an 1 (.int .i64 n3::an 2 (.pb 1 0 0 0::an 1 (.pb 2 0 0 0::an 1 (.sb 3 9 0 m10 c10::.int .i64 n11::an 54 [])))),[.var [.sv a0_0 0 e0_0 c0_0,.int .i64 n0_1,.int .i64 n0_2],.vd y1 2,.var [.int .i64 n2_0,.str s2_1,.str s2_2,.int .i64 n2_3,.int .i64 n2_4,.sv a2_5 2 e2_5 c2_5,.int .i64 n2_6,.sv a2_7 2 e2_7 c2_7,.sv a2_8 9 e2_8 c2_8],.arr 30 9 r3 q3],N,some (uK E 0 [.var [.sv none 0 [] 0,.int .i64 0,.int .i64 0]],[])⟩
theorem zHn (N:Nat) (s0:ByteArray) (Q:QT [.ag 9]) (h :
∀ a,N<=a->Q (D.ag [D.lit (.int .i64 1),D.lit (.string s0),D.lit (.string (bytes [])),D.lit (.int .i64 0),D.lit (.int .i64 0),D.sl Option.none 2 [] 0,
 D.lit (.int .i64 0),D.sl Option.none 2 [] 0,D.sl Option.none 9 [] 0]) a):ACalls prog 155 [.ag 9] [PV.str s0] N Q:=
  eE (H:=zH8) (by kernel_rfl) (by kernel_rfl) h
theorem zHR (N:Nat) (a0:Option Addr) (e0:List D) (c0:Nat) (Q:QT [.cu]) (h :
Bel N (D.sl a0 0 e0 c0)->wa Q N a0 e0 c0 (IntKind.i64.wrap (26583+(e0.length:Int))) 0 N):ACalls prog 58 [.cu] [PV.sv a0 0 e0 c0] N Q:=
 eE (H:=zA3) (by kernel_rfl) (by kernel_rfl) h
theorem zIL (N:Nat) (s0:ByteArray) (a1:Option Addr) (e1:List D) (c1:Nat) (Q:QT [.ag 9]) (h :
Bel N (D.sl a1 9 e1 c1)->∀ a,N<=a->ACalls prog 123 [.ag 9] [.int .i64 4,.sv a1 9 e1 c1] a (fun x b=>a<=b->Bel b x->∀ a,b<=a->Q (D.ag
 [(x.cell 0),D.lit (.string s0),(x.cell 2),(x.cell 3),(x.cell 4),(x.cell 5),(x.cell 6),(x.cell 7),(x.cell 8)]) a)):ACalls prog 187 [.ag 9] [PV.str s0,PV.sv a1 9 e1 c1] N Q:=
  eE (H:=zIR) (by kernel_rfl) (by kernel_rfl) h
theorem tN (N:Nat) (a0:Option Addr) (e0:List D) (c0:Nat) (Q:QT [.sl 4,.ag 9,.sl 0,.sl 0]) (h :
Bel N (D.sl a0 0 e0 c0)->∀ d,N<=d->ACalls prog 58 [Sh.cu] [.sv a0 0 e0 c0] d (fun a c e n f g=>d<=g->∀ d,g<=d->BCalls prog 59 [.sl
 4,.ag 9,.sl 0,.int .i64,.int .i64] [.pb 0 0 0 0] [Bx.var [.sv a 0 c e,.int .i64 n,.int .i64 f]] d (fun a c e x f g h i j k=>d
 <= k->Bel k (D.sl a 4 c e)->Bel k x->Bel k (D.sl f 0 g h)->∀ d,k<=d->BCalls prog 79 [.sl 0,.sl 0,.int .i64,.int .i64] [.pb 0
 0 0 0,.sv a 4 c e] [Bx.var [.sv f 0 g h,.int .i64 i,.int .i64 j]] d (fun f g h i j k l m n=>d<=n->Bel n (D.sl
 f 0 g h)->Bel n (D.sl i 0 j k)->∀ d,n<=d->ACalls prog 80 [.sl 4,.sl 4] [.sv a 4 c e] d (fun n o p q r s t=>
 d<=t->Bel t (D.sl n 4 o p)->Bel t (D.sl q 4 r s)->∀ d,t<=d->BCalls prog 60 [.row (OfNat.ofNat 3) 0,.sl 0,.int .i64,.int .i64]
 [.pb 0 0 0 0,.sv q 4 r s] [Bx.var [.sv i 0 j k,.int .i64 l,.int .i64 m]] d (fun i j k l m n o p=>d<=p->Bel p
 (D.sl k 0 l m)->Bel p (D.ag i)->∀ d,p<=d->BCalls prog 81 [.bool,.sl 0,.int .i64,.int .i64] [.pb 0 0 0 0,.int .i64 12] [Bx.var [.sv
 k 0 l m,.int .i64 n,.int .i64 o]] d (fun b k l m _ _ n=>d<=n->Bel n (D.sl k 0 l m)->Br b ((i.length=i.length
 /\ j=j)/\zA i [D.lit (.int .i64 0)] 8/\∀ (b:Nat),((i++[D.lit (.int .i64 0)]).length=(i++[D.lit (.int .i64 0)]).length/\b=b)
 /\ ((i++[D.lit (.int .i64 0)]).length=(i++[D.lit (.int .i64 0)]).length/\b=b)/\((i++[D.lit (.int .i64 0)]).length=(i++[D.lit (.int
 .i64 0)]).length/\b=b)/\((i++[D.lit (.int .i64 0)]).length=(i++[D.lit (.int .i64 0)]).length/\b=b)/\∀ d j,n<=j->Fresh
 N j d [D.ag (i++[D.lit (.int .i64 0)]),D.sl a 4 c e,D.sl f 0 g h,x]->∀ k,j<=k->Q a c e x f g h d (i ++
 [D.lit (.int .i64 0)]) b k) ((i.length=i.length/\j=j)/\(i.length=i.length/\j=j)/\(i.length=i.length/\j=j) /\
 (i.length=i.length/\j=j)/\∀ b d,n<=d->Fresh N d b [D.ag i,D.sl a 4 c e,D.sl f 0 g h,x]->∀ k,d <=
 k->Q a c e x f g h b i j k)))))))):ACalls prog 23 [.sl 4,.ag 9,.sl 0,.sl 0] [PV.sv a0 0 e0 c0] N Q:=
  eE (H:=uw) (by kernel_rfl) (by kernel_rfl) h
theorem r7 (Q:QT [.cu]) (N0:Nat) (a0:Option Addr) (e0:List D) (c0:Nat) (n3 n4:Int) (N:Nat) (h :
Br (decide (n4<(e0.length:Int))) (Br (decide (n4<4000)) ((0<=n4/\n4<(e0.length:Int))/\∃ n:Int,List.getD e0 n4.toNat default=D.lit (.int IntKind.u8
 n)/\wa Q N0 a0 e0 c0 (IntKind.i64.wrap (BitVec.toNat (HAnd.hAnd (BitVec.ofInt 64 (IntKind.i64.wrap (IntKind.i64.wrap (IntKind.i64.wrap (n3*131) +
 IntKind.i64.wrap n)+7))) (BitVec.ofInt 64 1073741823)):Int)) (IntKind.i64.wrap (n4+1)) N) (∀ a,N<=a->Q a0 e0 c0 0 n3 a)) (∀ a,N<=a->Q a0 e0
 c0 0 n3 a)):wa Q N0 a0 e0 c0 n3 n4 N:=
  hE (H:=zA3) (by kernel_rfl) h
theorem zAw (N:Nat) (aB0_0:Option Addr) (eB0_0:List D) (cB0_0:Nat) (nB0_1 nB0_2:Int) (Q:QT [(Sh.sl 4),(Sh.ag 9),(Sh.sl 0),(Sh.int IntKind.i64),(Sh.int IntKind.i64)]) (h:∀ E:Env,
Bel N (D.sl aB0_0 0 eB0_0 cB0_0)->∀ b,N<=b->BCalls prog 128 [.sl 4,.sl 0,.int .i64,.int .i64] [.pb 0 0 0 0] [Bx.var [.sv aB0_0 0 eB0_0 cB0_0,.int .i64
 nB0_1,.int .i64 nB0_2]] b (fun a c d e f g n h i=>b<=i->Bel i (D.sl a 4 c d)->Bel i (D.sl e 0 f g)->∀ b,i<=b->ACalls
 prog 87 [.sl 4] [.sv a 4 c d] b (fun i j k l=>b<=l->Bel l (D.sl i 4 j k)->∀ b,l<=b->ACalls prog 130 [.ag 2] [] b (fun x
 l=>b<=l->Bel l x->∀ b,l<=b->BCalls prog 61 [.int .i64,.sl 0,.int .i64,.int .i64] [.pb 0 0 0 0,.int .i64 4] [Bx.var [.sv e 0 f g,
 .int .i64 n,.int .i64 h]] b (fun e f g h l m n=>b<=n->Bel n (D.sl f 0 g h)->∀ b,n<=b->BCalls prog 129 [.ag 9,.sl
 0,.int .i64,.int .i64] [.pb 0 0 0 0,.sv i 4 j k,.dg 2 x,.int .i64 (IntKind.i64.wrap (2+e))] [Bx.var [.sv f 0 g h,.int .i64 l,.int .i64
 m]] b (fun e f g h i j k=>b<=k->Bel k e->Bel k (D.sl f 0 g h)->px E [.var [.sv none 0 [] 0,.int .i64 0,.int .i64
 0]]/\∀ b,k<=b->Q a c d e f g h i j b)))))):BCalls prog 59 [(Sh.sl 4),(Sh.ag 9),(Sh.sl 0),(Sh.int IntKind.i64),(Sh.int IntKind.i64)] [.pb 0 0 0 0] [.var [.sv aB0_0 0 eB0_0 cB0_0,.int .i64 nB0_1,.int .i64 nB0_2]] N Q:=
  bE (H:=zDo) (by kernel_rfl) (fun E=>by kernel_rfl) h
theorem zBk (N:Nat) (a1:Option Addr) (e1:List D) (c1:Nat) (aB0_0:Option Addr) (eB0_0:List D) (cB0_0:Nat) (nB0_1 nB0_2:Int) (Q:QT [(Sh.sl 0),(Sh.sl 0),(Sh.int IntKind.i64),(Sh.int IntKind.i64)]) (h:∀ E:Env,
Bel N (D.sl a1 4 e1 c1)->Bel N (D.sl aB0_0 0 eB0_0 cB0_0)->∀ b,N<=b->ACalls prog 80 [.sl 4,.sl 4] [.sv a1 4 e1 c1] b (fun a c d e f g h=>
 b<=h->Bel h (D.sl a 4 c d)->Bel h (D.sl e 4 f g)->∀ b,h<=b->BCalls prog 60 [.row (OfNat.ofNat 3) 0,.sl 0,.int .i64,.int .i64] [.pb
 0 0 0 0,.sv a 4 c d] [Bx.var [.sv aB0_0 0 eB0_0 cB0_0,.int .i64 nB0_1,.int .i64 nB0_2]] b (fun a c d e f n g h=>b<=h->Bel h (D.sl
 d 0 e f)->Bel h (D.ag a)->(a.length=a.length/\c=c)/\(a.length=a.length/\c=c)/\∀ b i,h<=i->Fresh N i b
 [D.ag a]->px E [.var [.sv none 0 [] 0,.int .i64 0,.int .i64 0]]/\∀ h,i<=h->Q b a c d e f n g h))):BCalls prog 79 [(Sh.sl 0),(Sh.sl 0),(Sh.int IntKind.i64),(Sh.int IntKind.i64)] [.pb 0 0 0 0,.sv a1 4 e1 c1] [.var [.sv aB0_0 0 eB0_0 cB0_0,.int .i64 nB0_1,.int .i64 nB0_2]] N Q:=
  bE (H:=zFP) (by kernel_rfl) (fun E=>by kernel_rfl) h
theorem zAj (N:Nat) (a1:Option Addr) (e1:List D) (c1:Nat) (aB0_0:Option Addr) (eB0_0:List D) (cB0_0:Nat) (nB0_1 nB0_2:Int) (Q:QT [(Sh.row (OfNat.ofNat 3) 0),(Sh.sl 0),(Sh.int IntKind.i64),(Sh.int IntKind.i64)]) (h:∀ E:Env,
Bel N (D.sl a1 4 e1 c1)->Bel N (D.sl aB0_0 0 eB0_0 cB0_0)->yJ E Q N a1 e1 c1 0 0 0 aB0_0 eB0_0 cB0_0 nB0_1 nB0_2 [] 0 N):BCalls prog 60 [(Sh.row (OfNat.ofNat 3) 0),(Sh.sl 0),(Sh.int IntKind.i64),(Sh.int IntKind.i64)] [.pb 0 0 0 0,.sv a1 4 e1 c1] [.var [.sv aB0_0 0 eB0_0 cB0_0,.int .i64 nB0_1,.int .i64 nB0_2]] N Q:=
 bE (H:=rq) (by kernel_rfl) (fun E=>by kernel_rfl) h
theorem zBc (N:Nat) (n1:Int) (aB0_0:Option Addr) (eB0_0:List D) (cB0_0:Nat) (nB0_1 nB0_2:Int) (Q:QT [Sh.bool,(Sh.sl 0),(Sh.int IntKind.i64),(Sh.int IntKind.i64)]) (h:∀ E:Env,
Bel N (D.sl aB0_0 0 eB0_0 cB0_0)->∀ b,N<=b->BCalls prog 61 [.int .i64,.sl 0,.int .i64,.int .i64] [.pb 0 0 0 0,.int .i64 n1] [Bx.var [.sv aB0_0 0 eB0_0
 cB0_0,.int .i64 nB0_1,.int .i64 nB0_2]] b (fun n a c d e f g=>b<=g->Bel g (D.sl a 0 c d)->px E [.var [.sv none 0 [] 0,.int .i64 0,.int
 .i64 0]]/\∀ b,g<=b->Q (n==0) a c d e f b)):BCalls prog 81 [Sh.bool,(Sh.sl 0),(Sh.int IntKind.i64),(Sh.int IntKind.i64)] [.pb 0 0 0 0,.int .i64 n1] [.var [.sv aB0_0 0 eB0_0 cB0_0,.int .i64 nB0_1,.int .i64 nB0_2]] N Q:=
  bE (H:=zGZ) (by kernel_rfl) (fun E=>by kernel_rfl) h
theorem qY (N:Nat) (aB0_0:Option Addr) (eB0_0:List D) (cB0_0:Nat) (nB0_1 nB0_2:Int) (Q:QT [(Sh.sl 4),(Sh.sl 0),(Sh.int IntKind.i64),(Sh.int IntKind.i64)]) (h:∀ E:Env,
Bel N (D.sl aB0_0 0 eB0_0 cB0_0)->∀ b,N<=b->BCalls prog 61 [.int .i64,.sl 0,.int .i64,.int .i64] [.pb 0 0 0 0,.int .i64 4] [Bx.var [.sv aB0_0 0 eB0_0
 cB0_0,.int .i64 nB0_1,.int .i64 nB0_2]] b (fun n a c d e f g=>b<=g->Bel g (D.sl a 0 c d)->zx E Q N 0 0 (IntKind.i64.wrap (1
 + n)) 0 a c d e f [] 0 g)):BCalls prog 128 [(Sh.sl 4),(Sh.sl 0),(Sh.int IntKind.i64),(Sh.int IntKind.i64)] [.pb 0 0 0 0] [.var [.sv aB0_0 0 eB0_0 cB0_0,.int .i64 nB0_1,.int .i64 nB0_2]] N Q:=
  bE (H:=tQ) (by kernel_rfl) (fun E=>by kernel_rfl) h
theorem zAW (N:Nat) (n1:Int) (aB0_0:Option Addr) (eB0_0:List D) (cB0_0:Nat) (nB0_1 nB0_2:Int) (Q:QT [(Sh.int IntKind.i64),(Sh.sl 0),(Sh.int IntKind.i64),(Sh.int IntKind.i64)]) (h:∀ E:Env,
Bel N (D.sl aB0_0 0 eB0_0 cB0_0)->Br (decide (n1<=0)) (px E [.var [.sv none 0 [] 0,.int .i64 0,.int .i64 0]]/\∀ a,N<=a->Q 0 aB0_0 eB0_0 cB0_0 nB0_1
 nB0_2 a) (Br (decide (n1<=256)) (∀ b,N<=b->BCalls prog 131 [.int .i64,.sl 0,.int .i64,.int .i64] [.pb 0 0 0 0] [Bx.var [.sv aB0_0 0 eB0_0 cB0_0,.int
 .i64 nB0_1,.int .i64 nB0_2]] b (fun n a c d e f g=>b<=g->Bel g (D.sl a 0 c d)->n1≠0/\px E [.var [.sv none 0 [] 0,.int .i64 0,.int .i64
 0]]/\∀ b,g<=b->Q (Int.tmod n n1) a c d e f b)) (∀ a,N<=a->BCalls prog 131 [.int .i64,.sl 0,.int .i64,.int .i64] [.pb 0 0 0 0] [Bx.var
 [.sv aB0_0 0 eB0_0 cB0_0,.int .i64 nB0_1,.int .i64 nB0_2]] a (fun b c d e f g h=>a<=h->Bel h (D.sl c 0 d e)->∀ a,h<=a
 -> BCalls prog 131 [.int .i64,.sl 0,.int .i64,.int .i64] [.pb 0 0 0 0] [Bx.var [.sv c 0 d e,.int .i64 f,.int .i64 g]] a (fun c d e f g
 h i=>a<=i->Bel i (D.sl d 0 e f)->∀ a,i<=a->BCalls prog 131 [.int .i64,.sl 0,.int .i64,.int .i64] [.pb 0 0 0 0] [Bx.var [.sv d
 0 e f,.int .i64 g,.int .i64 h]] a (fun d e f g h i j=>a<=j->Bel j (D.sl e 0 f g)->∀ a,j<=a->BCalls
 prog 131 [.int .i64,.sl 0,.int .i64,.int .i64] [.pb 0 0 0 0] [Bx.var [.sv e 0 f g,.int .i64 h,.int .i64 i]] a (fun e f g h i j
 k=>a<=k->Bel k (D.sl f 0 g h)->n1≠0/\px E [.var [.sv none 0 [] 0,.int .i64 0,.int .i64 0]]/\∀ a,k<=a->Q (Int.tmod (IntKind.i64.wrap
 (IntKind.i64.wrap (IntKind.i64.wrap (IntKind.i64.wrap (b*16777216)+IntKind.i64.wrap (c*65536))+IntKind.i64.wrap (d*256))+e)) n1) f g h
 i j a))))))):BCalls prog 61 [(Sh.int IntKind.i64),(Sh.sl 0),(Sh.int IntKind.i64),(Sh.int IntKind.i64)] [.pb 0 0 0 0,.int .i64 n1] [.var [.sv aB0_0 0 eB0_0 cB0_0,.int .i64 nB0_1,.int .i64 nB0_2]] N Q:=
  bE (H:=zD1) (by kernel_rfl) (fun E=>by kernel_rfl) h
theorem tY (N:Nat) (a1:Option Addr) (e1:List D) (c1:Nat) (x2:D) (n3:Int) (aB0_0:Option Addr) (eB0_0:List D) (cB0_0:Nat) (nB0_1 nB0_2:Int) (Q:QT [(Sh.ag 9),(Sh.sl 0),(Sh.int IntKind.i64),(Sh.int IntKind.i64)]) (h:∀ E:Env,
Bel N (D.sl a1 4 e1 c1)->Bel N x2->Bel N (D.sl aB0_0 0 eB0_0 cB0_0)->∀ d,N<=d->BCalls prog 81 [.bool,.sl 0,.int .i64,.int .i64] [.pb 0 0 0 0,.int .i64
 3] [Bx.var [.sv aB0_0 0 eB0_0 cB0_0,.int .i64 nB0_1,.int .i64 nB0_2]] d (fun b a c e n f g=>d<=g->Bel g (D.sl a 0 c e)->Br (!b) (∀ b,g
 <= b->BCalls prog 157 [.ag 9,.bool,.sl 0,.int .i64,.int .i64] [.pb 0 0 0 0,.sv a1 4 e1 c1,.dg 2 x2,.int .i64 0] [Bx.var [.sv a 0 c e,.int .i64 n,.int
 .i64 f]] b (fun x a c d e f g h=>b<=h->Bel h x->Bel h (D.sl c 0 d e)->Br a (px E [.var [.sv none 0 [] 0,.int .i64 0,
 .int .i64 0]]/\∀ a,h<=a->Q x c d e f g a) (zu E Q N a1 e1 c1 n3 c d e f g x2 0 (bytes []) (bytes []) 0 0 Option.none
 [] 0 0 Option.none [] 0 Option.none [] 0 h))) (Br (decide (n3<2)) (∀ b,g<=b->BCalls prog 157 [.ag 9,.bool,.sl 0,.int .i64,.int .i64] [.pb 0 0 0
 0,.sv a1 4 e1 c1,.dg 2 x2,.int .i64 0] [Bx.var [.sv a 0 c e,.int .i64 n,.int .i64 f]] b (fun a c d e f g h i=>b<=i->Bel i a
 -> Bel i (D.sl d 0 e f)->Br c (px E [.var [.sv none 0 [] 0,.int .i64 0,.int .i64 0]]/\∀ b,i<=b->Q a d e f g h b) (zu
 E Q N a1 e1 c1 n3 d e f g h x2 0 (bytes []) (bytes []) 0 0 Option.none [] 0 0 Option.none [] 0 Option.none [] 0 i))) (zu E Q N a1 e1 c1
 n3 a c e n f x2 0 (bytes []) (bytes []) 0 0 Option.none [] 0 0 Option.none [] 0 Option.none [] 0 g)))):BCalls prog 129 [(Sh.ag 9),(Sh.sl 0),(Sh.int IntKind.i64),(Sh.int IntKind.i64)] [.pb 0 0 0 0,.sv a1 4 e1 c1,.dg 2 x2,.int .i64 n3] [.var [.sv aB0_0 0 eB0_0 cB0_0,.int .i64 nB0_1,.int .i64 nB0_2]] N Q:=
  bE (H:=pL) (by kernel_rfl) (fun E=>by kernel_rfl) h
theorem tX (E:Env) (Q:QT [(Sh.row (OfNat.ofNat 3) 0),(Sh.sl 0),(Sh.int IntKind.i64),(Sh.int IntKind.i64)]) (N0:Nat) (a1:Option Addr) (e1:List D) (c1 m5 c5:Nat) (n6:Int) (a0_0:Option Addr) (e0_0:List D) (c0_0:Nat) (n0_1 n0_2:Int) (r1:List D) (q1:Nat) (N:Nat) (h :
Br (decide (n6<(e1.length:Int))) (∀ b,N<=b->BCalls prog 63 [.int .i64,.sl 0,.int .i64,.int .i64,.sl 0] [.pb 0 0 0 0,.sb 1 0 0 6 6] [Bx.var [.sv a0_0
 0 e0_0 c0_0,.int .i64 n0_1,.int .i64 n0_2],Bx.arr 3 0 [D.lit (.int .i64 0),D.lit (.int .i64 1),D.lit (.int .i64 2),D.lit (.int .i64 3),D.lit (.int .i64 10006),
 D.lit (.int .i64 500)] 6] b (fun n a c d e f g h i j=>b<=j->Bel j (D.sl a 0 c d)->Bel j (D.sl g 0 h i)->(0<=n6/\n6<(e1.length
 : Int))/\∃ b:Int,(if 0=0 then D.cell (if 2=0 then D.cell (List.getD e1 n6.toNat default) 1 else D.sub (List.getD e1 n6.toNat default) 1 2) 0 else D.sub
 (if 2=0 then D.cell (List.getD e1 n6.toNat default) 1 else D.sub (List.getD e1 n6.toNat default) 1 2) 0 0)=D.lit (.int .i64 b)/\Br (b==2) ((2:Int) ≠
 (0:Int)/\(m5=r1.length/\c5=q1)/\zA r1 [D.lit (.int .i64 (Int.tmod n 2))] 8/\∀ (b:Nat),yJ E Q N0 a1 e1 c1 (r1++[D.lit (.int .i64
 (Int.tmod n 2))]).length b (IntKind.i64.wrap (n6+1)) a c d e f (r1++[D.lit (.int .i64 (Int.tmod n 2))]) b j) ((m5=r1.length/\c5=q1)/\zA
 r1 [D.lit (.int .i64 n)] 8/\∀ (b:Nat),yJ E Q N0 a1 e1 c1 (r1++[D.lit (.int .i64 n)]).length b (IntKind.i64.wrap (n6+1)) a c d e f
 (r1++[D.lit (.int .i64 n)]) b j))) (px E [.var [.sv none 0 [] 0,.int .i64 0,.int .i64 0]]/\(m5=r1.length/\c5=q1)/\∀ a,N<=a->Q r1 c5 a0_0
 e0_0 c0_0 n0_1 n0_2 a)):yJ E Q N0 a1 e1 c1 m5 c5 n6 a0_0 e0_0 c0_0 n0_1 n0_2 r1 q1 N:=
  hE (H:=rq) (by kernel_rfl) h
theorem vp (E:Env) (Q:QT [(Sh.sl 4),(Sh.sl 0),(Sh.int IntKind.i64),(Sh.int IntKind.i64)]) (N0:Nat) (m3 c3:Nat) (n4 n5:Int) (a0_0:Option Addr) (e0_0:List D) (c0_0:Nat) (n0_1 n0_2:Int) (r1:List D) (q1:Nat) (N:Nat) (h :
Br (decide (n5<n4)) (∀ d,N<=d->ACalls prog 130 [.ag 2] [] d (fun x e=>d<=e->Bel e x->Br (n5==3) (∀ d,e<=d->ACalls prog 151 [.ag
 2] [] d (fun e f=>d<=f->Bel f e->(0<=n5/\n5<4/\(0+n5.toNat:Nat)<4)/\(0+n5.toNat:Nat)<4/\∃ s,List.getD [D.lit (.string (bytes
 [120])),D.lit (.string (bytes [121])),D.lit (.string (bytes [110])),D.lit (.string (bytes [98]))] (0+n5.toNat:Nat) default=D.lit (.string s)/\∀ d,f
 <= d->BCalls prog 81 [.bool,.sl 0,.int .i64,.int .i64] [.pb 0 0 0 0,.int .i64 2] [Bx.var [.sv a0_0 0 e0_0 c0_0,.int .i64 n0_1,.int .i64 n0_2]] d (fun b
 a c f n g h=>d<=h->Bel h (D.sl a 0 c f)->(m3=r1.length/\c3=q1)/\zA r1 [D.ag [D.lit (.string s),(e.cell 0),(e.cell 1),D.lit (.bool
 b)]] 56/\∀ (d:Nat),zx E Q N0 (r1++[D.ag [D.lit (.string s),(e.cell 0),(e.cell 1),D.lit (.bool b)]]).length d n4 (IntKind.i64.wrap
 (n5+1)) a c f n g (r1++[D.ag [D.lit (.string s),(e.cell 0),(e.cell 1),D.lit (.bool b)]]) d h))) ((0<=n5/\n5<4/\(0+n5.toNat:Nat)<4) /\
 (0+n5.toNat:Nat)<4/\∃ a,List.getD [D.lit (.string (bytes [120])),D.lit (.string (bytes [121])),D.lit (.string (bytes [110])),D.lit (.string (bytes [98]))]
 (0+n5.toNat:Nat) default=D.lit (.string a)/\∀ b,e<=b->BCalls prog 81 [.bool,.sl 0,.int .i64,.int .i64] [.pb 0 0 0 0,.int .i64 2] [Bx.var [.sv
 a0_0 0 e0_0 c0_0,.int .i64 n0_1,.int .i64 n0_2]] b (fun c d e f g h i=>b<=i->Bel i (D.sl d 0 e f)->(m3=r1.length/\c3=q1)
 /\ zA r1 [D.ag [D.lit (.string a),(x.cell 0),(x.cell 1),D.lit (.bool c)]] 56/\∀ (b:Nat),zx E Q N0 (r1++[D.ag [D.lit (.string a),
 (x.cell 0),(x.cell 1),D.lit (.bool c)]]).length b n4 (IntKind.i64.wrap (n5+1)) d e f g h (r1++[D.ag [D.lit (.string a),(x.cell 0),(x.cell
 1),D.lit (.bool c)]]) b i)))) ((m3=r1.length/\c3=q1)/\(m3=r1.length/\c3=q1)/\(m3=r1.length/\c3=q1)/\∀ a b,N<=b->Fresh N0 b a
 [D.ag r1]->px E [.var [.sv none 0 [] 0,.int .i64 0,.int .i64 0]]/\∀ c,b<=c->Q a r1 q1 a0_0 e0_0 c0_0 n0_1 n0_2 c)):zx E Q N0 m3 c3 n4 n5 a0_0 e0_0 c0_0 n0_1 n0_2 r1 q1 N:=
  hE (H:=tQ) (by kernel_rfl) h
theorem zBW (N:Nat) (aB0_0:Option Addr) (eB0_0:List D) (cB0_0:Nat) (nB0_1 nB0_2:Int) (Q:QT [(Sh.int IntKind.i64),(Sh.sl 0),(Sh.int IntKind.i64),(Sh.int IntKind.i64)]) (h:∀ E:Env,
Bel N (D.sl aB0_0 0 eB0_0 cB0_0)->(0:Int)<=(33:Int)/\(0:Int)<=(45:Int)/\Br (decide (nB0_1<(eB0_0.length:Int))) ((0<=nB0_1/\nB0_1<(eB0_0.length
 : Int))/\∃ n:Int,List.getD eB0_0 nB0_1.toNat default=D.lit (.int IntKind.u8 n)/\px E [.var [.sv none 0 [] 0,.int .i64 0,.int .i64 0]]/\∀ a,N<=a
 -> Q (IntKind.i64.wrap (BitVec.toNat (HAnd.hAnd (BitVec.ofInt 64 (IntKind.i64.wrap (IntKind.i64.wrap (BitVec.toNat (HAnd.hAnd (BitVec.ofInt 64 (IntKind.i64.wrap (BitVec.toNat
 (HXor.hXor (BitVec.ofInt 64 (Int.fdiv (IntKind.i64.wrap (IntKind.i64.wrap (nB0_2*6364136223846793005)+1442695040888963407)) 8589934592)) (BitVec.ofInt 64 (Int.fdiv
 (IntKind.i64.wrap (IntKind.i64.wrap (nB0_2*6364136223846793005)+1442695040888963407)) 35184372088832))):Int))) (BitVec.ofInt 64 255)):Int)+IntKind.i64.wrap
 n))) (BitVec.ofInt 64 255)):Int)) aB0_0 eB0_0 cB0_0 (IntKind.i64.wrap (nB0_1+1)) (IntKind.i64.wrap (IntKind.i64.wrap (nB0_2*6364136223846793005)+1442695040888963407))
 a) (px E [.var [.sv none 0 [] 0,.int .i64 0,.int .i64 0]]/\∀ a,N<=a->Q (IntKind.i64.wrap (BitVec.toNat (HAnd.hAnd (BitVec.ofInt 64 (IntKind.i64.wrap
 (BitVec.toNat (HXor.hXor (BitVec.ofInt 64 (Int.fdiv (IntKind.i64.wrap (IntKind.i64.wrap (nB0_2*6364136223846793005)+1442695040888963407)) 8589934592)) (BitVec.ofInt
 64 (Int.fdiv (IntKind.i64.wrap (IntKind.i64.wrap (nB0_2*6364136223846793005)+1442695040888963407)) 35184372088832))):Int))) (BitVec.ofInt 64 255)):Int))
 aB0_0 eB0_0 cB0_0 nB0_1 (IntKind.i64.wrap (IntKind.i64.wrap (nB0_2*6364136223846793005)+1442695040888963407)) a)):BCalls prog 131 [(Sh.int IntKind.i64),(Sh.sl 0),(Sh.int IntKind.i64),(Sh.int IntKind.i64)] [.pb 0 0 0 0] [.var [.sv aB0_0 0 eB0_0 cB0_0,.int .i64 nB0_1,.int .i64 nB0_2]] N Q:=
  bE (H:=zEq) (by kernel_rfl) (fun E=>by kernel_rfl) h
theorem zAD (N:Nat) (a1:Option Addr) (e1:List D) (c1:Nat) (x2:D) (n3:Int) (aB0_0:Option Addr) (eB0_0:List D) (cB0_0:Nat) (nB0_1 nB0_2:Int) (Q:QT [(Sh.ag 9),Sh.bool,(Sh.sl 0),(Sh.int IntKind.i64),(Sh.int IntKind.i64)]) (h:∀ E:Env,
Bel N (D.sl a1 4 e1 c1)->Bel N x2->Bel N (D.sl aB0_0 0 eB0_0 cB0_0)->zk E Q N a1 e1 c1 n3 0 0 0 aB0_0 eB0_0 cB0_0 nB0_1 nB0_2 x2 0 (bytes []) (bytes
 []) 0 0 Option.none [] 0 0 Option.none [] 0 Option.none [] 0 [] 0 N):BCalls prog 157 [(Sh.ag 9),Sh.bool,(Sh.sl 0),(Sh.int IntKind.i64),(Sh.int IntKind.i64)] [.pb 0 0 0 0,.sv a1 4 e1 c1,.dg 2 x2,.int .i64 n3] [.var [.sv aB0_0 0 eB0_0 cB0_0,.int .i64 nB0_1,.int .i64 nB0_2]] N Q:=
  bE (H:=rh) (by kernel_rfl) (fun E=>by kernel_rfl) h
theorem sN (E:Env) (Q:QT [(Sh.ag 9),(Sh.sl 0),(Sh.int IntKind.i64),(Sh.int IntKind.i64)]) (N0:Nat) (a1:Option Addr) (e1:List D) (c1:Nat) (n3:Int) (a0_0:Option Addr) (e0_0:List D) (c0_0:Nat) (n0_1 n0_2:Int) (y1:D) (n2_0:Int) (s2_1 s2_2:ByteArray) (n2_3 n2_4:Int) (a2_5:Option Addr) (e2_5:List D) (c2_5:Nat) (n2_6:Int) (a2_7:Option Addr) (e2_7:List D) (c2_7:Nat) (a2_8:Option Addr) (e2_8:List D) (c2_8:Nat) (N:Nat) (h :
Br (decide (n3<2)) (∀ b,N<=b->BCalls prog 158 [.ag 9,.sl 0,.int .i64,.int .i64] [.pb 0 0 0 0,.dg 2 y1,.int .i64 0] [Bx.var [.sv a0_0 0 e0_0 c0_0,.int
 .i64 n0_1,.int .i64 n0_2]] b (fun x a c d n e f=>b<=f->Bel f x->Bel f (D.sl a 0 c d)->px E [.var [.sv none 0 [] 0,.int .i64 0,.int .i64
 0]]/\∀ b,f<=b->Q x a c d n e b)) (∀ a,N<=a->ACalls prog 130 [.ag 2] [] a (fun c d=>a<=d->Bel d c->∀ a,d<=a->BCalls
 prog 61 [.int .i64,.sl 0,.int .i64,.int .i64] [.pb 0 0 0 0,.int .i64 5] [Bx.var [.sv a0_0 0 e0_0 c0_0,.int .i64 n0_1,.int .i64 n0_2]] a (fun d e f
 g h i j=>a<=j->Bel j (D.sl e 0 f g)->Br (d==0) (∀ a,j<=a->ACalls prog 151 [.ag 2] [] a (fun b c=>a<=c->Bel c
 b->∀ a,c<=a->BCalls prog 129 [.ag 9,.sl 0,.int .i64,.int .i64] [.pb 0 0 0 0,.sv a1 4 e1 c1,.dg 2 b,.int .i64 (IntKind.i64.wrap (n3 - 1))] [Bx.var
 [.sv e 0 f g,.int .i64 h,.int .i64 i]] a (fun b c d e f g h=>a<=h->Bel h b->Bel h (D.sl c 0 d e)->∀ a,
 h<=a->BCalls prog 129 [.ag 9,.sl 0,.int .i64,.int .i64] [.pb 0 0 0 0,.sv a1 4 e1 c1,.dg 2 y1,.int .i64 (IntKind.i64.wrap (n3 - 1))] [Bx.var [.sv c
 0 d e,.int .i64 f,.int .i64 g]] a (fun c d e f g h i=>a<=i->Bel i c->Bel i (D.sl d 0 e f)->∀ a,i
 <= a->BCalls prog 129 [.ag 9,.sl 0,.int .i64,.int .i64] [.pb 0 0 0 0,.sv a1 4 e1 c1,.dg 2 y1,.int .i64 (IntKind.i64.wrap (n3 - 1))] [Bx.var [.sv d 0 e
 f,.int .i64 g,.int .i64 h]] a (fun d e f g h i j=>a<=j->Bel j d->Bel j (D.sl e 0 f g)->(3=([b,c,d]).length
 /\ 3=3)/\∀ a,ApA a [b,c,d]->∀ k,j<=k->uR k [a]->ACalls prog 123 [.ag 9] [.int .i64 5,.sv a 9 [b,c,d] 3] k (fun
 b c=>k<=c->Off [a] b/\(Bel c b->px E [.var [.sv none 0 [] 0,.int .i64 0,.int .i64 0]]/\∀ a,c<=a->Q b e f g h
 i a))))))) (Br (d==1) (∀ a,j<=a->BCalls prog 132 [.str,.sl 0,.int .i64,.int .i64,.sl 0] [.pb 0 0 0 0,.sb 1 0 0 4 4] [Bx.var [.sv e 0
 f g,.int .i64 h,.int .i64 i],Bx.arr 9 0 [D.lit (.string (bytes [120])),D.lit (.string (bytes [117])),D.lit (.string (bytes [118])),D.lit (.string
 (bytes [121]))] 4] a (fun s b d e f g h i j k=>a<=k->Bel k (D.sl b 0 d e)->Bel k (D.sl h 0 i j)->∀ a,
 k<=a->BCalls prog 129 [.ag 9,.sl 0,.int .i64,.int .i64] [.pb 0 0 0 0,.sv a1 4 e1 c1,.dg 2 c,.int .i64 (IntKind.i64.wrap (n3 - 1))] [Bx.var [.sv b
 0 d e,.int .i64 f,.int .i64 g]] a (fun b d e f g h i=>a<=i->Bel i b->Bel i (D.sl d 0 e f)->∀ a,i
 <= a->ACalls prog 162 [.sl 4] [.sv a1 4 e1 c1,.str s,.dg 2 c,.int .i64 0] a (fun c i j k=>a<=k->Bel k (D.sl c 4 i j)->∀
 a,k<=a->BCalls prog 129 [.ag 9,.sl 0,.int .i64,.int .i64] [.pb 0 0 0 0,.sv c 4 i j,.dg 2 y1,.int .i64 (IntKind.i64.wrap (n3 - 1))] [Bx.var
 [.sv d 0 e f,.int .i64 g,.int .i64 h]] a (fun c d e f g h i=>a<=i->Bel i c->Bel i (D.sl d 0 e f)
 -> ∀ a,i<=a->ACalls prog 186 [.ag 9] [.str s,.dg 9 b,.dg 9 c] a (fun b c=>a<=c->Bel c b->px E [.var [.sv none 0 [] 0,
 .int .i64 0,.int .i64 0]]/\∀ a,c<=a->Q b d e f g h a)))))) (∃ a:Int,(y1.cell 0)=D.lit (.int .i64 a)/\Br (a==1)
 (∀ a,j<=a->BCalls prog 132 [.str,.sl 0,.int .i64,.int .i64,.sl 0] [.pb 0 0 0 0,.sb 1 0 0 3 3] [Bx.var [.sv e 0 f g,.int .i64 h,.int .i64
 i],Bx.arr 9 0 [D.lit (.string (bytes [43])),D.lit (.string (bytes [42])),D.lit (.string (bytes [45]))] 3] a (fun b d e f g h i j
 k l=>a<=l->Bel l (D.sl d 0 e f)->Bel l (D.sl i 0 j k)->∀ a,l<=a->BCalls prog 129 [.ag 9,.sl 0,.int .i64,
 .int .i64] [.pb 0 0 0 0,.sv a1 4 e1 c1,.dg 2 c,.int .i64 (IntKind.i64.wrap (n3 - 1))] [Bx.var [.sv d 0 e f,.int .i64 g,.int .i64 h]] a
 (fun d e f g h i j=>a<=j->Bel j d->Bel j (D.sl e 0 f g)->∀ a,j<=a->BCalls prog 129 [.ag 9,.sl 0,
 .int .i64,.int .i64] [.pb 0 0 0 0,.sv a1 4 e1 c1,.dg 2 c,.int .i64 (IntKind.i64.wrap (n3 - 1))] [Bx.var [.sv e 0 f g,.int .i64 h,.int .i64 i]]
 a (fun c e f g h i j=>a<=j->Bel j c->Bel j (D.sl e 0 f g)->(2=([d,c]).length/\2=2)/\∀ a,
 ApA a [d,c]->∀ k,j<=k->uR k [a]->ACalls prog 187 [.ag 9] [.str b,.sv a 9 [d,c] 2] k (fun b c=>k<=c
 -> Off [a] b/\(Bel c b->px E [.var [.sv none 0 [] 0,.int .i64 0,.int .i64 0]]/\∀ a,c<=a->Q b e f g h i a))))))
 (∀ a,j<=a->BCalls prog 81 [.bool,.sl 0,.int .i64,.int .i64] [.pb 0 0 0 0,.int .i64 4] [Bx.var [.sv e 0 f g,.int .i64 h,.int .i64 i]]
 a (fun b d e f g h i=>a<=i->Bel i (D.sl d 0 e f)->Br b (∀ a,i<=a->BCalls prog 129 [.ag 9,.sl 0,.int .i64,
 .int .i64] [.pb 0 0 0 0,.sv a1 4 e1 c1,.dg 2 y1,.int .i64 (IntKind.i64.wrap (n3 - 1))] [Bx.var [.sv d 0 e f,.int .i64 g,.int .i64 h]] a (fun
 b c d e f g h=>a<=h->Bel h b->Bel h (D.sl c 0 d e)->(1=([b]).length/\1=1)/\∀ a,ApA a [b]
 -> ∀ i,h<=i->uR i [a]->ACalls prog 187 [.ag 9] [.str (bytes [33]),.sv a 9 [b] 1] i (fun b h=>i<=h->Off [a] b
 /\ (Bel h b->px E [.var [.sv none 0 [] 0,.int .i64 0,.int .i64 0]]/\∀ a,h<=a->Q b c d e f g a)))) (∀ a,i<=a
 -> BCalls prog 132 [.str,.sl 0,.int .i64,.int .i64,.sl 0] [.pb 0 0 0 0,.sb 1 0 0 2 2] [Bx.var [.sv d 0 e f,.int .i64 g,.int .i64 h],Bx.arr
 9 0 [D.lit (.string (bytes [61])),D.lit (.string (bytes [60]))] 2] a (fun b d e f g h i j k l=>a<=l->Bel l (D.sl
 d 0 e f)->Bel l (D.sl i 0 j k)->∀ a,l<=a->BCalls prog 129 [.ag 9,.sl 0,.int .i64,.int .i64] [.pb 0 0 0 0,.sv a1 4 e1 c1,
 .dg 2 c,.int .i64 (IntKind.i64.wrap (n3 - 1))] [Bx.var [.sv d 0 e f,.int .i64 g,.int .i64 h]] a (fun d e f g h i j
 => a<=j->Bel j d->Bel j (D.sl e 0 f g)->∀ a,j<=a->BCalls prog 129 [.ag 9,.sl 0,.int .i64,.int .i64] [.pb 0 0 0 0,.sv
 a1 4 e1 c1,.dg 2 c,.int .i64 (IntKind.i64.wrap (n3 - 1))] [Bx.var [.sv e 0 f g,.int .i64 h,.int .i64 i]] a (fun c e f g h
 i j=>a<=j->Bel j c->Bel j (D.sl e 0 f g)->(2=([d,c]).length/\2=2)/\∀ a,ApA a [d,c]->∀ k,j
 <= k->uR k [a]->ACalls prog 187 [.ag 9] [.str b,.sv a 9 [d,c] 2] k (fun b c=>k<=c->Off [a] b/\(Bel c b ->
 px E [.var [.sv none 0 [] 0,.int .i64 0,.int .i64 0]]/\∀ a,c<=a->Q b e f g h i a)))))))))))))):zu E Q N0 a1 e1 c1 n3 a0_0 e0_0 c0_0 n0_1 n0_2 y1 n2_0 s2_1 s2_2 n2_3 n2_4 a2_5 e2_5 c2_5 n2_6 a2_7 e2_7 c2_7 a2_8 e2_8 c2_8 N:=
  hE (H:=pL) (by kernel_rfl) h
theorem qL (N:Nat) (m1 c1:Nat) (aB0_0:Option Addr) (eB0_0:List D) (cB0_0:Nat) (nB0_1 nB0_2:Int) (rB1:List D) (qB1:Nat) (Q:QT [(Sh.int IntKind.i64),(Sh.sl 0),(Sh.int IntKind.i64),(Sh.int IntKind.i64),(Sh.sl 0)]) (h:∀ E:Env,
Bel N (D.sl aB0_0 0 eB0_0 cB0_0)->Bel N (D.sl Option.none 0 rB1 qB1)->∀ b,N<=b->BCalls prog 61 [.int .i64,.sl 0,.int .i64,.int .i64] [.pb 0 0 0 0,.int
 .i64 (m1:Int)] [Bx.var [.sv aB0_0 0 eB0_0 cB0_0,.int .i64 nB0_1,.int .i64 nB0_2]] b (fun n a c d e f g=>b<=g->Bel g (D.sl a 0 c d)->(0 <=
 n/\n<(m1:Int)/\(0+n.toNat:Nat)<rB1.length)/\(0+n.toNat:Nat)<rB1.length/\∃ b:Int,List.getD rB1 (0+n.toNat:Nat) default=D.lit (.int
 .i64 b)/\px E [.var [.sv none 0 [] 0,.int .i64 0,.int .i64 0],.arr 3 0 [] 0]/\∀ h,g<=h->Q b a c d e f Option.none rB1 qB1 h)):BCalls prog 63 [(Sh.int IntKind.i64),(Sh.sl 0),(Sh.int IntKind.i64),(Sh.int IntKind.i64),(Sh.sl 0)] [.pb 0 0 0 0,.sb 1 0 0 m1 c1] [.var [.sv aB0_0 0 eB0_0 cB0_0,.int .i64 nB0_1,.int .i64 nB0_2],.arr 3 0 rB1 qB1] N Q:=
  bE (H:=zBM) (by kernel_rfl) (fun E=>by kernel_rfl) h
theorem tc (E:Env) (Q:QT [(Sh.ag 9),Sh.bool,(Sh.sl 0),(Sh.int IntKind.i64),(Sh.int IntKind.i64)]) (N0:Nat) (a1:Option Addr) (e1:List D) (c1:Nat) (n3:Int) (m10 c10:Nat) (n11:Int) (a0_0:Option Addr) (e0_0:List D) (c0_0:Nat) (n0_1 n0_2:Int) (y1:D) (n2_0:Int) (s2_1 s2_2:ByteArray) (n2_3 n2_4:Int) (a2_5:Option Addr) (e2_5:List D) (c2_5:Nat) (n2_6:Int) (a2_7:Option Addr) (e2_7:List D) (c2_7:Nat) (a2_8:Option Addr) (e2_8:List D) (c2_8:Nat) (r3:List D) (q3:Nat) (N:Nat) (h :
Br (decide (n11<(e1.length:Int))) ((0<=n11/\n11<(e1.length:Int))/\∃ n:Int,(if 0=0 then D.cell (List.getD e1 n11.toNat default) 3 else D.sub (List.getD
 e1 n11.toNat default) 3 0)=D.lit (.int .i64 n)/\Br (n==n3) ((0<=n11/\n11<(e1.length:Int))/\∀ a,N<=a->ACalls prog 107 [.bool] [.dg 2 (if 2=0
 then D.cell (List.getD e1 n11.toNat default) 1 else D.sub (List.getD e1 n11.toNat default) 1 2),.dg 2 y1] a (fun b d=>a<=d->Br b ((0<=n11/\n11<(e1.length
 : Int))/\∃ s,(if 0=0 then D.cell (List.getD e1 n11.toNat default) 0 else D.sub (List.getD e1 n11.toNat default) 0 0)=D.lit (.string s)/\∀ a,d<=a ->
 ACalls prog 109 [.int .i64] [.sv a1 4 e1 c1,.str s] a (fun b d=>a<=d->Br (b==n11) ((0<=n11/\n11<(e1.length:Int))/\∃ a,(if 0=0 then
 D.cell (List.getD e1 n11.toNat default) 0 else D.sub (List.getD e1 n11.toNat default) 0 0)=D.lit (.string a)/\∀ b,d<=b->ACalls prog 155 [.ag 9] [.str
 a] b (fun x a=>b<=a->Bel a x->(m10=r3.length/\c10=q3)/\zA r3 [x] 136/\∀ (c:Nat),zk E Q N0 a1 e1 c1 n3 (r3++[x]).length
 c (IntKind.i64.wrap (n11+1)) a0_0 e0_0 c0_0 n0_1 n0_2 y1 n2_0 s2_1 s2_2 n2_3 n2_4 a2_5 e2_5 c2_5 n2_6 a2_7 e2_7 c2_7 a2_8 e2_8 c2_8 (r3++[x]) c a)) (zk
 E Q N0 a1 e1 c1 n3 m10 c10 (IntKind.i64.wrap (n11+1)) a0_0 e0_0 c0_0 n0_1 n0_2 y1 n2_0 s2_1 s2_2 n2_3 n2_4 a2_5 e2_5 c2_5 n2_6 a2_7 e2_7 c2_7 a2_8 e2_8 c2_8 r3
 q3 d))) (zk E Q N0 a1 e1 c1 n3 m10 c10 (IntKind.i64.wrap (n11+1)) a0_0 e0_0 c0_0 n0_1 n0_2 y1 n2_0 s2_1 s2_2 n2_3 n2_4 a2_5 e2_5 c2_5 n2_6 a2_7
 e2_7 c2_7 a2_8 e2_8 c2_8 r3 q3 d))) (zk E Q N0 a1 e1 c1 n3 m10 c10 (IntKind.i64.wrap (n11+1)) a0_0 e0_0 c0_0 n0_1 n0_2 y1 n2_0 s2_1 s2_2 n2_3 n2_4
 a2_5 e2_5 c2_5 n2_6 a2_7 e2_7 c2_7 a2_8 e2_8 c2_8 r3 q3 N)) (Br ((m10:Int)==0) (px E [.var [.sv none 0 [] 0,.int .i64 0,.int .i64 0]]/\∀ a,N<=a ->
 Q (D.ag [D.lit (.int .i64 0),D.lit (.string (bytes [])),D.lit (.string (bytes [])),D.lit (.int .i64 0),D.lit (.int .i64 0),D.sl Option.none 2 [] 0,D.lit (.int
 .i64 0),D.sl Option.none 2 [] 0,D.sl Option.none 9 [] 0]) false a0_0 e0_0 c0_0 n0_1 n0_2 a) (∀ b,N<=b->BCalls prog 61 [.int .i64,.sl 0,.int .i64,.int
 .i64] [.pb 0 0 0 0,.int .i64 (m10:Int)] [Bx.var [.sv a0_0 0 e0_0 c0_0,.int .i64 n0_1,.int .i64 n0_2]] b (fun a c d e f g h=>b<=h->Bel h
 (D.sl c 0 d e)->(0<=a/\a<(m10:Int)/\(0+a.toNat:Nat)<r3.length)/\(0+a.toNat:Nat)<r3.length/\px E [.var [.sv none 0 [] 0,.int .i64
 0,.int .i64 0]]/\∀ b,h<=b->Q (List.getD r3 (0+a.toNat:Nat) default) true c d e f g b)))):zk E Q N0 a1 e1 c1 n3 m10 c10 n11 a0_0 e0_0 c0_0 n0_1 n0_2 y1 n2_0 s2_1 s2_2 n2_3 n2_4 a2_5 e2_5 c2_5 n2_6 a2_7 e2_7 c2_7 a2_8 e2_8 c2_8 r3 q3 N:=
  hE (H:=rh) (by kernel_rfl) h
theorem xE (N:Nat) (x1:D) (n2:Int) (aB0_0:Option Addr) (eB0_0:List D) (cB0_0:Nat) (nB0_1 nB0_2:Int) (Q:QT [(Sh.ag 9),(Sh.sl 0),(Sh.int IntKind.i64),(Sh.int IntKind.i64)]) (h:∀ E:Env,
Bel N x1->Bel N (D.sl aB0_0 0 eB0_0 cB0_0)->∃ n:Int,(x1.cell 0)=D.lit (.int .i64 n)/\Br (n==1) (∀ b,N<=b->BCalls prog 61 [.int .i64,.sl 0,.int
 .i64,.int .i64] [.pb 0 0 0 0,.int .i64 4] [Bx.var [.sv aB0_0 0 eB0_0 cB0_0,.int .i64 nB0_1,.int .i64 nB0_2]] b (fun a c d e f g h=>b<=h->Bel
 h (D.sl c 0 d e)->∀ b,h<=b->ACalls prog 204 [.ag 9] [.int .i64 a] b (fun x a=>b<=a->Bel a x->px E [.var [.sv none 0 [] 0,.int .i64
 0,.int .i64 0]]/\∀ b,a<=b->Q x c d e f g b))) (Br (n==2) (∀ a,N<=a->BCalls prog 61 [.int .i64,.sl 0,.int .i64,.int .i64] [.pb 0 0 0
 0,.int .i64 2] [Bx.var [.sv aB0_0 0 eB0_0 cB0_0,.int .i64 nB0_1,.int .i64 nB0_2]] a (fun b c d e f g h=>a<=h->Bel h (D.sl c 0 d
 e)->∀ a,h<=a->ACalls prog 205 [.ag 9] [.int .i64 b] a (fun b h=>a<=h->Bel h b->px E [.var [.sv none 0 [] 0,.int .i64 0,.int
 .i64 0]]/\∀ a,h<=a->Q b c d e f g a))) (Br (n==3) (∃ a b,∃ c:Nat,(x1.cell 1)=D.sl a 2 b c/\((0:Int)<=(0:Int)
 /\ 0<(b.length:Int))/\∃ a c,∃ d:Nat,(x1.cell 1)=D.sl a 2 c d/\((0:Int)<=(1:Int)/\1<(c.length:Int))/\∀ a,N<=a ->
 BCalls prog 158 [.ag 9,.sl 0,.int .i64,.int .i64] [.pb 0 0 0 0,.dg 2 (List.getD c 1 default),.int .i64 n2] [Bx.var [.sv aB0_0 0 eB0_0 cB0_0,.int .i64 nB0_1,
 .int .i64 nB0_2]] a (fun c d e f g h i=>a<=i->Bel i c->Bel i (D.sl d 0 e f)->∀ a,i<=a->ACalls prog 161
 [.ag 9] [.str (bytes [119]),.dg 2 (List.getD b 0 default),.dg 9 c] a (fun b c=>a<=c->Bel c b->px E [.var [.sv none 0 [] 0,.int
 .i64 0,.int .i64 0]]/\∀ a,c<=a->Q b d e f g h a))) (∃ a b,∃ c:Nat,(x1.cell 1)=D.sl a 2 b c/\((0:Int)<=(0 :
 Int)/\0<(b.length:Int))/\∀ a,N<=a->BCalls prog 158 [.ag 9,.sl 0,.int .i64,.int .i64] [.pb 0 0 0 0,.dg 2 (List.getD b 0 default),.int .i64
 (IntKind.i64.wrap (n2+1))] [Bx.var [.sv aB0_0 0 eB0_0 cB0_0,.int .i64 nB0_1,.int .i64 nB0_2]] a (fun b c d e f g h=>a<=h->Bel h
 b->Bel h (D.sl c 0 d e)->(1=([b]).length/\1=1)/\(1=([b]).length/\1=1)/\(1=([b]).length/\1=1)/\∀ a i,h<=i->Fresh
 N i a [D.ag [b],D.sl Option.none 2 [] 0,D.sl Option.none 2 [] 0]->px E [.var [.sv none 0 [] 0,.int .i64 0,.int .i64 0]]/\∀ h,i<=h->Q (D.ag
 [D.lit (.int .i64 10),D.lit (.string (bytes [])),D.lit (.string (bytes [])),D.lit (.int .i64 0),D.lit (.int .i64 0),D.sl Option.none 2 [] 0,D.lit (.int .i64
 0),D.sl Option.none 2 [] 0,D.sl a 9 [b] 1]) c d e f g h))))):BCalls prog 158 [(Sh.ag 9),(Sh.sl 0),(Sh.int IntKind.i64),(Sh.int IntKind.i64)] [.pb 0 0 0 0,.dg 2 x1,.int .i64 n2] [.var [.sv aB0_0 0 eB0_0 cB0_0,.int .i64 nB0_1,.int .i64 nB0_2]] N Q:=
  bE (H:=zDm) (by kernel_rfl) (fun E=>by kernel_rfl) h
theorem zBY (N:Nat) (m1 c1:Nat) (aB0_0:Option Addr) (eB0_0:List D) (cB0_0:Nat) (nB0_1 nB0_2:Int) (rB1:List D) (qB1:Nat) (Q:QT [Sh.str,(Sh.sl 0),(Sh.int IntKind.i64),(Sh.int IntKind.i64),(Sh.sl 0)]) (h:∀ E:Env,
Bel N (D.sl aB0_0 0 eB0_0 cB0_0)->Bel N (D.sl Option.none 0 rB1 qB1)->∀ b,N<=b->BCalls prog 61 [.int .i64,.sl 0,.int .i64,.int .i64] [.pb 0 0 0 0,.int
 .i64 (m1:Int)] [Bx.var [.sv aB0_0 0 eB0_0 cB0_0,.int .i64 nB0_1,.int .i64 nB0_2]] b (fun n a c d e f g=>b<=g->Bel g (D.sl a 0 c d)->(0 <=
 n/\n<(m1:Int)/\(0+n.toNat:Nat)<rB1.length)/\(0+n.toNat:Nat)<rB1.length/\∃ s,List.getD rB1 (0+n.toNat:Nat) default=D.lit (.string s) /\
 px E [.var [.sv none 0 [] 0,.int .i64 0,.int .i64 0],.arr 9 0 [] 0]/\∀ b,g<=b->Q s a c d e f Option.none rB1 qB1 b)):BCalls prog 132 [Sh.str,(Sh.sl 0),(Sh.int IntKind.i64),(Sh.int IntKind.i64),(Sh.sl 0)] [.pb 0 0 0 0,.sb 1 0 0 m1 c1] [.var [.sv aB0_0 0 eB0_0 cB0_0,.int .i64 nB0_1,.int .i64 nB0_2],.arr 9 0 rB1 qB1] N Q:=
  bE (H:=zGV) (by kernel_rfl) (fun E=>by kernel_rfl) h
end Go.Proofs.YtkdjhkfiolhkiaaGreat
set_option maxRecDepth 100000
namespace Go.Proofs.YtkdjhkfiolhkiaaGreat
open Go Go.Proofs Go.Proofs.Tryz
def pE:Hint:=⟨[hc 3 [1,3,4]],[],[(5,hs 9 [ec 6 [17]])]⟩
def zKU:Hint:=⟨[],[],[]⟩
def sH:Hint:=⟨[hc 4 [0,1,5]],[],[(6,[en 0,en 1,en 2,en 3,en 4,en 5,en 6,en 7,en 8])]⟩
def tk:Hint:=⟨[hc 6 [1,2,10,31,32,33] [(10,3,0)]],[],[(9,[en 0,en 1,en 2,en 3,en 4,en 6,en 7,eh 5,eh 8,eh 9]),(10,[en 0,en 1,en 2,en 3,en 4,en 6,en 7,eh 5,eh 8,eh 9])]⟩
def tg:Hint:=⟨[hc 8 [0,1,2,10,11,12,13] [(10,3,0)]],[],[]⟩
def rc:Hint:=⟨[],[],[(4,hs 10 [ec 4 [30]]),(5,hs 10 [ec 4 [38]]),(10,hs 9 [ec 3 [79]]),(11,hs 10 [ec 3 [86]]),(12,[en 0,en 1,en 2,en 3,en 4,en 5,en 6,en 7,en 8,en 9,en 10,en 11,en 12,en 13,en 14,en 15,en 17,ec 16 [106],ec 18 [108],en 19,en 20,en 21,en 22])]⟩
def wO (Q:QT [.int .i64]) (N0:Nat) (n3 n4:Int) (y0:D) (N:Nat):Prop:=AT prog 20 [.int .i64] Q N0 .ord (zE prog 20 3) ⟨an 1 (.pb 0 0 0 0::an 1 (.int .i64 n3::.int .i64 n4::an 16 [])),[.vd y0 9],N,none⟩
def xJ (Q:QT [.bool]) (N0:Nat) (a0:Option Addr) (e0:List D) (c0:Nat) (a1:Option Addr) (e1:List D) (c1:Nat) (n5:Int) (N:Nat):Prop:=AT prog 28 [.bool] Q N0 .ord (zE prog 28 4) ⟨.sv a0 0 e0 c0::.sv a1 0 e1 c1::an 3 (.int .i64 n5::an 20 []),[],N,none⟩
def yP (Q:QT [.sl 0,.bool]) (N0:Nat) (a1:Option Addr) (e1:List D) (c1:Nat) (a2:Option Addr) (e2:List D) (c2 m10 c10:Nat) (a31:Option Addr) (e31:List D) (c31:Nat) (n32 n33:Int) (r0:List D) (q0:Nat) (N:Nat):Prop:=AT prog 26 [.sl 0,.bool] Q N0 .ord (zE prog 26 6) ⟨an 1 (.sv a1 0 e1 c1::.sv a2 0 e2 c2::an 7 (.sb 0 0 0 m10 c10::an 20 (.sv a31 4 e31 c31::.int .i64 n32::.int .i64 n33::an 23 []))),[.arr 3 0 r0 q0],N,none⟩
def yL (Q:QT [.sl 0,.bool]) (N0:Nat) (a0:Option Addr) (e0:List D) (c0:Nat) (a1:Option Addr) (e1:List D) (c1:Nat) (a2:Option Addr) (e2:List D) (c2 m10 c10:Nat) (n11 n12 n13:Int) (r0:List D) (q0:Nat) (N:Nat):Prop:=AT prog 27 [.sl 0,.bool] Q N0 .ord (zE prog 27 8) ⟨.sv a0 4 e0 c0::.sv a1 0 e1 c1::.sv a2 0 e2 c2::an 7 (.sb 0 0 0 m10 c10::.int .i64 n11::.int .i64 n12::.int .i64 n13::an 49 []),[.arr 3 0 r0 q0],N,none⟩
theorem zGK (N:Nat) (x0:D) (Q:QT [.int .i64]) (h :
Bel N x0->wO Q N 1 0 x0 N):ACalls prog 20 [.int .i64] [PV.dg 9 x0] N Q:=
 eE (H:=pE) (by kernel_rfl) (by kernel_rfl) h
theorem zJ7 (N:Nat) (a0:Option Addr) (e0:List D) (c0:Nat) (Q:QT [.bool]) (h :
Bel N (D.sl a0 0 e0 c0)->∀ a,N<=a->Q (decide ((e0.length:Int)>1048576)) a):ACalls prog 7 [.bool] [PV.sv a0 0 e0 c0] N Q:=
 eE (H:=zKU) (by kernel_rfl) (by kernel_rfl) h
theorem zCz (N:Nat) (a0:Option Addr) (e0:List D) (c0:Nat) (a1:Option Addr) (e1:List D) (c1:Nat) (Q:QT [.bool]) (h :
Bel N (D.sl a0 0 e0 c0)->Bel N (D.sl a1 0 e1 c1)->Br (bne (e0.length:Int) (e1.length:Int)) (∀ a,N<=a->Q false a) (xJ Q N a0 e0 c0 a1
 e1 c1 0 N)):ACalls prog 28 [.bool] [PV.sv a0 0 e0 c0,PV.sv a1 0 e1 c1] N Q:=
  eE (H:=sH) (by kernel_rfl) (by kernel_rfl) h
theorem zBO (N:Nat) (a0:Option Addr) (e0:List D) (c0:Nat) (a1:Option Addr) (e1:List D) (c1:Nat) (a2:Option Addr) (e2:List D) (c2:Nat) (Q:QT [.sl 0,.bool]) (h :
Bel N (D.sl a0 4 e0 c0)->Bel N (D.sl a1 0 e1 c1)->Bel N (D.sl a2 0 e2 c2)->∀ b,N<=b->ACalls prog 82 [.sl 4,.sl 4] [.sv a0 4 e0 c0] b (fun a c d e
 f g h=>b<=h->Bel h (D.sl a 4 c d)->Bel h (D.sl e 4 f g)->Br (bne (c.length:Int) (e1.length:Int)) (∀ a,h<=a->Q Option.none
 [] 0 false a) (Br (bne (f.length:Int) (e2.length:Int)) (∀ a,h<=a->Q Option.none [] 0 false a) (yP Q N a1 e1 c1 a2 e2 c2 0 0 a0
 e0 c0 (e0.length:Int) 0 [] 0 h)))):ACalls prog 26 [.sl 0,.bool] [PV.sv a0 4 e0 c0,PV.sv a1 0 e1 c1,PV.sv a2 0 e2 c2] N Q:=
  eE (H:=tk) (by kernel_rfl) (by kernel_rfl) h
theorem zBf (N:Nat) (a0:Option Addr) (e0:List D) (c0:Nat) (a1:Option Addr) (e1:List D) (c1:Nat) (a2:Option Addr) (e2:List D) (c2:Nat) (Q:QT [.sl 0,.bool]) (h :
Bel N (D.sl a0 4 e0 c0)->Bel N (D.sl a1 0 e1 c1)->Bel N (D.sl a2 0 e2 c2)->∀ b,N<=b->ACalls prog 80 [.sl 4,.sl 4] [.sv a0 4 e0 c0] b (fun a c d e
 f g h=>b<=h->Bel h (D.sl a 4 c d)->Bel h (D.sl e 4 f g)->Br (bne (e1.length:Int) (c.length:Int)) ((0=0/\0=0)/\(0=0/\0
 = 0)/\∀ a b,h<=b->Fresh N b a [D.ag []]->∀ c,b<=c->Q a [] 0 false c) (Br (bne (e2.length:Int) (f.length:Int)) ((0=0/\0 =
 0)/\(0=0/\0=0)/\∀ a b,h<=b->Fresh N b a [D.ag []]->∀ c,b<=c->Q a [] 0 false c) (yL Q N a0 e0 c0 a1 e1 c1 a2 e2
 c2 0 0 0 0 0 [] 0 h)))):ACalls prog 27 [.sl 0,.bool] [PV.sv a0 4 e0 c0,PV.sv a1 0 e1 c1,PV.sv a2 0 e2 c2] N Q:=
  eE (H:=tg) (by kernel_rfl) (by kernel_rfl) h
theorem ra (N:Nat) (a0:Option Addr) (e0:List D) (c0:Nat) (Q:QT [.bool]) (h :
Bel N (D.sl a0 0 e0 c0)->∀ d,N<=d->ACalls prog 7 [.bool] [.sv a0 0 e0 c0] d (fun b e=>d<=e->Br b (∀ a,e<=a->Q true a) (∀ b,e
 <= b->ACalls prog 23 [.sl 4,.ag 9,.sl 0,.sl 0] [.sv a0 0 e0 c0] b (fun a c d x e f g h i j k=>b<=k->Bel k (D.sl a 4 c d)->Bel
 k x->Bel k (D.sl e 0 f g)->Bel k (D.sl h 0 i j)->∀ b,k<=b->ACalls prog 24 [.int .i64,.bool] [.sv a 4 c d,.dg 9 x,.sv e 0 f
 g,.sv h 0 i j] b (fun n k l=>b<=l->∀ b,l<=b->ACalls prog 25 [.int .i64,.bool] [.sv a 4 c d,.dg 9 x,.sv e 0 f g,.sv h
 0 i j] b (fun l m o=>b<=o->∀ b,o<=b->ACalls prog 26 [.sl 0,.bool] [.sv a 4 c d,.sv e 0 f g,.sv h 0 i j] b (fun
 o p q r s=>b<=s->Bel s (D.sl o 0 p q)->∀ b,s<=b->ACalls prog 27 [.sl 0,.bool] [.sv a 4 c d,.sv e 0 f g,.sv
 h 0 i j] b (fun h i j s t=>b<=t->Bel t (D.sl h 0 i j)->Br (bne n l) (∀ a,t<=a->Q false a) (Br (!(k
 == m)) (∀ a,t<=a->Q false a) (Br (!(r==s)) (∀ a,t<=a->Q false a) (∀ b,t<=b->ACalls prog 28 [.bool] [.sv o 0 p
 q,.sv h 0 i j] b (fun h i=>b<=i->Br (!h) (∀ a,i<=a->Q false a) (∀ b,i<=b->ACalls prog 19 [.int .i64,.bool]
 [.sv a 4 c d,.dg 9 x,.sv o 0 p q] b (fun h i j=>b<=j->∀ b,j<=b->ACalls prog 29 [.ag 9,.bool] [.sv a 4 c d,.dg 9 x,.sv
 e 0 f g] b (fun a _ c=>b<=c->Bel c a->Br (!k) (∀ a,c<=a->Q true a) (Br (!r) (∀ a,c<=a->Q true a)
 (Br (!i) (∀ a,c<=a->Q true a) (Br (n==h) (∀ b,c<=b->ACalls prog 20 [.int .i64] [.dg 9 a] b (fun a c=>b<=c->∀
 b,c<=b->ACalls prog 20 [.int .i64] [.dg 9 x] b (fun c d=>b<=d->∀ b,d<=b->Q (decide (a<=c)) b))) (∀ a,c <=
 a->Q false a))))))))))))))))))):ACalls prog 4 [.bool] [PV.sv a0 0 e0 c0] N Q:=
  eE (H:=rc) (by kernel_rfl) (by kernel_rfl) h
theorem sZ (Q:QT [.int .i64]) (N0:Nat) (n3 n4:Int) (y0:D) (N:Nat) (h :
∃ a b,∃ c:Nat,(y0.cell 8)=D.sl a 9 b c/\Br (decide (n4<(b.length:Int))) (∃ a b,∃ c:Nat,(y0.cell 8)=D.sl a 9 b c/\(0<=n4/\n4
 < (b.length:Int))/\∀ a,N<=a->ACalls prog 20 [.int .i64] [.dg 9 (List.getD b n4.toNat default)] a (fun n b=>a<=b->wO Q N0
 (IntKind.i64.wrap (n3+n)) (IntKind.i64.wrap (n4+1)) y0 b)) (∀ a,N<=a->Q n3 a)):wO Q N0 n3 n4 y0 N:=
  hE (H:=pE) (by kernel_rfl) h
theorem uf (Q:QT [.bool]) (N0:Nat) (a0:Option Addr) (e0:List D) (c0:Nat) (a1:Option Addr) (e1:List D) (c1:Nat) (n5:Int) (N:Nat) (h :
Br (decide (n5<(e0.length:Int))) ((0<=n5/\n5<(e0.length:Int))/\∃ n:Int,List.getD e0 n5.toNat default=D.lit (.int .i64 n)/\(0<=n5/\n5<(e1.length
 : Int))/\∃ a:Int,List.getD e1 n5.toNat default=D.lit (.int .i64 a)/\Br (bne n a) (∀ a,N<=a->Q false a) (xJ Q N0 a0 e0 c0 a1
 e1 c1 (IntKind.i64.wrap (n5+1)) N)) (∀ a,N<=a->Q true a)):xJ Q N0 a0 e0 c0 a1 e1 c1 n5 N:=
  hE (H:=sH) (by kernel_rfl) h
theorem vw (Q:QT [.sl 0,.bool]) (N0:Nat) (a1:Option Addr) (e1:List D) (c1:Nat) (a2:Option Addr) (e2:List D) (c2 m10 c10:Nat) (a31:Option Addr) (e31:List D) (c31:Nat) (n32 n33:Int) (r0:List D) (q0:Nat) (N:Nat) (h :
Br (decide (n33<n32)) ((0<=n33/\n33<(e31.length:Int))/\∃ b:Bool,D.cell (List.getD e31 n33.toNat default) 3=D.lit (.bool b)/\Br b (((0:Int)<=(0
 : Int)/\0<(e2.length:Int))/\∃ n:Int,List.getD e2 0 default=D.lit (.int .i64 n)/\((0:Int)<=(1:Int)/\1<=(e2.length:Int)/\(e2.length:Int) <=
 (e2.length:Int))/\(m10=r0.length/\c10=q0)/\zA r0 [D.lit (.int .i64 n)] 8/\∀ (c:Nat),yP Q N0 a1 e1 c1 (if (c2:Int)=1 then a2
 else Option.map (fun x=>Addr.add x 1) a2) (List.drop 1 (List.take ((e2.length:Int)).toNat e2)) (c2 - 1:Nat) (r0++[D.lit (.int .i64 n)]).length c a31 e31
 c31 n32 (IntKind.i64.wrap (n33+1)) (r0++[D.lit (.int .i64 n)]) c N) (((0:Int)<=(0:Int)/\0<(e1.length:Int))/\∃ a:Int,List.getD e1 0 default =
 D.lit (.int .i64 a)/\((0:Int)<=(1:Int)/\1<=(e1.length:Int)/\(e1.length:Int)<=(e1.length:Int))/\(m10=r0.length/\c10=q0)/\zA r0 [D.lit
 (.int .i64 a)] 8/\∀ (b:Nat),yP Q N0 (if (c1:Int)=1 then a1 else Option.map (fun a=>Addr.add a 1) a1) (List.drop 1 (List.take ((e1.length
 : Int)).toNat e1)) (c1 - 1:Nat) a2 e2 c2 (r0++[D.lit (.int .i64 a)]).length b a31 e31 c31 n32 (IntKind.i64.wrap (n33+1)) (r0++[D.lit (.int .i64 a)])
 b N)) ((m10=r0.length/\c10=q0)/\(m10=r0.length/\c10=q0)/\(m10=r0.length/\c10=q0)/\∀ a b,N<=b->Fresh N0 b a [D.ag r0]->∀ c,b <=
 c->Q a r0 q0 true c)):yP Q N0 a1 e1 c1 a2 e2 c2 m10 c10 a31 e31 c31 n32 n33 r0 q0 N:=
  hE (H:=tk) (by kernel_rfl) h
theorem uF (Q:QT [.sl 0,.bool]) (N0:Nat) (a0:Option Addr) (e0:List D) (c0:Nat) (a1:Option Addr) (e1:List D) (c1:Nat) (a2:Option Addr) (e2:List D) (c2 m10 c10:Nat) (n11 n12 n13:Int) (r0:List D) (q0:Nat) (N:Nat) (h :
Br (decide (n13<(e0.length:Int))) ((0<=n13/\n13<(e0.length:Int))/\∃ b:Bool,(if 0=0 then D.cell (List.getD e0 n13.toNat default) 3 else D.sub (List.getD
 e0 n13.toNat default) 3 0)=D.lit (.bool b)/\Br b ((0<=n12/\n12<(e2.length:Int))/\∃ n:Int,List.getD e2 n12.toNat default=D.lit (.int .i64 n)/\(m10
 = r0.length/\c10=q0)/\zA r0 [D.lit (.int .i64 n)] 8/\∀ (c:Nat),yL Q N0 a0 e0 c0 a1 e1 c1 a2 e2 c2 (r0++[D.lit (.int .i64 n)]).length
 c n11 (IntKind.i64.wrap (n12+1)) (IntKind.i64.wrap (n13+1)) (r0++[D.lit (.int .i64 n)]) c N) ((0<=n11/\n11<(e1.length:Int))/\∃ a:Int,List.getD
 e1 n11.toNat default=D.lit (.int .i64 a)/\(m10=r0.length/\c10=q0)/\zA r0 [D.lit (.int .i64 a)] 8/\∀ (b:Nat),yL Q N0 a0 e0
 c0 a1 e1 c1 a2 e2 c2 (r0++[D.lit (.int .i64 a)]).length b (IntKind.i64.wrap (n11+1)) n12 (IntKind.i64.wrap (n13+1)) (r0++[D.lit (.int .i64 a)]) b
 N)) ((m10=r0.length/\c10=q0)/\(m10=r0.length/\c10=q0)/\(m10=r0.length/\c10=q0)/\∀ a b,N<=b->Fresh N0 b a [D.ag r0]->∀ c,b<=c
 -> Q a r0 q0 true c)):yL Q N0 a0 e0 c0 a1 e1 c1 a2 e2 c2 m10 c10 n11 n12 n13 r0 q0 N:=
  hE (H:=tg) (by kernel_rfl) h
end Go.Proofs.YtkdjhkfiolhkiaaGreat
