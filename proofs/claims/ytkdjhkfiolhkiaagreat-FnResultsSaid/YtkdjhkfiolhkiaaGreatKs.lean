/- Printed by gen.py: what the functions come to. -/
import Derived.Test.YtkdjhkfiolhkiaaGreatJh
set_option linter.unusedVariables false
set_option maxRecDepth 100000
namespace Go.Proofs.YtkdjhkfiolhkiaaGreat
open Go Go.Proofs Go.Proofs.Tryz
def zIi:Hint:=⟨[],[],[]⟩
def qg:Hint:=⟨[hc 2 [0,3]],[],[]⟩
def qe:Hint:=⟨[hc 3 [1,2,5]],[],[(5,hs 8 [ec 6 [23]])]⟩
def zGk:Hint:=⟨[],[],[]⟩
def vu:Hint:=⟨[hc 3 [1,3,4]],[],[(5,hs 9 [ec 6 [17]])]⟩
def q8:Hint:=⟨[hc 2 [1,3]],[],[(4,hs 7 [ec 5 [15]])]⟩
def pN:Hint:=⟨[],[],[(1,hs 13 [ec 1 [3],ec 5 [7],ec 10 [12]])]⟩
def zFN:Hint:=⟨[],[],[]⟩
def zDv:Hint:=⟨[],[],[]⟩
def zDe:Hint:=⟨[],[],[]⟩
def zCx:Hint:=⟨[],[],[(2,hs 15 [ec 3 [15],ec 11 [23]]),(4,[en 0,en 1,en 2,en 3,en 4,ec 5 [32],en 6,en 7,en 8,en 9,en 10,en 11,en 12,en 13,ec 14 [41],en 15,en 16,en 17]),(12,hs 9 [ec 6 [57]])]⟩
def zDh:Hint:=⟨[],[],[]⟩
def r9:Hint:=⟨[hc 2 [1,3]],[],[(4,hs 7 [ec 5 [15]]),(6,[en 0,ec 1 [18],en 2,en 3,en 4,en 5,en 6,ec 7 [24],en 8,en 9,en 10])]⟩
def zFb:Hint:=⟨[],[],[]⟩
def zCL:Hint:=⟨[hc 4 [1,2,5]],[],[(6,[en 0,en 1,en 2,en 3,en 4,en 5,en 6,ec 7 [21],ec 8 [20],en 9])]⟩
def zBj:Hint:=⟨[],[],[(1,hs 8 [ec 1 [5],ec 5 [8]])]⟩
def qa:Hint:=⟨[hc 2 [0,1,5]],[],[]⟩
def uy:Hint:=⟨[hc 3 [1,2,3,4]],[],[(5,[en 0,en 1,en 2,en 3,en 4,en 5,en 6,ec 7 [21],en 8,eh 9,en 10,eh 11])]⟩
def zHS:Hint:=⟨[],[],[]⟩
def zFl:Hint:=⟨[],[],[]⟩
def zFk:Hint:=⟨[],[],[]⟩
def zHR:Hint:=⟨[],[],[(1,[en 0,en 2,ec 1 [5],ec 3 [7],en 4,en 5,eh 6])]⟩
def tS:Hint:=⟨[hc 4 [2,3,5]],[],[(6,[en 0,en 1,en 2,en 3,en 4,en 5,en 6,en 7,en 8,en 9,ec 10 [31,36],en 11])]⟩
def zFe:Hint:=⟨[],[],[]⟩
def rX:Hint:=⟨[hc 3 [0,1,5,6] [(5,65,4)]],[],[(5,hs 26 [ec 5 [18]]),(6,[en 0,en 1,en 2,en 3,en 4,en 5,en 6,en 7,en 8,en 9,en 10,en 12,en 13,en 14,en 15,en 16,ec 11 [50],en 17,en 18,eh 19,eh 20])]⟩
def zFO:Hint:=⟨[],[],[(1,hs 5 [ec 1 [3]])]⟩
def yQ (Q:QT [.bool]) (N0:Nat) (s0:ByteArray) (n3:Int) (N:Nat):Prop:=AT prog 116 [.bool] Q N0 .ord (zF prog 116 2) ⟨.str s0::an 2 (.int .i64 n3::an 58 []),[],N,none⟩
def wP (Q:QT [.int .i64]) (N0:Nat) (n1 n5:Int) (y0:D) (N:Nat):Prop:=AT prog 99 [.int .i64] Q N0 .ord (zF prog 99 3) ⟨an 1 (.int .i64 n1::.pb 0 0 0 0::an 2 (.int .i64 n5::an 21 [])),[.vd y0 2],N,none⟩
def yO (Q:QT [.int .i64]) (N0:Nat) (n3 n4:Int) (y0:D) (N:Nat):Prop:=AT prog 100 [.int .i64] Q N0 .ord (zF prog 100 3) ⟨an 1 (.pb 0 0 0 0::an 1 (.int .i64 n3::.int .i64 n4::an 17 [])),[.vd y0 2],N,none⟩
def wH (Q:QT [.bool]) (N0:Nat) (n3:Int) (y0:D) (N:Nat):Prop:=AT prog 101 [.bool] Q N0 .ord (zF prog 101 2) ⟨an 1 (.pb 0 0 0 0::an 1 (.int .i64 n3::an 35 [])),[.vd y0 2],N,none⟩
def wQ (Q:QT [.bool]) (N0:Nat) (n3:Int) (y0:D) (N:Nat):Prop:=AT prog 122 [.bool] Q N0 .ord (zF prog 122 2) ⟨an 1 (.pb 0 0 0 0::an 1 (.int .i64 n3::an 24 [])),[.vd y0 9],N,none⟩
def vE (Q:QT [.bool]) (N0:Nat) (n1 n5:Int) (y0:D) (N:Nat):Prop:=AT prog 166 [.bool] Q N0 .ord (zF prog 166 4) ⟨an 1 (.int .i64 n1::.pb 0 0 0 0::an 2 (.int .i64 n5::an 20 [])),[.vd y0 9],N,none⟩
def xp (Q:QT [.int .i64]) (N0:Nat) (a0:Option Addr) (e0:List D) (c0:Nat) (s1:ByteArray) (n5:Int) (N:Nat):Prop:=AT prog 109 [.int .i64] Q N0 .ord (zF prog 109 2) ⟨.sv a0 4 e0 c0::.str s1::an 3 (.int .i64 n5::an 15 []),[],N,none⟩
def ve (Q:QT [.ag 2]) (N0:Nat) (n4:Int) (y0:D) (n1_0:Int) (a1_1:Option Addr) (e1_1:List D) (c1_1:Nat) (n2_0:Int) (a2_1:Option Addr) (e2_1:List D) (c2_1:Nat) (N:Nat):Prop:=AT prog 110 [.ag 2] Q N0 .ord (zF prog 110 3) ⟨an 1 (.pb 0 0 0 0::.pb 1 0 0 0::.pb 2 0 0 0::.int .i64 n4::an 22 []),[.vd y0 2,.var [.int .i64 n1_0,.sv a1_1 2 e1_1 c1_1],.var [.int .i64 n2_0,.sv a2_1 2 e2_1 c2_1]],N,none⟩
def yK (Q:QT [.bool]) (N0:Nat) (n5:Int) (y0 y1:D) (N:Nat):Prop:=AT prog 107 [.bool] Q N0 .ord (zF prog 107 4) ⟨an 2 (.pb 0 0 0 0::.pb 1 0 0 0::an 1 (.int .i64 n5::an 33 [])),[.vd y0 2,.vd y1 2],N,none⟩
def zu (Q:QT [.sl 4]) (N0:Nat) (a0:Option Addr) (e0:List D) (c0:Nat) (n1:Int) (m5 c5:Nat) (n6:Int) (r0:List D) (q0:Nat) (N:Nat):Prop:=AT prog 42 [.sl 4] Q N0 .ord (zF prog 42 3) ⟨.sv a0 4 e0 c0::.int .i64 n1::an 3 (.sb 0 4 0 m5 c5::.int .i64 n6::an 54 []),[.arr 65 4 r0 q0],N,none⟩
def yp (Q:QT [.ag 2]) (N0:Nat) (n4:Int) (y0:D) (n1_0:Int) (a1_1:Option Addr) (e1_1:List D) (c1_1:Nat) (n2_0:Int) (m2_1 c2_1:Nat) (r3:List D) (q3:Nat) (N:Nat):Prop:=AT prog 110 [.ag 2] Q N0 .ord (zF prog 110 3) ⟨an 1 (.pb 0 0 0 0::.pb 1 0 0 0::.pb 2 0 0 0::.int .i64 n4::an 22 []),[.vd y0 2,.var [.int .i64 n1_0,.sv a1_1 2 e1_1 c1_1],.var [.int .i64 n2_0,.sb 3 2 0 m2_1 c2_1],.arr 27 2 r3 q3],N,none⟩
theorem zIj (N:Nat) (n0 n1 n2:Int) (Q:QT [.bool]) (h :
Br (decide (n0≥n1)) (∀ a,N<=a->Q (decide (n0<=n2)) a) (∀ a,N<=a->Q false a)):ACalls prog 117 [.bool] [PV.int .i64 n0,PV.int .i64 n1,PV.int .i64 n2] N Q:=
 eE (H:=zIi) (by kernel_rfl) (by kernel_rfl) h
theorem zGF (N:Nat) (s0:ByteArray) (Q:QT [.bool]) (h :
yQ Q N s0 0 N):ACalls prog 116 [.bool] [PV.str s0] N Q:=
 eE (H:=qg) (by kernel_rfl) (by kernel_rfl) h
theorem zFG (N:Nat) (x0:D) (n1:Int) (Q:QT [.int .i64]) (h :
Bel N x0->wP Q N (IntKind.i64.wrap (n1 - 1)) 0 x0 N):ACalls prog 99 [.int .i64] [PV.dg 2 x0,PV.int .i64 n1] N Q:=
 eE (H:=qe) (by kernel_rfl) (by kernel_rfl) h
theorem zHX (N:Nat) (n0 n1:Int) (Q:QT [.int .i64]) (h :
Br (decide (n0>n1)) (∀ a,N<=a->Q n0 a) (∀ a,N<=a->Q n1 a)):ACalls prog 168 [.int .i64] [PV.int .i64 n0,PV.int .i64 n1] N Q:=
 eE (H:=zGk) (by kernel_rfl) (by kernel_rfl) h
theorem ru (N:Nat) (x0:D) (Q:QT [.int .i64]) (h :
Bel N x0->yO Q N 0 0 x0 N):ACalls prog 100 [.int .i64] [PV.dg 2 x0] N Q:=
 eE (H:=vu) (by kernel_rfl) (by kernel_rfl) h
theorem zFB (N:Nat) (x0:D) (Q:QT [.bool]) (h :
Bel N x0->wH Q N 0 x0 N):ACalls prog 101 [.bool] [PV.dg 2 x0] N Q:=
 eE (H:=q8) (by kernel_rfl) (by kernel_rfl) h
theorem pI (N:Nat) (x0:D) (Q:QT [.bool]) (h :
Bel N x0->∀ a,N<=a->ACalls prog 99 [.int .i64] [.dg 2 x0,.int .i64 30] a (fun n c=>a<=c->Br (decide (n≥0)) (∀ a,c<=a->ACalls prog
 100 [.int .i64] [.dg 2 x0] a (fun c d=>a<=d->Br (decide (c<=8)) (∀ a,d<=a->ACalls prog 101 [.bool] [.dg 2 x0] a (fun b c=>a<=c
 -> ∀ a,c<=a->Q b a)) (∀ a,d<=a->Q false a))) (∀ a,c<=a->Q false a))):ACalls prog 34 [.bool] [PV.dg 2 x0] N Q:=
  eE (H:=pN) (by kernel_rfl) (by kernel_rfl) h
theorem zFE (N:Nat) (x0:D) (Q:QT [.bool]) (h :
Bel N x0->∃ n:Int,(x0.cell 0)=D.lit (.int .i64 n)/\Br (n==0) (∃ a b,∃ c:Nat,(x0.cell 1)=D.sl a 2 b c/\∀ a,N<=a->Q ((b.length:Int) ==
 0) a) (∀ a,N<=a->Q false a)):ACalls prog 229 [.bool] [PV.dg 2 x0] N Q:=
  eE (H:=zFN) (by kernel_rfl) (by kernel_rfl) h
theorem zDi (N:Nat) (s0:ByteArray) (Q:QT [.int .i64]) (h :
Br (ByteArray.toList s0==ByteArray.toList (bytes [43])) (∀ a,N<=a->Q 2 a) (Br (ByteArray.toList s0==ByteArray.toList (bytes [45])) (∀ a,N<=a ->
 Q 2 a) (Br (ByteArray.toList s0==ByteArray.toList (bytes [42])) (∀ a,N<=a->Q 2 a) (Br (ByteArray.toList s0==ByteArray.toList (bytes [61])) (∀ a,
 N<=a->Q 2 a) (Br (ByteArray.toList s0==ByteArray.toList (bytes [60])) (∀ a,N<=a->Q 2 a) (Br (ByteArray.toList s0==ByteArray.toList (bytes [38]))
 (∀ a,N<=a->Q 2 a) (Br (ByteArray.toList s0==ByteArray.toList (bytes [124])) (∀ a,N<=a->Q 2 a) (Br (ByteArray.toList s0==ByteArray.toList (bytes
 [33])) (∀ a,N<=a->Q 1 a) (∀ a,N<=a->Q 0 a))))))))):ACalls prog 231 [.int .i64] [PV.str s0] N Q:=
  eE (H:=zDv) (by kernel_rfl) (by kernel_rfl) h
theorem zDs (N:Nat) (x0:D) (Q:QT [.bool]) (h :
Bel N x0->∃ n:Int,(x0.cell 0)=D.lit (.int .i64 n)/\Br (n==4) (∃ s,(x0.cell 1)=D.lit (.string s)/\∀ a,N<=a->ACalls prog 231 [.int .i64] [.str
 s] a (fun b c=>a<=c->Br (decide (b>0)) (∃ a,(x0.cell 2)=D.lit (.string a)/\∀ b,c<=b->Q (ByteArray.toList a==ByteArray.toList
 (bytes [])) b) (∀ a,c<=a->Q false a))) (Br (n==1) (∃ a,(x0.cell 1)=D.lit (.string a)/\∀ c,N<=c->ACalls prog 116 [.bool] [.str a]
 c (fun b a=>c<=a->Br b (∃ b,(x0.cell 2)=D.lit (.string b)/\∀ c,a<=c->Q (ByteArray.toList b==ByteArray.toList (bytes [])) c) (∀
 b,a<=b->Q false b))) (Br (n==6) (∃ a,(x0.cell 1)=D.lit (.string a)/\∀ b,N<=b->ACalls prog 116 [.bool] [.str a] b (fun a c=>
 b<=c->Br a (∃ a,(x0.cell 2)=D.lit (.string a)/\∀ b,c<=b->Q (ByteArray.toList a==ByteArray.toList (bytes [])) b) (∀ a,c
 <= a->Q false a))) (Br (n==8) (∃ a,(x0.cell 1)=D.lit (.string a)/\∀ b,N<=b->ACalls prog 116 [.bool] [.str a] b (fun a c=>b
 <= c->Br a (∃ a,(x0.cell 2)=D.lit (.string a)/\∀ b,c<=b->Q (ByteArray.toList a==ByteArray.toList (bytes [])) b) (∀ a,c<=a
 -> Q false a))) (Br (n==9) (∃ a,(x0.cell 1)=D.lit (.string a)/\∀ b,N<=b->ACalls prog 116 [.bool] [.str a] b (fun a c=>b<=c
 -> Br a (∃ a,(x0.cell 2)=D.lit (.string a)/\∀ b,c<=b->ACalls prog 116 [.bool] [.str a] b (fun a c=>b<=c->Br a (∃ a,
 (x0.cell 1)=D.lit (.string a)/\∃ b,(x0.cell 2)=D.lit (.string b)/\∀ d,c<=d->Q (!(ByteArray.toList a==ByteArray.toList b)) d)
 (∀ a,c<=a->Q false a))) (∀ a,c<=a->Q false a))) (∃ a,(x0.cell 1)=D.lit (.string a)/\Br (ByteArray.toList a==ByteArray.toList
 (bytes [])) (∃ a,(x0.cell 2)=D.lit (.string a)/\∀ b,N<=b->Q (ByteArray.toList a==ByteArray.toList (bytes [])) b) (∀ a,N<=a->Q
 false a))))))):ACalls prog 230 [.bool] [PV.dg 9 x0] N Q:=
  eE (H:=zDe) (by kernel_rfl) (by kernel_rfl) h
theorem zDQ (N:Nat) (x0:D) (Q:QT [.bool]) (h :
Bel N x0->∃ n:Int,(x0.cell 0)=D.lit (.int .i64 n)/\Br (n==6) (∀ a,N<=a->ACalls prog 34 [.bool] [.dg 2 (D.sub x0 4 2)] a (fun b c=>a<=c
 -> Br (!(true==b)) (∀ a,c<=a->Q false a) (∃ a:Int,(x0.cell 0)=D.lit (.int .i64 a)/\∀ b,c<=b->ACalls prog 34 [.bool] [.dg 2 (D.sub
 x0 6 2)] b (fun c d=>b<=d->Br (!((a==9)==c)) (∀ a,d<=a->Q false a) (∃ a:Int,(x0.cell 0)=D.lit (.int .i64 a)/\Br (bne a
 9) (∀ a,d<=a->ACalls prog 229 [.bool] [.dg 2 (D.sub x0 6 2)] a (fun b c=>a<=c->Br (!b) (∀ a,c<=a->Q false a) (∃ a:Int,(x0.cell
 0)=D.lit (.int .i64 a)/\Br (a==2) (∃ a:Int,(x0.cell 3)=D.lit (.int .i64 a)/\∀ b,c<=b->ACalls prog 117 [.bool] [.int .i64 a,.int
 .i64 0,.int .i64 10006] b (fun a c=>b<=c->Br a (∀ a,c<=a->ACalls prog 230 [.bool] [.dg 9 x0] a (fun b c=>a<=c ->
 ∀ a,c<=a->Q b a)) (∀ a,c<=a->Q false a))) (Br (a==3) (∃ a:Int,(x0.cell 3)=D.lit (.int .i64 a)/\∀ b,c<=b ->
 ACalls prog 117 [.bool] [.int .i64 a,.int .i64 0,.int .i64 1] b (fun a c=>b<=c->Br a (∀ a,c<=a->ACalls prog 230 [.bool] [.dg
 9 x0] a (fun b c=>a<=c->∀ a,c<=a->Q b a)) (∀ a,c<=a->Q false a))) (∃ a:Int,(x0.cell 3)=D.lit (.int .i64
 a)/\∀ b,c<=b->ACalls prog 117 [.bool] [.int .i64 a,.int .i64 0,.int .i64 0] b (fun a c=>b<=c->Br a (∀ a,c<=a->ACalls
 prog 230 [.bool] [.dg 9 x0] a (fun b c=>a<=c->∀ a,c<=a->Q b a)) (∀ a,c<=a->Q false a))))))) (∃ a:Int,(x0.cell
 0)=D.lit (.int .i64 a)/\Br (a==2) (∃ a:Int,(x0.cell 3)=D.lit (.int .i64 a)/\∀ b,d<=b->ACalls prog 117 [.bool] [.int .i64 a,.int
 .i64 0,.int .i64 10006] b (fun a c=>b<=c->Br a (∀ a,c<=a->ACalls prog 230 [.bool] [.dg 9 x0] a (fun b c=>a<=c
 -> ∀ a,c<=a->Q b a)) (∀ a,c<=a->Q false a))) (Br (a==3) (∃ a:Int,(x0.cell 3)=D.lit (.int .i64 a)/\∀ b,d<=b
 -> ACalls prog 117 [.bool] [.int .i64 a,.int .i64 0,.int .i64 1] b (fun a c=>b<=c->Br a (∀ a,c<=a->ACalls prog 230 [.bool] [.dg
 9 x0] a (fun b c=>a<=c->∀ a,c<=a->Q b a)) (∀ a,c<=a->Q false a))) (∃ a:Int,(x0.cell 3)=D.lit (.int .i64
 a)/\∀ b,d<=b->ACalls prog 117 [.bool] [.int .i64 a,.int .i64 0,.int .i64 0] b (fun a c=>b<=c->Br a (∀ a,c<=a
 -> ACalls prog 230 [.bool] [.dg 9 x0] a (fun b c=>a<=c->∀ a,c<=a->Q b a)) (∀ a,c<=a->Q false a)))))))))) (∃ a
 : Int,(x0.cell 0)=D.lit (.int .i64 a)/\∀ b,N<=b->ACalls prog 34 [.bool] [.dg 2 (D.sub x0 4 2)] b (fun c d=>b<=d->Br (!((a ==
 9)==c)) (∀ a,d<=a->Q false a) (Br (!(a==9)) (∀ a,d<=a->ACalls prog 229 [.bool] [.dg 2 (D.sub x0 4 2)] a (fun b c=>
 a<=c->Br (!b) (∀ a,c<=a->Q false a) (∃ a:Int,(x0.cell 0)=D.lit (.int .i64 a)/\∀ b,c<=b->ACalls prog 34 [.bool]
 [.dg 2 (D.sub x0 6 2)] b (fun c d=>b<=d->Br (!((a==9)==c)) (∀ a,d<=a->Q false a) (∃ a:Int,(x0.cell 0)=D.lit (.int
 .i64 a)/\Br (bne a 9) (∀ a,d<=a->ACalls prog 229 [.bool] [.dg 2 (D.sub x0 6 2)] a (fun b c=>a<=c->Br (!b) (∀ a,c
 <= a->Q false a) (∃ a:Int,(x0.cell 0)=D.lit (.int .i64 a)/\Br (a==2) (∃ a:Int,(x0.cell 3)=D.lit (.int .i64 a)/\∀ b,c <=
 b->ACalls prog 117 [.bool] [.int .i64 a,.int .i64 0,.int .i64 10006] b (fun a c=>b<=c->Br a (∀ a,c<=a->ACalls prog 230
 [.bool] [.dg 9 x0] a (fun b c=>a<=c->∀ a,c<=a->Q b a)) (∀ a,c<=a->Q false a))) (Br (a==3) (∃ a:Int,
 (x0.cell 3)=D.lit (.int .i64 a)/\∀ b,c<=b->ACalls prog 117 [.bool] [.int .i64 a,.int .i64 0,.int .i64 1] b (fun a c=>b<=c
 -> Br a (∀ a,c<=a->ACalls prog 230 [.bool] [.dg 9 x0] a (fun b c=>a<=c->∀ a,c<=a->Q b a)) (∀ a,c<=a
 -> Q false a))) (∃ a:Int,(x0.cell 3)=D.lit (.int .i64 a)/\∀ b,c<=b->ACalls prog 117 [.bool] [.int .i64 a,.int .i64 0,.int .i64 0]
 b (fun a c=>b<=c->Br a (∀ a,c<=a->ACalls prog 230 [.bool] [.dg 9 x0] a (fun b c=>a<=c->∀ a,c<=a ->
 Q b a)) (∀ a,c<=a->Q false a))))))) (∃ a:Int,(x0.cell 0)=D.lit (.int .i64 a)/\Br (a==2) (∃ a:Int,(x0.cell 3)=D.lit
 (.int .i64 a)/\∀ b,d<=b->ACalls prog 117 [.bool] [.int .i64 a,.int .i64 0,.int .i64 10006] b (fun a c=>b<=c->Br a (∀ a,
 c<=a->ACalls prog 230 [.bool] [.dg 9 x0] a (fun b c=>a<=c->∀ a,c<=a->Q b a)) (∀ a,c<=a->Q false a)))
 (Br (a==3) (∃ a:Int,(x0.cell 3)=D.lit (.int .i64 a)/\∀ b,d<=b->ACalls prog 117 [.bool] [.int .i64 a,.int .i64 0,.int .i64 1] b
 (fun a c=>b<=c->Br a (∀ a,c<=a->ACalls prog 230 [.bool] [.dg 9 x0] a (fun b c=>a<=c->∀ a,c<=a->Q b
 a)) (∀ a,c<=a->Q false a))) (∃ a:Int,(x0.cell 3)=D.lit (.int .i64 a)/\∀ b,d<=b->ACalls prog 117 [.bool] [.int .i64 a,
 .int .i64 0,.int .i64 0] b (fun a c=>b<=c->Br a (∀ a,c<=a->ACalls prog 230 [.bool] [.dg 9 x0] a (fun b c=>a<=c
 -> ∀ a,c<=a->Q b a)) (∀ a,c<=a->Q false a)))))))))) (∃ a:Int,(x0.cell 0)=D.lit (.int .i64 a)/\∀ b,d<=b->ACalls
 prog 34 [.bool] [.dg 2 (D.sub x0 6 2)] b (fun c d=>b<=d->Br (!((a==9)==c)) (∀ a,d<=a->Q false a) (∃ a:Int,(x0.cell
 0)=D.lit (.int .i64 a)/\Br (bne a 9) (∀ a,d<=a->ACalls prog 229 [.bool] [.dg 2 (D.sub x0 6 2)] a (fun b c=>a<=c->Br (!b)
 (∀ a,c<=a->Q false a) (∃ a:Int,(x0.cell 0)=D.lit (.int .i64 a)/\Br (a==2) (∃ a:Int,(x0.cell 3)=D.lit (.int .i64 a)/\∀
 b,c<=b->ACalls prog 117 [.bool] [.int .i64 a,.int .i64 0,.int .i64 10006] b (fun a c=>b<=c->Br a (∀ a,c<=a
 -> ACalls prog 230 [.bool] [.dg 9 x0] a (fun b c=>a<=c->∀ a,c<=a->Q b a)) (∀ a,c<=a->Q false a)))
 (Br (a==3) (∃ a:Int,(x0.cell 3)=D.lit (.int .i64 a)/\∀ b,c<=b->ACalls prog 117 [.bool] [.int .i64 a,.int .i64 0,.int .i64 1]
 b (fun a c=>b<=c->Br a (∀ a,c<=a->ACalls prog 230 [.bool] [.dg 9 x0] a (fun b c=>a<=c->∀ a,c
 <= a->Q b a)) (∀ a,c<=a->Q false a))) (∃ a:Int,(x0.cell 3)=D.lit (.int .i64 a)/\∀ b,c<=b->ACalls prog 117
 [.bool] [.int .i64 a,.int .i64 0,.int .i64 0] b (fun a c=>b<=c->Br a (∀ a,c<=a->ACalls prog 230 [.bool] [.dg 9 x0]
 a (fun b c=>a<=c->∀ a,c<=a->Q b a)) (∀ a,c<=a->Q false a))))))) (∃ a:Int,(x0.cell 0)=D.lit
 (.int .i64 a)/\Br (a==2) (∃ a:Int,(x0.cell 3)=D.lit (.int .i64 a)/\∀ b,d<=b->ACalls prog 117 [.bool] [.int .i64 a,.int .i64
 0,.int .i64 10006] b (fun a c=>b<=c->Br a (∀ a,c<=a->ACalls prog 230 [.bool] [.dg 9 x0] a (fun b c=>a
 <= c->∀ a,c<=a->Q b a)) (∀ a,c<=a->Q false a))) (Br (a==3) (∃ a:Int,(x0.cell 3)=D.lit (.int .i64 a)
 /\ ∀ b,d<=b->ACalls prog 117 [.bool] [.int .i64 a,.int .i64 0,.int .i64 1] b (fun a c=>b<=c->Br a (∀ a,c<=a
 -> ACalls prog 230 [.bool] [.dg 9 x0] a (fun b c=>a<=c->∀ a,c<=a->Q b a)) (∀ a,c<=a->Q false a)))
 (∃ a:Int,(x0.cell 3)=D.lit (.int .i64 a)/\∀ b,d<=b->ACalls prog 117 [.bool] [.int .i64 a,.int .i64 0,.int .i64 0] b (fun a
 c=>b<=c->Br a (∀ a,c<=a->ACalls prog 230 [.bool] [.dg 9 x0] a (fun b c=>a<=c->∀ a,c<=a->Q
 b a)) (∀ a,c<=a->Q false a)))))))))))):ACalls prog 181 [.bool] [PV.dg 9 x0] N Q:=
  eE (H:=zCx) (by kernel_rfl) (by kernel_rfl) h
theorem zEC (N:Nat) (x0:D) (Q:QT [.int .i64]) (h :
Bel N x0->∃ n:Int,(x0.cell 0)=D.lit (.int .i64 n)/\Br (n==1) (∀ a,N<=a->Q 0 a) (Br (n==2) (∀ a,N<=a->Q 0 a) (Br (n==3) (∀ a,N <=
 a->Q 0 a) (Br (n==4) (∃ s,(x0.cell 1)=D.lit (.string s)/\∀ a,N<=a->ACalls prog 231 [.int .i64] [.str s] a (fun b c=>a<=c->∀ a,
 c<=a->Q b a)) (Br (n==6) (∀ a,N<=a->Q 1 a) (Br (n==9) (∀ a,N<=a->Q 1 a) (Br (n==10) (∀ a,N<=a->Q 1 a) (Br (n==11) (∀
 a,N<=a->Q 1 a) (Br (n==12) (∀ a,N<=a->Q 1 a) (Br (n==13) (∀ a,N<=a->Q 1 a) (Br (n==7) (∀ a,N<=a->Q 2 a) (Br
 (n==8) (∀ a,N<=a->Q 2 a) (Br (n==5) (∀ a,N<=a->Q 3 a) (∀ a,N<=a->Q (-1) a)))))))))))))):ACalls prog 182 [.int .i64] [PV.dg 9 x0] N Q:=
  eE (H:=zDh) (by kernel_rfl) (by kernel_rfl) h
theorem zGG (N:Nat) (x0:D) (Q:QT [.bool]) (h :
Bel N x0->wQ Q N 0 x0 N):ACalls prog 122 [.bool] [PV.dg 9 x0] N Q:=
 eE (H:=r9) (by kernel_rfl) (by kernel_rfl) h
theorem qv (N:Nat) (x0:D) (n1:Int) (Q:QT [.int .i64]) (h :
Bel N x0->∃ n:Int,(x0.cell 0)=D.lit (.int .i64 n)/\Br (n==10) (∀ a,N<=a->Q (IntKind.i64.wrap (n1+1)) a) (Br (n==11) (∀ a,N<=a->Q (IntKind.i64.wrap
 (n1 - 1)) a) (∀ a,N<=a->Q n1 a))):ACalls prog 215 [.int .i64] [PV.dg 9 x0,PV.int .i64 n1] N Q:=
  eE (H:=zFb) (by kernel_rfl) (by kernel_rfl) h
theorem zIF (N:Nat) (x0:D) (n1:Int) (Q:QT [.bool]) (h :
Bel N x0->∀ a,N<=a->ACalls prog 117 [.bool] [.int .i64 n1,.int .i64 0,.int .i64 2] a (fun b c=>a<=c->Br (!b) (∀ a,c<=a->Q false a)
 (vE Q N n1 0 x0 c))):ACalls prog 166 [.bool] [PV.dg 9 x0,PV.int .i64 n1] N Q:=
  eE (H:=zCL) (by kernel_rfl) (by kernel_rfl) h
theorem zCE (N:Nat) (x0:D) (n1:Int) (Q:QT [.bool]) (h :
Bel N x0->∀ a,N<=a->ACalls prog 122 [.bool] [.dg 9 x0] a (fun b c=>a<=c->Br b (∀ a,c<=a->ACalls prog 166 [.bool] [.dg 9 x0,.int .i64
 n1] a (fun b c=>a<=c->∀ a,c<=a->Q b a)) (∀ a,c<=a->Q false a))):ACalls prog 96 [.bool] [PV.dg 9 x0,PV.int .i64 n1] N Q:=
  eE (H:=zBj) (by kernel_rfl) (by kernel_rfl) h
theorem zGD (N:Nat) (a0:Option Addr) (e0:List D) (c0:Nat) (s1:ByteArray) (Q:QT [.int .i64]) (h :
Bel N (D.sl a0 4 e0 c0)->xp Q N a0 e0 c0 s1 (IntKind.i64.wrap ((e0.length:Int) - 1)) N):ACalls prog 109 [.int .i64] [PV.sv a0 4 e0 c0,PV.str s1] N Q:=
 eE (H:=qa) (by kernel_rfl) (by kernel_rfl) h
theorem zFr (N:Nat) (x0:D) (Q:QT [.ag 2]) (h :
Bel N x0->∃ n:Int,(x0.cell 0)=D.lit (.int .i64 n)/\ve Q N 0 x0 0 Option.none [] 0 n Option.none [] 0 N):ACalls prog 110 [.ag 2] [PV.dg 2 x0] N Q:=
 eE (H:=uy) (by kernel_rfl) (by kernel_rfl) h
theorem zHT (N:Nat)  (Q:QT [.ag 2]) (h :
∀ a,N<=a->Q (D.ag [D.lit (.int .i64 1),D.sl Option.none 2 [] 0]) a):ACalls prog 130 [.ag 2] [] N Q:=
  eE (H:=zHS) (by kernel_rfl) (by kernel_rfl) h
theorem zE6 (N:Nat)  (Q:QT [.ag 2]) (h :
∀ a,N<=a->Q (D.ag [D.lit (.int .i64 2),D.sl Option.none 2 [] 0]) a):ACalls prog 151 [.ag 2] [] N Q:=
  eE (H:=zFl) (by kernel_rfl) (by kernel_rfl) h
theorem zFg (N:Nat) (a0:Option Addr) (e0:List D) (c0:Nat) (s1:ByteArray) (x2:D) (n3:Int) (Q:QT [.sl 4]) (h :
Bel N (D.sl a0 4 e0 c0)->Bel N x2->(0=0/\0=0)/\zB [] e0 56/\∀ (c:Nat),(([]++e0).length=([]++e0).length/\c=c)/\zB ([]++e0) [D.ag
 [D.lit (.string s1),(x2.cell 0),(x2.cell 1),D.lit (.int .i64 n3)]] 56/\∀ (b:Nat),(([]++e0++[D.ag [D.lit (.string s1),(x2.cell 0),(x2.cell 1),D.lit
 (.int .i64 n3)]]).length=([]++e0++[D.ag [D.lit (.string s1),(x2.cell 0),(x2.cell 1),D.lit (.int .i64 n3)]]).length/\b=b)/\(([]++e0++[D.ag [D.lit
 (.string s1),(x2.cell 0),(x2.cell 1),D.lit (.int .i64 n3)]]).length=([]++e0++[D.ag [D.lit (.string s1),(x2.cell 0),(x2.cell 1),D.lit (.int .i64 n3)]]).length
 /\ b=b)/\∀ a c,N<=c->Fresh N c a [D.ag ([]++e0++[D.ag [D.lit (.string s1),(x2.cell 0),(x2.cell 1),D.lit (.int .i64 n3)]])]->∀ d,c<=d
 -> Q a ([]++e0++[D.ag [D.lit (.string s1),(x2.cell 0),(x2.cell 1),D.lit (.int .i64 n3)]]) b d):ACalls prog 162 [.sl 4] [PV.sv a0 4 e0 c0,PV.str s1,PV.dg 2 x2,PV.int .i64 n3] N Q:=
  eE (H:=zFk) (by kernel_rfl) (by kernel_rfl) h
theorem zAq (N:Nat) (x0 x1:D) (Q:QT [.ag 2]) (h :
Bel N x0->Bel N x1->∀ b,N<=b->ACalls prog 110 [.ag 2] [.dg 2 x0] b (fun x c=>b<=c->Bel c x->∀ b,c<=b->ACalls prog 110 [.ag 2] [.dg
 2 x1] b (fun c d=>b<=d->Bel d c->(2=([x,c]).length/\2=2)/\(2=([x,c]).length/\2=2)/\(2=([x,c]).length/\2=2)/\∀ a b,
 d<=b->Fresh N b a [D.ag [x,c]]->∀ d,b<=d->Q (D.ag [D.lit (.int .i64 3),D.sl a 2 [x,c] 2]) d))):ACalls prog 153 [.ag 2] [PV.dg 2 x0,PV.dg 2 x1] N Q:=
  eE (H:=zHR) (by kernel_rfl) (by kernel_rfl) h
theorem zBC (N:Nat) (x0 x1:D) (Q:QT [.bool]) (h :
Bel N x0->Bel N x1->∃ n:Int,(x0.cell 0)=D.lit (.int .i64 n)/\∃ b:Int,(x1.cell 0)=D.lit (.int .i64 b)/\Br (bne n b) (∀ a,N<=a->Q false
 a) (∃ a b,∃ c:Nat,(x0.cell 1)=D.sl a 2 b c/\∃ a c,∃ d:Nat,(x1.cell 1)=D.sl a 2 c d/\Br (bne (b.length:Int) (c.length:Int))
 (∀ a,N<=a->Q false a) (yK Q N 0 x0 x1 N))):ACalls prog 107 [.bool] [PV.dg 2 x0,PV.dg 2 x1] N Q:=
  eE (H:=tS) (by kernel_rfl) (by kernel_rfl) h
theorem zF0 (N:Nat) (x0:D) (Q:QT [.bool]) (h :
Bel N x0->∃ n:Int,(x0.cell 0)=D.lit (.int .i64 n)/\Br (n==1) (∃ a b,∃ c:Nat,(x0.cell 1)=D.sl a 2 b c/\∀ a,N<=a->Q ((b.length:Int) ==
 0) a) (∃ a:Int,(x0.cell 0)=D.lit (.int .i64 a)/\Br (a==2) (∃ a b,∃ c:Nat,(x0.cell 1)=D.sl a 2 b c/\∀ a,N<=a->Q ((b.length
 : Int)==0) a) (∀ a,N<=a->Q false a))):ACalls prog 108 [.bool] [PV.dg 2 x0] N Q:=
  eE (H:=zFe) (by kernel_rfl) (by kernel_rfl) h
theorem zDf (N:Nat) (a0:Option Addr) (e0:List D) (c0:Nat) (n1:Int) (Q:QT [.sl 4]) (h :
Bel N (D.sl a0 4 e0 c0)->zu Q N a0 e0 c0 n1 0 0 0 [] 0 N):ACalls prog 42 [.sl 4] [PV.sv a0 4 e0 c0,PV.int .i64 n1] N Q:=
 eE (H:=rX) (by kernel_rfl) (by kernel_rfl) h
theorem pX (N:Nat) (x0:D) (Q:QT [.ag 2]) (h :
Bel N x0->∀ b,N<=b->ACalls prog 110 [.ag 2] [.dg 2 x0] b (fun x c=>b<=c->Bel c x->(1=([x]).length/\1=1)/\(1=([x]).length/\1=1)
 /\ (1=([x]).length/\1=1)/\∀ a b,c<=b->Fresh N b a [D.ag [x]]->∀ c,b<=c->Q (D.ag [D.lit (.int .i64 4),D.sl a 2 [x] 1]) c)):ACalls prog 152 [.ag 2] [PV.dg 2 x0] N Q:=
  eE (H:=zFO) (by kernel_rfl) (by kernel_rfl) h
theorem th (Q:QT [.bool]) (N0:Nat) (s0:ByteArray) (n3:Int) (N:Nat) (h :
Br (decide (n3<(s0.size:Int))) ((0<=n3/\n3<(s0.size:Int))/\Br (decide ((UInt8.toNat (Array.getD (ByteArray.data s0) n3.toNat (OfNat.ofNat 0)):Int) ≥
 97)) ((0<=n3/\n3<(s0.size:Int))/\Br (!(decide ((UInt8.toNat (Array.getD (ByteArray.data s0) n3.toNat (OfNat.ofNat 0)):Int)<=122))) (Br (n3==0) (∀ a,
 N<=a->Q false a) ((0<=n3/\n3<(s0.size:Int))/\Br (decide ((UInt8.toNat (Array.getD (ByteArray.data s0) n3.toNat (OfNat.ofNat 0)):Int)<48)) (∀ a,
 N<=a->Q false a) ((0<=n3/\n3<(s0.size:Int))/\Br (decide ((UInt8.toNat (Array.getD (ByteArray.data s0) n3.toNat (OfNat.ofNat 0)):Int)>57)) (∀ a,
 N<=a->Q false a) (yQ Q N0 s0 (IntKind.i64.wrap (n3+1)) N)))) (yQ Q N0 s0 (IntKind.i64.wrap (n3+1)) N)) (Br (n3==0) (∀ a,
 N<=a->Q false a) ((0<=n3/\n3<(s0.size:Int))/\Br (decide ((UInt8.toNat (Array.getD (ByteArray.data s0) n3.toNat (OfNat.ofNat 0)):Int)<48)) (∀ a,
 N<=a->Q false a) ((0<=n3/\n3<(s0.size:Int))/\Br (decide ((UInt8.toNat (Array.getD (ByteArray.data s0) n3.toNat (OfNat.ofNat 0)):Int)>57)) (∀ a,
 N<=a->Q false a) (yQ Q N0 s0 (IntKind.i64.wrap (n3+1)) N))))) (∀ a,N<=a->ACalls prog 117 [.bool] [.int .i64 (s0.size:Int),.int .i64
 1,.int .i64 4] a (fun b c=>a<=c->Br b (Br (!(ByteArray.toList s0==ByteArray.toList (bytes [105,102]))) (Br (!(ByteArray.toList s0==ByteArray.toList
 (bytes [108,101,116]))) (Br (!(ByteArray.toList s0==ByteArray.toList (bytes [114,101,99]))) (Br (!(ByteArray.toList s0==ByteArray.toList (bytes [114,117,
 110]))) (∀ a,c<=a->Q (!(ByteArray.toList s0==ByteArray.toList (bytes [108,105,102,116]))) a) (∀ a,c<=a->Q false a)) (∀ a,c <=
 a->Q false a)) (∀ a,c<=a->Q false a)) (∀ a,c<=a->Q false a)) (∀ a,c<=a->Q false a)))):yQ Q N0 s0 n3 N:=
  hE (H:=qg) (by kernel_rfl) h
theorem sR (Q:QT [.int .i64]) (N0:Nat) (n1 n5:Int) (y0:D) (N:Nat) (h :
∃ a b,∃ c:Nat,(y0.cell 1)=D.sl a 2 b c/\Br (decide (n5<(b.length:Int))) (Br (decide (n1≥0)) (∃ a b,∃ c:Nat,(y0.cell 1)=D.sl a 2 b
 c/\(0<=n5/\n5<(b.length:Int))/\∀ a,N<=a->ACalls prog 99 [.int .i64] [.dg 2 (List.getD b n5.toNat default),.int .i64 n1] a (fun n b=>
 a<=b->wP Q N0 n (IntKind.i64.wrap (n5+1)) y0 b)) (∀ a,N<=a->Q n1 a)) (∀ a,N<=a->Q n1 a)):wP Q N0 n1 n5 y0 N:=
  hE (H:=qe) (by kernel_rfl) h
theorem w5 (Q:QT [.int .i64]) (N0:Nat) (n3 n4:Int) (y0:D) (N:Nat) (h :
∃ a b,∃ c:Nat,(y0.cell 1)=D.sl a 2 b c/\Br (decide (n4<(b.length:Int))) (∃ a b,∃ c:Nat,(y0.cell 1)=D.sl a 2 b c/\(0<=n4/\n4
 < (b.length:Int))/\∀ a,N<=a->ACalls prog 100 [.int .i64] [.dg 2 (List.getD b n4.toNat default)] a (fun n b=>a<=b->∀ a,b<=a ->
 ACalls prog 168 [.int .i64] [.int .i64 n3,.int .i64 n] a (fun b c=>a<=c->yO Q N0 b (IntKind.i64.wrap (n4+1)) y0 c))) (∀ a,
 N<=a->Q (IntKind.i64.wrap (n3+1)) a)):yO Q N0 n3 n4 y0 N:=
  hE (H:=vu) (by kernel_rfl) h
theorem t3 (Q:QT [.bool]) (N0:Nat) (n3:Int) (y0:D) (N:Nat) (h :
∃ a d,∃ c:Nat,(y0.cell 1)=D.sl a 2 d c/\Br (decide (n3<(d.length:Int))) (∃ a c,∃ d:Nat,(y0.cell 1)=D.sl a 2 c d/\(0<=n3/\n3
 < (c.length:Int))/\∀ a,N<=a->ACalls prog 101 [.bool] [.dg 2 (List.getD c n3.toNat default)] a (fun b c=>a<=c->Br (!b) (∀ a,c<=a
 -> Q false a) (wH Q N0 (IntKind.i64.wrap (n3+1)) y0 c))) (∃ n:Int,(y0.cell 0)=D.lit (.int .i64 n)/\Br (n==1) (∃ a b,∃ c:Nat,
 (y0.cell 1)=D.sl a 2 b c/\∀ a,N<=a->Q ((b.length:Int)==0) a) (Br (n==2) (∃ a b,∃ c:Nat,(y0.cell 1)=D.sl a 2 b c /\
 ∀ a,N<=a->Q ((b.length:Int)==0) a) (Br (n==3) (∃ a b,∃ c:Nat,(y0.cell 1)=D.sl a 2 b c/\∀ a,N<=a->Q ((b.length :
 Int)==2) a) (Br (n==4) (∃ a b,∃ c:Nat,(y0.cell 1)=D.sl a 2 b c/\∀ a,N<=a->Q ((b.length:Int)==1) a) (∀ a,N<=a->Q
 false a)))))):wH Q N0 n3 y0 N:=
  hE (H:=q8) (by kernel_rfl) h
theorem tg (Q:QT [.bool]) (N0:Nat) (n3:Int) (y0:D) (N:Nat) (h :
∃ a d,∃ c:Nat,(y0.cell 8)=D.sl a 9 d c/\Br (decide (n3<(d.length:Int))) (∃ a c,∃ d:Nat,(y0.cell 8)=D.sl a 9 c d/\(0<=n3/\n3
 < (c.length:Int))/\∀ a,N<=a->ACalls prog 122 [.bool] [.dg 9 (List.getD c n3.toNat default)] a (fun b c=>a<=c->Br (!b) (∀ a,c<=a
 -> Q false a) (wQ Q N0 (IntKind.i64.wrap (n3+1)) y0 c))) (∀ a,N<=a->ACalls prog 181 [.bool] [.dg 9 y0] a (fun b c=>a<=c->Br
 b (∃ a b,∃ d:Nat,(y0.cell 8)=D.sl a 9 b d/\∀ a,c<=a->ACalls prog 182 [.int .i64] [.dg 9 y0] a (fun n c=>a<=c->∀ a,
 c<=a->Q ((b.length:Int)==n) a)) (∀ a,c<=a->Q false a)))):wQ Q N0 n3 y0 N:=
  hE (H:=r9) (by kernel_rfl) h
theorem qc (Q:QT [.bool]) (N0:Nat) (n1 n5:Int) (y0:D) (N:Nat) (h :
∃ a d,∃ c:Nat,(y0.cell 8)=D.sl a 9 d c/\Br (decide (n5<(d.length:Int))) (∃ a c,∃ d:Nat,(y0.cell 8)=D.sl a 9 c d/\(0<=n5/\n5
 < (c.length:Int))/\∀ a,N<=a->ACalls prog 215 [.int .i64] [.dg 9 y0,.int .i64 n1] a (fun n d=>a<=d->∀ a,d<=a->ACalls prog 166 [.bool]
 [.dg 9 (List.getD c n5.toNat default),.int .i64 n] a (fun b c=>a<=c->Br (!b) (∀ a,c<=a->Q false a) (vE Q N0 n1 (IntKind.i64.wrap
 (n5+1)) y0 c)))) (∀ a,N<=a->Q true a)):vE Q N0 n1 n5 y0 N:=
  hE (H:=zCL) (by kernel_rfl) h
theorem sH (Q:QT [.int .i64]) (N0:Nat) (a0:Option Addr) (e0:List D) (c0:Nat) (s1:ByteArray) (n5:Int) (N:Nat) (h :
Br (decide (n5≥0)) ((0<=n5/\n5<(e0.length:Int))/\∃ s,(if 0=0 then D.cell (List.getD e0 n5.toNat default) 0 else D.sub (List.getD e0 n5.toNat default)
 0 0)=D.lit (.string s)/\Br (ByteArray.toList s==ByteArray.toList s1) (∀ a,N<=a->Q n5 a) (xp Q N0 a0 e0 c0 s1 (IntKind.i64.wrap (n5 - 1))
 N)) (∀ a,N<=a->Q (-1) a)):xp Q N0 a0 e0 c0 s1 n5 N:=
  hE (H:=qa) (by kernel_rfl) h
theorem sA (Q:QT [.ag 2]) (N0:Nat) (n4:Int) (y0:D) (n1_0:Int) (a1_1:Option Addr) (e1_1:List D) (c1_1:Nat) (n2_0:Int) (a2_1:Option Addr) (e2_1:List D) (c2_1:Nat) (N:Nat) (h :
∃ a b,∃ c:Nat,(y0.cell 1)=D.sl a 2 b c/\Br (decide (n4<(b.length:Int))) (∃ a b,∃ c:Nat,(y0.cell 1)=D.sl a 2 b c/\(0<=n4/\n4
 < (b.length:Int))/\∀ a,N<=a->ACalls prog 110 [.ag 2] [.dg 2 (List.getD b n4.toNat default)] a (fun x b=>a<=b->Bel b x->zOR a2_1 e2_1
 c2_1 [x]/\zB e2_1 [x] 32/\∀ (a:Nat),yp Q N0 (IntKind.i64.wrap (n4+1)) y0 n1_0 a1_1 e1_1 c1_1 n2_0 (e2_1++[x]).length a (e2_1 ++
 [x]) a b)) (∀ a,N<=a->Q (D.ag [D.lit (.int .i64 n2_0),D.sl a2_1 2 e2_1 c2_1]) a)):ve Q N0 n4 y0 n1_0 a1_1 e1_1 c1_1 n2_0 a2_1 e2_1 c2_1 N:=
  hE (H:=uy) (by kernel_rfl) h
theorem uE (Q:QT [.bool]) (N0:Nat) (n5:Int) (y0 y1:D) (N:Nat) (h :
∃ a d,∃ c:Nat,(y0.cell 1)=D.sl a 2 d c/\Br (decide (n5<(d.length:Int))) (∃ a c,∃ d:Nat,(y0.cell 1)=D.sl a 2 c d/\(0<=n5/\n5
 < (c.length:Int))/\∃ a d,∃ e:Nat,(y1.cell 1)=D.sl a 2 d e/\(0<=n5/\n5<(d.length:Int))/\∀ a,N<=a->ACalls prog 107 [.bool]
 [.dg 2 (List.getD c n5.toNat default),.dg 2 (List.getD d n5.toNat default)] a (fun b c=>a<=c->Br (!b) (∀ a,c<=a->Q false a) (yK
 Q N0 (IntKind.i64.wrap (n5+1)) y0 y1 c))) (∀ a,N<=a->Q true a)):yK Q N0 n5 y0 y1 N:=
  hE (H:=tS) (by kernel_rfl) h
theorem tT (Q:QT [.sl 4]) (N0:Nat) (a0:Option Addr) (e0:List D) (c0:Nat) (n1:Int) (m5 c5:Nat) (n6:Int) (r0:List D) (q0:Nat) (N:Nat) (h :
Br (decide (n6<(e0.length:Int))) ((0<=n6/\n6<(e0.length:Int))/\∀ a,N<=a->ACalls prog 108 [.bool] [.dg 2 (if 2=0 then D.cell (List.getD e0 n6.toNat
 default) 1 else D.sub (List.getD e0 n6.toNat default) 1 2)] a (fun b d=>a<=d->Br b ((0<=n6/\n6<(e0.length:Int))/\∃ n:Int,(if 0=0 then D.cell
 (List.getD e0 n6.toNat default) 3 else D.sub (List.getD e0 n6.toNat default) 3 0)=D.lit (.int .i64 n)/\Br (decide (n<=n1)) ((0<=n6/\n6<(e0.length:Int))
 /\ ∃ s,(if 0=0 then D.cell (List.getD e0 n6.toNat default) 0 else D.sub (List.getD e0 n6.toNat default) 0 0)=D.lit (.string s)/\∀ a,d<=a->ACalls prog
 109 [.int .i64] [.sv a0 4 e0 c0,.str s] a (fun b d=>a<=d->Br (b==n6) ((0<=n6/\n6<(e0.length:Int))/\∃ a,(if 0=0 then D.cell (List.getD
 e0 n6.toNat default) 0 else D.sub (List.getD e0 n6.toNat default) 0 0)=D.lit (.string a)/\(0<=n6/\n6<(e0.length:Int))/\(0<=n6/\n6<(e0.length:Int))
 /\ ∃ b:Int,(if 0=0 then D.cell (List.getD e0 n6.toNat default) 3 else D.sub (List.getD e0 n6.toNat default) 3 0)=D.lit (.int .i64 b)/\∀ e,d<=e
 -> ACalls prog 110 [.ag 2] [.dg 2 (if 2=0 then D.cell (List.getD e0 n6.toNat default) 1 else D.sub (List.getD e0 n6.toNat default) 1 2)] e (fun x d=>e <=
 d->Bel d x->(m5=r0.length/\c5=q0)/\zB r0 [D.ag [D.lit (.string a),(x.cell 0),(x.cell 1),D.lit (.int .i64 b)]] 56/\∀ (c:Nat),zu
 Q N0 a0 e0 c0 n1 (r0++[D.ag [D.lit (.string a),(x.cell 0),(x.cell 1),D.lit (.int .i64 b)]]).length c (IntKind.i64.wrap (n6+1)) (r0++[D.ag [D.lit (.string
 a),(x.cell 0),(x.cell 1),D.lit (.int .i64 b)]]) c d)) (zu Q N0 a0 e0 c0 n1 m5 c5 (IntKind.i64.wrap (n6+1)) r0 q0 d))) (zu
 Q N0 a0 e0 c0 n1 m5 c5 (IntKind.i64.wrap (n6+1)) r0 q0 d)) (zu Q N0 a0 e0 c0 n1 m5 c5 (IntKind.i64.wrap (n6+1)) r0 q0 d))) ((m5=r0.length
 /\ c5=q0)/\(m5=r0.length/\c5=q0)/\(m5=r0.length/\c5=q0)/\∀ a b,N<=b->Fresh N0 b a [D.ag r0]->∀ c,b<=c->Q a r0 q0 c)):zu Q N0 a0 e0 c0 n1 m5 c5 n6 r0 q0 N:=
  hE (H:=rX) (by kernel_rfl) h
theorem vz (Q:QT [.ag 2]) (N0:Nat) (n4:Int) (y0:D) (n1_0:Int) (a1_1:Option Addr) (e1_1:List D) (c1_1:Nat) (n2_0:Int) (m2_1 c2_1:Nat) (r3:List D) (q3:Nat) (N:Nat) (h :
∃ a b,∃ c:Nat,(y0.cell 1)=D.sl a 2 b c/\Br (decide (n4<(b.length:Int))) (∃ a b,∃ c:Nat,(y0.cell 1)=D.sl a 2 b c/\(0<=n4/\n4
 < (b.length:Int))/\∀ a,N<=a->ACalls prog 110 [.ag 2] [.dg 2 (List.getD b n4.toNat default)] a (fun x b=>a<=b->Bel b x->(m2_1=r3.length
 /\ c2_1=q3)/\zB r3 [x] 32/\∀ (a:Nat),yp Q N0 (IntKind.i64.wrap (n4+1)) y0 n1_0 a1_1 e1_1 c1_1 n2_0 (r3++[x]).length a (r3++[x])
 a b)) ((m2_1=r3.length/\c2_1=q3)/\(m2_1=r3.length/\c2_1=q3)/\(m2_1=r3.length/\c2_1=q3)/\∀ a b,N<=b->Fresh N0 b a [D.ag r3]->∀
 c,b<=c->Q (D.ag [D.lit (.int .i64 n2_0),D.sl a 2 r3 q3]) c)):yp Q N0 n4 y0 n1_0 a1_1 e1_1 c1_1 n2_0 m2_1 c2_1 r3 q3 N:=
  hE (H:=uy) (by kernel_rfl) h
end Go.Proofs.YtkdjhkfiolhkiaaGreat
