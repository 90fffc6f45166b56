/- Printed by gen.py: what the functions come to. -/
import Derived.Test.YtmfjakahanbnlaaGreatDoorJh
set_option linter.unusedVariables false
set_option maxRecDepth 100000
namespace Go.Proofs.YtmfjakahanbnlaaGreatDoor
open Go Go.Proofs Go.Proofs.Tryz
def zDn:Hint:=⟨[],[],[]⟩
def t6:Hint:=⟨[hc 2 [0,3]],[],[]⟩
def sQ:Hint:=⟨[hc 3 [1,2,5]],[],[(5,hs 8 [ec 6 [23]])]⟩
def zCl:Hint:=⟨[],[],[]⟩
def wk:Hint:=⟨[hc 3 [1,3,4]],[],[(5,hs 9 [ec 6 [17]])]⟩
def tj:Hint:=⟨[hc 2 [1,3]],[],[(4,hs 7 [ec 5 [15]])]⟩
def tm:Hint:=⟨[],[],[(1,hs 13 [ec 1 [3],ec 5 [7],ec 10 [12]])]⟩
def zA6:Hint:=⟨[],[],[]⟩
def p8:Hint:=⟨[],[],[]⟩
def p6:Hint:=⟨[],[],[]⟩
def pp:Hint:=⟨[],[],[(2,hs 15 [ec 3 [15],ec 11 [23]]),(4,[en 0,en 1,en 2,en 3,en 4,ec 5 [32],en 6,en 7,en 8,en 9,en 10,en 11,en 12,en 13,ec 14 [41],en 15,en 16,en 17]),(12,hs 9 [ec 6 [57]])]⟩
def zAA:Hint:=⟨[],[],[]⟩
def tX:Hint:=⟨[hc 2 [1,3]],[],[(4,hs 7 [ec 5 [15]]),(6,[en 0,ec 1 [18],en 2,en 3,en 4,en 5,en 6,ec 7 [24],en 8,en 9,en 10])]⟩
def vP:Hint:=⟨[hc 3 [1,2,3,4]],[],[(5,[en 0,en 1,en 2,en 3,en 4,en 5,en 6,ec 7 [21],en 8,eh 9,en 10,eh 11])]⟩
def zy (Q:QT [.bool]) (N0:Nat) (s0:ByteArray) (n3:Int) (N:Nat):Prop:=AT prog 233 [.bool] Q N0 .ord (zF prog 233 2) ⟨.str s0::an 2 (.int .i64 n3::an 58 []),[],N,none⟩
def xO (Q:QT [.int .i64]) (N0:Nat) (n1 n5:Int) (y0:D) (N:Nat):Prop:=AT prog 230 [.int .i64] Q N0 .ord (zF prog 230 3) ⟨an 1 (.int .i64 n1::.pb 0 0 0 0::an 2 (.int .i64 n5::an 21 [])),[.vd y0 2],N,none⟩
def zu (Q:QT [.int .i64]) (N0:Nat) (n3 n4:Int) (y0:D) (N:Nat):Prop:=AT prog 231 [.int .i64] Q N0 .ord (zF prog 231 3) ⟨an 1 (.pb 0 0 0 0::an 1 (.int .i64 n3::.int .i64 n4::an 17 [])),[.vd y0 2],N,none⟩
def xR (Q:QT [.bool]) (N0:Nat) (n3:Int) (y0:D) (N:Nat):Prop:=AT prog 232 [.bool] Q N0 .ord (zF prog 232 2) ⟨an 1 (.pb 0 0 0 0::an 1 (.int .i64 n3::an 35 [])),[.vd y0 2],N,none⟩
def xE (Q:QT [.bool]) (N0:Nat) (n3:Int) (y0:D) (N:Nat):Prop:=AT prog 46 [.bool] Q N0 .ord (zF prog 46 2) ⟨an 1 (.pb 0 0 0 0::an 1 (.int .i64 n3::an 24 [])),[.vd y0 9],N,none⟩
def wN (Q:QT [.ag 2]) (N0:Nat) (n4:Int) (y0:D) (n1_0:Int) (a1_1:Option Addr) (e1_1:List D) (c1_1:Nat) (n2_0:Int) (a2_1:Option Addr) (e2_1:List D) (c2_1:Nat) (N:Nat):Prop:=AT prog 141 [.ag 2] Q N0 .ord (zF prog 141 3) ⟨an 1 (.pb 0 0 0 0::.pb 1 0 0 0::.pb 2 0 0 0::.int .i64 n4::an 22 []),[.vd y0 2,.var [.int .i64 n1_0,.sv a1_1 2 e1_1 c1_1],.var [.int .i64 n2_0,.sv a2_1 2 e2_1 c2_1]],N,none⟩
def yK (Q:QT [.ag 2]) (N0:Nat) (n4:Int) (y0:D) (n1_0:Int) (a1_1:Option Addr) (e1_1:List D) (c1_1:Nat) (n2_0:Int) (m2_1 c2_1:Nat) (r3:List D) (q3:Nat) (N:Nat):Prop:=AT prog 141 [.ag 2] Q N0 .ord (zF prog 141 3) ⟨an 1 (.pb 0 0 0 0::.pb 1 0 0 0::.pb 2 0 0 0::.int .i64 n4::an 22 []),[.vd y0 2,.var [.int .i64 n1_0,.sv a1_1 2 e1_1 c1_1],.var [.int .i64 n2_0,.sb 3 2 0 m2_1 c2_1],.arr 32 2 r3 q3],N,none⟩
theorem zDg (N:Nat) (n0 n1 n2:Int) (Q:QT [.bool]) (h :
Br (decide (n0≥n1)) (∀ a,N<=a->Q (decide (n0<=n2)) a) (∀ a,N<=a->Q false a)):ACalls prog 63 [.bool] [PV.int .i64 n0,PV.int .i64 n1,PV.int .i64 n2] N Q:=
 eE (H:=zDn) (by kernel_rfl) (by kernel_rfl) h
theorem zBb (N:Nat) (s0:ByteArray) (Q:QT [.bool]) (h :
zy Q N s0 0 N):ACalls prog 233 [.bool] [PV.str s0] N Q:=
 eE (H:=t6) (by kernel_rfl) (by kernel_rfl) h
theorem zBf (N:Nat) (x0:D) (n1:Int) (Q:QT [.int .i64]) (h :
Bel N x0->xO Q N (IntKind.i64.wrap (n1 - 1)) 0 x0 N):ACalls prog 230 [.int .i64] [PV.dg 2 x0,PV.int .i64 n1] N Q:=
 eE (H:=sQ) (by kernel_rfl) (by kernel_rfl) h
theorem zC4 (N:Nat) (n0 n1:Int) (Q:QT [.int .i64]) (h :
Br (decide (n0>n1)) (∀ a,N<=a->Q n0 a) (∀ a,N<=a->Q n1 a)):ACalls prog 274 [.int .i64] [PV.int .i64 n0,PV.int .i64 n1] N Q:=
 eE (H:=zCl) (by kernel_rfl) (by kernel_rfl) h
theorem tu (N:Nat) (x0:D) (Q:QT [.int .i64]) (h :
Bel N x0->zu Q N 0 0 x0 N):ACalls prog 231 [.int .i64] [PV.dg 2 x0] N Q:=
 eE (H:=wk) (by kernel_rfl) (by kernel_rfl) h
theorem zBr (N:Nat) (x0:D) (Q:QT [.bool]) (h :
Bel N x0->xR Q N 0 x0 N):ACalls prog 232 [.bool] [PV.dg 2 x0] N Q:=
 eE (H:=tj) (by kernel_rfl) (by kernel_rfl) h
theorem tk (N:Nat) (x0:D) (Q:QT [.bool]) (h :
Bel N x0->∀ a,N<=a->ACalls prog 230 [.int .i64] [.dg 2 x0,.int .i64 30] a (fun n c=>a<=c->Br (decide (n≥0)) (∀ a,c<=a->ACalls prog
 231 [.int .i64] [.dg 2 x0] a (fun c d=>a<=d->Br (decide (c<=8)) (∀ a,d<=a->ACalls prog 232 [.bool] [.dg 2 x0] a (fun b c=>a<=c
 -> ∀ a,c<=a->Q b a)) (∀ a,d<=a->Q false a))) (∀ a,c<=a->Q false a))):ACalls prog 167 [.bool] [PV.dg 2 x0] N Q:=
  eE (H:=tm) (by kernel_rfl) (by kernel_rfl) h
theorem zBF (N:Nat) (x0:D) (Q:QT [.bool]) (h :
Bel N x0->∃ n:Int,(x0.cell 0)=D.lit (.int .i64 n)/\Br (n==0) (∃ a b,∃ c:Nat,(x0.cell 1)=D.sl a 2 b c/\∀ a,N<=a->Q ((b.length:Int) ==
 0) a) (∀ a,N<=a->Q false a)):ACalls prog 168 [.bool] [PV.dg 2 x0] N Q:=
  eE (H:=zA6) (by kernel_rfl) (by kernel_rfl) h
theorem zAP (N:Nat) (s0:ByteArray) (Q:QT [.int .i64]) (h :
Br (ByteArray.toList s0==ByteArray.toList (bytes [43])) (∀ a,N<=a->Q 2 a) (Br (ByteArray.toList s0==ByteArray.toList (bytes [45])) (∀ a,N<=a ->
 Q 2 a) (Br (ByteArray.toList s0==ByteArray.toList (bytes [42])) (∀ a,N<=a->Q 2 a) (Br (ByteArray.toList s0==ByteArray.toList (bytes [61])) (∀ a,
 N<=a->Q 2 a) (Br (ByteArray.toList s0==ByteArray.toList (bytes [60])) (∀ a,N<=a->Q 2 a) (Br (ByteArray.toList s0==ByteArray.toList (bytes [38]))
 (∀ a,N<=a->Q 2 a) (Br (ByteArray.toList s0==ByteArray.toList (bytes [124])) (∀ a,N<=a->Q 2 a) (Br (ByteArray.toList s0==ByteArray.toList (bytes
 [33])) (∀ a,N<=a->Q 1 a) (∀ a,N<=a->Q 0 a))))))))):ACalls prog 170 [.int .i64] [PV.str s0] N Q:=
  eE (H:=p8) (by kernel_rfl) (by kernel_rfl) h
theorem zAL (N:Nat) (x0:D) (Q:QT [.bool]) (h :
Bel N x0->∃ n:Int,(x0.cell 0)=D.lit (.int .i64 n)/\Br (n==4) (∃ s,(x0.cell 1)=D.lit (.string s)/\∀ a,N<=a->ACalls prog 170 [.int .i64] [.str
 s] a (fun b c=>a<=c->Br (decide (b>0)) (∃ a,(x0.cell 2)=D.lit (.string a)/\∀ b,c<=b->Q (ByteArray.toList a==ByteArray.toList
 (bytes [])) b) (∀ a,c<=a->Q false a))) (Br (n==1) (∃ a,(x0.cell 1)=D.lit (.string a)/\∀ c,N<=c->ACalls prog 233 [.bool] [.str a]
 c (fun b a=>c<=a->Br b (∃ b,(x0.cell 2)=D.lit (.string b)/\∀ c,a<=c->Q (ByteArray.toList b==ByteArray.toList (bytes [])) c) (∀
 b,a<=b->Q false b))) (Br (n==6) (∃ a,(x0.cell 1)=D.lit (.string a)/\∀ b,N<=b->ACalls prog 233 [.bool] [.str a] b (fun a c=>
 b<=c->Br a (∃ a,(x0.cell 2)=D.lit (.string a)/\∀ b,c<=b->Q (ByteArray.toList a==ByteArray.toList (bytes [])) b) (∀ a,c
 <= a->Q false a))) (Br (n==8) (∃ a,(x0.cell 1)=D.lit (.string a)/\∀ b,N<=b->ACalls prog 233 [.bool] [.str a] b (fun a c=>b
 <= c->Br a (∃ a,(x0.cell 2)=D.lit (.string a)/\∀ b,c<=b->Q (ByteArray.toList a==ByteArray.toList (bytes [])) b) (∀ a,c<=a
 -> Q false a))) (Br (n==9) (∃ a,(x0.cell 1)=D.lit (.string a)/\∀ b,N<=b->ACalls prog 233 [.bool] [.str a] b (fun a c=>b<=c
 -> Br a (∃ a,(x0.cell 2)=D.lit (.string a)/\∀ b,c<=b->ACalls prog 233 [.bool] [.str a] b (fun a c=>b<=c->Br a (∃ a,
 (x0.cell 1)=D.lit (.string a)/\∃ b,(x0.cell 2)=D.lit (.string b)/\∀ d,c<=d->Q (!(ByteArray.toList a==ByteArray.toList b)) d)
 (∀ a,c<=a->Q false a))) (∀ a,c<=a->Q false a))) (∃ a,(x0.cell 1)=D.lit (.string a)/\Br (ByteArray.toList a==ByteArray.toList
 (bytes [])) (∃ a,(x0.cell 2)=D.lit (.string a)/\∀ b,N<=b->Q (ByteArray.toList a==ByteArray.toList (bytes [])) b) (∀ a,N<=a->Q
 false a))))))):ACalls prog 169 [.bool] [PV.dg 9 x0] N Q:=
  eE (H:=p6) (by kernel_rfl) (by kernel_rfl) h
theorem q9 (N:Nat) (x0:D) (Q:QT [.bool]) (h :
Bel N x0->∃ n:Int,(x0.cell 0)=D.lit (.int .i64 n)/\Br (n==6) (∀ a,N<=a->ACalls prog 167 [.bool] [.dg 2 (D.sub x0 4 2)] a (fun b c=>a<=c
 -> Br (!(true==b)) (∀ a,c<=a->Q false a) (∃ a:Int,(x0.cell 0)=D.lit (.int .i64 a)/\∀ b,c<=b->ACalls prog 167 [.bool] [.dg 2 (D.sub
 x0 6 2)] b (fun c d=>b<=d->Br (!((a==9)==c)) (∀ a,d<=a->Q false a) (∃ a:Int,(x0.cell 0)=D.lit (.int .i64 a)/\Br (bne a
 9) (∀ a,d<=a->ACalls prog 168 [.bool] [.dg 2 (D.sub x0 6 2)] a (fun b c=>a<=c->Br (!b) (∀ a,c<=a->Q false a) (∃ a:Int,(x0.cell
 0)=D.lit (.int .i64 a)/\Br (a==2) (∃ a:Int,(x0.cell 3)=D.lit (.int .i64 a)/\∀ b,c<=b->ACalls prog 63 [.bool] [.int .i64 a,.int .i64
 0,.int .i64 10006] b (fun a c=>b<=c->Br a (∀ a,c<=a->ACalls prog 169 [.bool] [.dg 9 x0] a (fun b c=>a<=c->∀ a,
 c<=a->Q b a)) (∀ a,c<=a->Q false a))) (Br (a==3) (∃ a:Int,(x0.cell 3)=D.lit (.int .i64 a)/\∀ b,c<=b->ACalls
 prog 63 [.bool] [.int .i64 a,.int .i64 0,.int .i64 1] b (fun a c=>b<=c->Br a (∀ a,c<=a->ACalls prog 169 [.bool] [.dg 9 x0] a
 (fun b c=>a<=c->∀ a,c<=a->Q b a)) (∀ a,c<=a->Q false a))) (∃ a:Int,(x0.cell 3)=D.lit (.int .i64 a)/\∀ b,
 c<=b->ACalls prog 63 [.bool] [.int .i64 a,.int .i64 0,.int .i64 0] b (fun a c=>b<=c->Br a (∀ a,c<=a->ACalls prog 169 [.bool]
 [.dg 9 x0] a (fun b c=>a<=c->∀ a,c<=a->Q b a)) (∀ a,c<=a->Q false a))))))) (∃ a:Int,(x0.cell 0)=D.lit (.int
 .i64 a)/\Br (a==2) (∃ a:Int,(x0.cell 3)=D.lit (.int .i64 a)/\∀ b,d<=b->ACalls prog 63 [.bool] [.int .i64 a,.int .i64 0,.int .i64
 10006] b (fun a c=>b<=c->Br a (∀ a,c<=a->ACalls prog 169 [.bool] [.dg 9 x0] a (fun b c=>a<=c->∀ a,c<=a
 -> Q b a)) (∀ a,c<=a->Q false a))) (Br (a==3) (∃ a:Int,(x0.cell 3)=D.lit (.int .i64 a)/\∀ b,d<=b->ACalls prog 63 [.bool]
 [.int .i64 a,.int .i64 0,.int .i64 1] b (fun a c=>b<=c->Br a (∀ a,c<=a->ACalls prog 169 [.bool] [.dg 9 x0] a (fun b c
 => a<=c->∀ a,c<=a->Q b a)) (∀ a,c<=a->Q false a))) (∃ a:Int,(x0.cell 3)=D.lit (.int .i64 a)/\∀ b,d<=b
 -> ACalls prog 63 [.bool] [.int .i64 a,.int .i64 0,.int .i64 0] b (fun a c=>b<=c->Br a (∀ a,c<=a->ACalls prog 169 [.bool] [.dg
 9 x0] a (fun b c=>a<=c->∀ a,c<=a->Q b a)) (∀ a,c<=a->Q false a)))))))))) (∃ a:Int,(x0.cell 0)=D.lit (.int
 .i64 a)/\∀ b,N<=b->ACalls prog 167 [.bool] [.dg 2 (D.sub x0 4 2)] b (fun c d=>b<=d->Br (!((a==9)==c)) (∀ a,d<=a
 -> Q false a) (Br (!(a==9)) (∀ a,d<=a->ACalls prog 168 [.bool] [.dg 2 (D.sub x0 4 2)] a (fun b c=>a<=c->Br (!b) (∀ a,
 c<=a->Q false a) (∃ a:Int,(x0.cell 0)=D.lit (.int .i64 a)/\∀ b,c<=b->ACalls prog 167 [.bool] [.dg 2 (D.sub x0 6 2)] b (fun
 c d=>b<=d->Br (!((a==9)==c)) (∀ a,d<=a->Q false a) (∃ a:Int,(x0.cell 0)=D.lit (.int .i64 a)/\Br (bne a 9)
 (∀ a,d<=a->ACalls prog 168 [.bool] [.dg 2 (D.sub x0 6 2)] a (fun b c=>a<=c->Br (!b) (∀ a,c<=a->Q false a) (∃ a
 : Int,(x0.cell 0)=D.lit (.int .i64 a)/\Br (a==2) (∃ a:Int,(x0.cell 3)=D.lit (.int .i64 a)/\∀ b,c<=b->ACalls prog 63 [.bool] [.int
 .i64 a,.int .i64 0,.int .i64 10006] b (fun a c=>b<=c->Br a (∀ a,c<=a->ACalls prog 169 [.bool] [.dg 9 x0] a (fun b c
 => a<=c->∀ a,c<=a->Q b a)) (∀ a,c<=a->Q false a))) (Br (a==3) (∃ a:Int,(x0.cell 3)=D.lit (.int .i64 a) /\
 ∀ b,c<=b->ACalls prog 63 [.bool] [.int .i64 a,.int .i64 0,.int .i64 1] b (fun a c=>b<=c->Br a (∀ a,c<=a->ACalls
 prog 169 [.bool] [.dg 9 x0] a (fun b c=>a<=c->∀ a,c<=a->Q b a)) (∀ a,c<=a->Q false a))) (∃ a:Int,(x0.cell
 3)=D.lit (.int .i64 a)/\∀ b,c<=b->ACalls prog 63 [.bool] [.int .i64 a,.int .i64 0,.int .i64 0] b (fun a c=>b<=c->Br a
 (∀ a,c<=a->ACalls prog 169 [.bool] [.dg 9 x0] a (fun b c=>a<=c->∀ a,c<=a->Q b a)) (∀ a,c<=a->Q false
 a))))))) (∃ a:Int,(x0.cell 0)=D.lit (.int .i64 a)/\Br (a==2) (∃ a:Int,(x0.cell 3)=D.lit (.int .i64 a)/\∀ b,d<=b->ACalls
 prog 63 [.bool] [.int .i64 a,.int .i64 0,.int .i64 10006] b (fun a c=>b<=c->Br a (∀ a,c<=a->ACalls prog 169 [.bool] [.dg 9
 x0] a (fun b c=>a<=c->∀ a,c<=a->Q b a)) (∀ a,c<=a->Q false a))) (Br (a==3) (∃ a:Int,(x0.cell 3) =
 D.lit (.int .i64 a)/\∀ b,d<=b->ACalls prog 63 [.bool] [.int .i64 a,.int .i64 0,.int .i64 1] b (fun a c=>b<=c->Br a (∀
 a,c<=a->ACalls prog 169 [.bool] [.dg 9 x0] a (fun b c=>a<=c->∀ a,c<=a->Q b a)) (∀ a,c<=a->Q false a)))
 (∃ a:Int,(x0.cell 3)=D.lit (.int .i64 a)/\∀ b,d<=b->ACalls prog 63 [.bool] [.int .i64 a,.int .i64 0,.int .i64 0] b (fun a c
 => b<=c->Br a (∀ a,c<=a->ACalls prog 169 [.bool] [.dg 9 x0] a (fun b c=>a<=c->∀ a,c<=a->Q b a)) (∀ a,
 c<=a->Q false a)))))))))) (∃ a:Int,(x0.cell 0)=D.lit (.int .i64 a)/\∀ b,d<=b->ACalls prog 167 [.bool] [.dg 2 (D.sub x0 6 2)] b
 (fun c d=>b<=d->Br (!((a==9)==c)) (∀ a,d<=a->Q false a) (∃ a:Int,(x0.cell 0)=D.lit (.int .i64 a)/\Br (bne a
 9) (∀ a,d<=a->ACalls prog 168 [.bool] [.dg 2 (D.sub x0 6 2)] a (fun b c=>a<=c->Br (!b) (∀ a,c<=a->Q false a) (∃
 a:Int,(x0.cell 0)=D.lit (.int .i64 a)/\Br (a==2) (∃ a:Int,(x0.cell 3)=D.lit (.int .i64 a)/\∀ b,c<=b->ACalls prog 63 [.bool]
 [.int .i64 a,.int .i64 0,.int .i64 10006] b (fun a c=>b<=c->Br a (∀ a,c<=a->ACalls prog 169 [.bool] [.dg 9 x0] a
 (fun b c=>a<=c->∀ a,c<=a->Q b a)) (∀ a,c<=a->Q false a))) (Br (a==3) (∃ a:Int,(x0.cell 3)
 = D.lit (.int .i64 a)/\∀ b,c<=b->ACalls prog 63 [.bool] [.int .i64 a,.int .i64 0,.int .i64 1] b (fun a c=>b<=c->Br
 a (∀ a,c<=a->ACalls prog 169 [.bool] [.dg 9 x0] a (fun b c=>a<=c->∀ a,c<=a->Q b a)) (∀ a,c
 <= a->Q false a))) (∃ a:Int,(x0.cell 3)=D.lit (.int .i64 a)/\∀ b,c<=b->ACalls prog 63 [.bool] [.int .i64 a,.int .i64 0,.int
 .i64 0] b (fun a c=>b<=c->Br a (∀ a,c<=a->ACalls prog 169 [.bool] [.dg 9 x0] a (fun b c=>a<=c->∀
 a,c<=a->Q b a)) (∀ a,c<=a->Q false a))))))) (∃ a:Int,(x0.cell 0)=D.lit (.int .i64 a)/\Br (a==2) (∃ a
 : Int,(x0.cell 3)=D.lit (.int .i64 a)/\∀ b,d<=b->ACalls prog 63 [.bool] [.int .i64 a,.int .i64 0,.int .i64 10006] b (fun a c
 => b<=c->Br a (∀ a,c<=a->ACalls prog 169 [.bool] [.dg 9 x0] a (fun b c=>a<=c->∀ a,c<=a->Q b
 a)) (∀ a,c<=a->Q false a))) (Br (a==3) (∃ a:Int,(x0.cell 3)=D.lit (.int .i64 a)/\∀ b,d<=b->ACalls prog 63 [.bool]
 [.int .i64 a,.int .i64 0,.int .i64 1] b (fun a c=>b<=c->Br a (∀ a,c<=a->ACalls prog 169 [.bool] [.dg 9 x0] a (fun
 b c=>a<=c->∀ a,c<=a->Q b a)) (∀ a,c<=a->Q false a))) (∃ a:Int,(x0.cell 3)=D.lit (.int .i64 a)
 /\ ∀ b,d<=b->ACalls prog 63 [.bool] [.int .i64 a,.int .i64 0,.int .i64 0] b (fun a c=>b<=c->Br a (∀ a,c<=a
 -> ACalls prog 169 [.bool] [.dg 9 x0] a (fun b c=>a<=c->∀ a,c<=a->Q b a)) (∀ a,c<=a->Q false a))))))))))) 
 ):ACalls prog 106 [.bool] [PV.dg 9 x0] N Q:=
  eE (H:=pp) (by kernel_rfl) (by kernel_rfl) h
theorem zAR (N:Nat) (x0:D) (Q:QT [.int .i64]) (h :
Bel N x0->∃ n:Int,(x0.cell 0)=D.lit (.int .i64 n)/\Br (n==1) (∀ a,N<=a->Q 0 a) (Br (n==2) (∀ a,N<=a->Q 0 a) (Br (n==3) (∀ a,N <=
 a->Q 0 a) (Br (n==4) (∃ s,(x0.cell 1)=D.lit (.string s)/\∀ a,N<=a->ACalls prog 170 [.int .i64] [.str s] a (fun b c=>a<=c->∀ a,
 c<=a->Q b a)) (Br (n==6) (∀ a,N<=a->Q 1 a) (Br (n==9) (∀ a,N<=a->Q 1 a) (Br (n==10) (∀ a,N<=a->Q 1 a) (Br (n==11) (∀
 a,N<=a->Q 1 a) (Br (n==12) (∀ a,N<=a->Q 1 a) (Br (n==13) (∀ a,N<=a->Q 1 a) (Br (n==7) (∀ a,N<=a->Q 2 a) (Br
 (n==8) (∀ a,N<=a->Q 2 a) (Br (n==5) (∀ a,N<=a->Q 3 a) (∀ a,N<=a->Q (-1) a)))))))))))))):ACalls prog 107 [.int .i64] [PV.dg 9 x0] N Q:=
  eE (H:=zAA) (by kernel_rfl) (by kernel_rfl) h
theorem zB3 (N:Nat) (x0:D) (Q:QT [.bool]) (h :
Bel N x0->xE Q N 0 x0 N):ACalls prog 46 [.bool] [PV.dg 9 x0] N Q:=
 eE (H:=tX) (by kernel_rfl) (by kernel_rfl) h
theorem zBq (N:Nat) (x0:D) (Q:QT [.ag 2]) (h :
Bel N x0->∃ n:Int,(x0.cell 0)=D.lit (.int .i64 n)/\wN Q N 0 x0 0 Option.none [] 0 n Option.none [] 0 N):ACalls prog 141 [.ag 2] [PV.dg 2 x0] N Q:=
 eE (H:=vP) (by kernel_rfl) (by kernel_rfl) h
theorem uO (Q:QT [.bool]) (N0:Nat) (s0:ByteArray) (n3:Int) (N:Nat) (h :
Br (decide (n3<(s0.size:Int))) ((0<=n3/\n3<(s0.size:Int))/\Br (decide ((UInt8.toNat (Array.getD (ByteArray.data s0) n3.toNat (OfNat.ofNat 0)):Int) ≥
 97)) ((0<=n3/\n3<(s0.size:Int))/\Br (!(decide ((UInt8.toNat (Array.getD (ByteArray.data s0) n3.toNat (OfNat.ofNat 0)):Int)<=122))) (Br (n3==0) (∀ a,
 N<=a->Q false a) ((0<=n3/\n3<(s0.size:Int))/\Br (decide ((UInt8.toNat (Array.getD (ByteArray.data s0) n3.toNat (OfNat.ofNat 0)):Int)<48)) (∀ a,
 N<=a->Q false a) ((0<=n3/\n3<(s0.size:Int))/\Br (decide ((UInt8.toNat (Array.getD (ByteArray.data s0) n3.toNat (OfNat.ofNat 0)):Int)>57)) (∀ a,
 N<=a->Q false a) (zy Q N0 s0 (IntKind.i64.wrap (n3+1)) N)))) (zy Q N0 s0 (IntKind.i64.wrap (n3+1)) N)) (Br (n3==0) (∀ a,
 N<=a->Q false a) ((0<=n3/\n3<(s0.size:Int))/\Br (decide ((UInt8.toNat (Array.getD (ByteArray.data s0) n3.toNat (OfNat.ofNat 0)):Int)<48)) (∀ a,
 N<=a->Q false a) ((0<=n3/\n3<(s0.size:Int))/\Br (decide ((UInt8.toNat (Array.getD (ByteArray.data s0) n3.toNat (OfNat.ofNat 0)):Int)>57)) (∀ a,
 N<=a->Q false a) (zy Q N0 s0 (IntKind.i64.wrap (n3+1)) N))))) (∀ a,N<=a->ACalls prog 63 [.bool] [.int .i64 (s0.size:Int),.int .i64
 1,.int .i64 4] a (fun b c=>a<=c->Br b (Br (!(ByteArray.toList s0==ByteArray.toList (bytes [105,102]))) (Br (!(ByteArray.toList s0==ByteArray.toList
 (bytes [108,101,116]))) (Br (!(ByteArray.toList s0==ByteArray.toList (bytes [114,101,99]))) (Br (!(ByteArray.toList s0==ByteArray.toList (bytes [114,117,
 110]))) (∀ a,c<=a->Q (!(ByteArray.toList s0==ByteArray.toList (bytes [108,105,102,116]))) a) (∀ a,c<=a->Q false a)) (∀ a,c <=
 a->Q false a)) (∀ a,c<=a->Q false a)) (∀ a,c<=a->Q false a)) (∀ a,c<=a->Q false a)))):zy Q N0 s0 n3 N:=
  hE (H:=t6) (by kernel_rfl) h
theorem uA (Q:QT [.int .i64]) (N0:Nat) (n1 n5:Int) (y0:D) (N:Nat) (h :
∃ a b,∃ c:Nat,(y0.cell 1)=D.sl a 2 b c/\Br (decide (n5<(b.length:Int))) (Br (decide (n1≥0)) (∃ a b,∃ c:Nat,(y0.cell 1)=D.sl a 2 b
 c/\(0<=n5/\n5<(b.length:Int))/\∀ a,N<=a->ACalls prog 230 [.int .i64] [.dg 2 (List.getD b n5.toNat default),.int .i64 n1] a (fun n b=>
 a<=b->xO Q N0 n (IntKind.i64.wrap (n5+1)) y0 b)) (∀ a,N<=a->Q n1 a)) (∀ a,N<=a->Q n1 a)):xO Q N0 n1 n5 y0 N:=
  hE (H:=sQ) (by kernel_rfl) h
theorem xq (Q:QT [.int .i64]) (N0:Nat) (n3 n4:Int) (y0:D) (N:Nat) (h :
∃ a b,∃ c:Nat,(y0.cell 1)=D.sl a 2 b c/\Br (decide (n4<(b.length:Int))) (∃ a b,∃ c:Nat,(y0.cell 1)=D.sl a 2 b c/\(0<=n4/\n4
 < (b.length:Int))/\∀ a,N<=a->ACalls prog 231 [.int .i64] [.dg 2 (List.getD b n4.toNat default)] a (fun n b=>a<=b->∀ a,b<=a ->
 ACalls prog 274 [.int .i64] [.int .i64 n3,.int .i64 n] a (fun b c=>a<=c->zu Q N0 b (IntKind.i64.wrap (n4+1)) y0 c))) (∀ a,
 N<=a->Q (IntKind.i64.wrap (n3+1)) a)):zu Q N0 n3 n4 y0 N:=
  hE (H:=wk) (by kernel_rfl) h
theorem vz (Q:QT [.bool]) (N0:Nat) (n3:Int) (y0:D) (N:Nat) (h :
∃ a d,∃ c:Nat,(y0.cell 1)=D.sl a 2 d c/\Br (decide (n3<(d.length:Int))) (∃ a c,∃ d:Nat,(y0.cell 1)=D.sl a 2 c d/\(0<=n3/\n3
 < (c.length:Int))/\∀ a,N<=a->ACalls prog 232 [.bool] [.dg 2 (List.getD c n3.toNat default)] a (fun b c=>a<=c->Br (!b) (∀ a,c<=a
 -> Q false a) (xR Q N0 (IntKind.i64.wrap (n3+1)) y0 c))) (∃ n:Int,(y0.cell 0)=D.lit (.int .i64 n)/\Br (n==1) (∃ a b,∃ c:Nat,
 (y0.cell 1)=D.sl a 2 b c/\∀ a,N<=a->Q ((b.length:Int)==0) a) (Br (n==2) (∃ a b,∃ c:Nat,(y0.cell 1)=D.sl a 2 b c /\
 ∀ a,N<=a->Q ((b.length:Int)==0) a) (Br (n==3) (∃ a b,∃ c:Nat,(y0.cell 1)=D.sl a 2 b c/\∀ a,N<=a->Q ((b.length :
 Int)==2) a) (Br (n==4) (∃ a b,∃ c:Nat,(y0.cell 1)=D.sl a 2 b c/\∀ a,N<=a->Q ((b.length:Int)==1) a) (∀ a,N<=a->Q
 false a)))))):xR Q N0 n3 y0 N:=
  hE (H:=tj) (by kernel_rfl) h
theorem uN (Q:QT [.bool]) (N0:Nat) (n3:Int) (y0:D) (N:Nat) (h :
∃ a d,∃ c:Nat,(y0.cell 8)=D.sl a 9 d c/\Br (decide (n3<(d.length:Int))) (∃ a c,∃ d:Nat,(y0.cell 8)=D.sl a 9 c d/\(0<=n3/\n3
 < (c.length:Int))/\∀ a,N<=a->ACalls prog 46 [.bool] [.dg 9 (List.getD c n3.toNat default)] a (fun b c=>a<=c->Br (!b) (∀ a,c<=a
 -> Q false a) (xE Q N0 (IntKind.i64.wrap (n3+1)) y0 c))) (∀ a,N<=a->ACalls prog 106 [.bool] [.dg 9 y0] a (fun b c=>a<=c->Br
 b (∃ a b,∃ d:Nat,(y0.cell 8)=D.sl a 9 b d/\∀ a,c<=a->ACalls prog 107 [.int .i64] [.dg 9 y0] a (fun n c=>a<=c->∀ a,
 c<=a->Q ((b.length:Int)==n) a)) (∀ a,c<=a->Q false a)))):xE Q N0 n3 y0 N:=
  hE (H:=tX) (by kernel_rfl) h
theorem uP (Q:QT [.ag 2]) (N0:Nat) (n4:Int) (y0:D) (n1_0:Int) (a1_1:Option Addr) (e1_1:List D) (c1_1:Nat) (n2_0:Int) (a2_1:Option Addr) (e2_1:List D) (c2_1:Nat) (N:Nat) (h :
∃ a b,∃ c:Nat,(y0.cell 1)=D.sl a 2 b c/\Br (decide (n4<(b.length:Int))) (∃ a b,∃ c:Nat,(y0.cell 1)=D.sl a 2 b c/\(0<=n4/\n4
 < (b.length:Int))/\∀ a,N<=a->ACalls prog 141 [.ag 2] [.dg 2 (List.getD b n4.toNat default)] a (fun x b=>a<=b->Bel b x->zJl a2_1 e2_1
 c2_1 [x]/\zC e2_1 [x] 32/\∀ (a:Nat),yK Q N0 (IntKind.i64.wrap (n4+1)) y0 n1_0 a1_1 e1_1 c1_1 n2_0 (e2_1++[x]).length a (e2_1 ++
 [x]) a b)) (∀ a,N<=a->Q (D.ag [D.lit (.int .i64 n2_0),D.sl a2_1 2 e2_1 c2_1]) a)):wN Q N0 n4 y0 n1_0 a1_1 e1_1 c1_1 n2_0 a2_1 e2_1 c2_1 N:=
  hE (H:=vP) (by kernel_rfl) h
theorem wb (Q:QT [.ag 2]) (N0:Nat) (n4:Int) (y0:D) (n1_0:Int) (a1_1:Option Addr) (e1_1:List D) (c1_1:Nat) (n2_0:Int) (m2_1 c2_1:Nat) (r3:List D) (q3:Nat) (N:Nat) (h :
∃ a b,∃ c:Nat,(y0.cell 1)=D.sl a 2 b c/\Br (decide (n4<(b.length:Int))) (∃ a b,∃ c:Nat,(y0.cell 1)=D.sl a 2 b c/\(0<=n4/\n4
 < (b.length:Int))/\∀ a,N<=a->ACalls prog 141 [.ag 2] [.dg 2 (List.getD b n4.toNat default)] a (fun x b=>a<=b->Bel b x->(m2_1=r3.length
 /\ c2_1=q3)/\zC r3 [x] 32/\∀ (a:Nat),yK Q N0 (IntKind.i64.wrap (n4+1)) y0 n1_0 a1_1 e1_1 c1_1 n2_0 (r3++[x]).length a (r3++[x])
 a b)) ((m2_1=r3.length/\c2_1=q3)/\(m2_1=r3.length/\c2_1=q3)/\(m2_1=r3.length/\c2_1=q3)/\∀ a b,N<=b->Fresh N0 b a [D.ag r3]->∀
 c,b<=c->Q (D.ag [D.lit (.int .i64 n2_0),D.sl a 2 r3 q3]) c)):yK Q N0 n4 y0 n1_0 a1_1 e1_1 c1_1 n2_0 m2_1 c2_1 r3 q3 N:=
  hE (H:=vP) (by kernel_rfl) h
end Go.Proofs.YtmfjakahanbnlaaGreatDoor
