/- Printed by gen.py: what the functions come to. -/
import Derived.Test.YtmfjakahanbnlaaGreatDoorJh
set_option linter.unusedVariables false
set_option maxRecDepth 100000
namespace Go.Proofs.YtmfjakahanbnlaaGreatDoor
open Go Go.Proofs Go.Proofs.Tryz
def zKz:Hint:=⟨[],[],[]⟩
def pz:Hint:=⟨[hc 2 [0,3]],[],[]⟩
def zAM:Hint:=⟨[hc 3 [1,2,5]],[],[(5,hs 8 [ec 6 [23]])]⟩
def zJn:Hint:=⟨[],[],[]⟩
def tE:Hint:=⟨[hc 3 [1,3,4]],[],[(5,hs 9 [ec 6 [17]])]⟩
def zBH:Hint:=⟨[hc 2 [1,3]],[],[(4,hs 7 [ec 5 [15]])]⟩
def zAY:Hint:=⟨[],[],[(1,hs 13 [ec 1 [3],ec 5 [7],ec 10 [12]])]⟩
def zIO:Hint:=⟨[],[],[]⟩
def zGC:Hint:=⟨[],[],[]⟩
def zFX:Hint:=⟨[],[],[]⟩
def zEJ:Hint:=⟨[],[],[(2,hs 15 [ec 3 [15],ec 11 [23]]),(4,[en 0,en 1,en 2,en 3,en 4,ec 5 [32],en 6,en 7,en 8,en 9,en 10,en 11,en 12,en 13,ec 14 [41],en 15,en 16,en 17]),(12,hs 9 [ec 6 [57]])]⟩
def zFq:Hint:=⟨[],[],[]⟩
def zAB:Hint:=⟨[hc 2 [1,3]],[],[(4,hs 7 [ec 5 [15]]),(6,[en 0,ec 1 [18],en 2,en 3,en 4,en 5,en 6,ec 7 [24],en 8,en 9,en 10])]⟩
def zIT:Hint:=⟨[],[],[]⟩
def zEa:Hint:=⟨[hc 4 [1,2,5]],[],[(6,[en 0,en 1,en 2,en 3,en 4,en 5,en 6,ec 7 [21],ec 8 [20],en 9])]⟩
def zDd:Hint:=⟨[],[],[(1,hs 8 [ec 1 [5],ec 5 [8]])]⟩
def zAf:Hint:=⟨[hc 2 [0,1,5]],[],[]⟩
def sF:Hint:=⟨[hc 3 [1,2,3,4]],[],[(5,[en 0,en 1,en 2,en 3,en 4,en 5,en 6,ec 7 [21],en 8,eh 9,en 10,eh 11])]⟩
def zJW:Hint:=⟨[],[],[]⟩
def zIF:Hint:=⟨[],[],[]⟩
def zIG:Hint:=⟨[],[],[]⟩
def zJs:Hint:=⟨[],[],[(1,[en 0,en 2,ec 1 [5],ec 3 [7],en 4,en 5,eh 6])]⟩
def sZ:Hint:=⟨[hc 4 [2,3,5]],[],[(6,[en 0,en 1,en 2,en 3,en 4,en 5,en 6,en 7,en 8,en 9,ec 10 [31,36],en 11])]⟩
def zHm:Hint:=⟨[],[],[]⟩
def q9:Hint:=⟨[hc 3 [0,1,5,6] [(5,243,4)]],[],[(5,hs 26 [ec 5 [18]]),(6,[en 0,en 1,en 2,en 3,en 4,en 5,en 6,en 7,en 8,en 9,en 10,en 12,en 13,en 14,en 15,en 16,ec 11 [50],en 17,en 18,eh 19,eh 20])]⟩
def zHM:Hint:=⟨[],[],[(1,hs 5 [ec 1 [3]])]⟩
def yi (Q:QT [.bool]) (N0:Nat) (I:ByteArray) (J:Int) (N:Nat):Prop:=AT prog 233 [.bool] Q N0 .ord (zC prog 233 2) ⟨.str I::an 2 (.int .i64 J::an 58 []),[],N,none⟩
def wk (Q:QT [.int .i64]) (N0:Nat) (n1 I:Int) (J:D) (N:Nat):Prop:=AT prog 230 [.int .i64] Q N0 .ord (zC prog 230 3) ⟨an 1 (.int .i64 n1::.pb 0 0 0 0::an 2 (.int .i64 I::an 21 [])),[.vd J 2],N,none⟩
def yd (Q:QT [.int .i64]) (N0:Nat) (I J:Int) (O:D) (N:Nat):Prop:=AT prog 231 [.int .i64] Q N0 .ord (zC prog 231 3) ⟨an 1 (.pb 0 0 0 0::an 1 (.int .i64 I::.int .i64 J::an 17 [])),[.vd O 2],N,none⟩
def wP (Q:QT [.bool]) (N0:Nat) (I:Int) (J:D) (N:Nat):Prop:=AT prog 232 [.bool] Q N0 .ord (zC prog 232 2) ⟨an 1 (.pb 0 0 0 0::an 1 (.int .i64 I::an 35 [])),[.vd J 2],N,none⟩
def wb (Q:QT [.bool]) (N0:Nat) (I:Int) (J:D) (N:Nat):Prop:=AT prog 46 [.bool] Q N0 .ord (zC prog 46 2) ⟨an 1 (.pb 0 0 0 0::an 1 (.int .i64 I::an 24 [])),[.vd J 9],N,none⟩
def vl (Q:QT [.bool]) (N0:Nat) (n1 I:Int) (J:D) (N:Nat):Prop:=AT prog 140 [.bool] Q N0 .ord (zC prog 140 4) ⟨an 1 (.int .i64 n1::.pb 0 0 0 0::an 2 (.int .i64 I::an 20 [])),[.vd J 9],N,none⟩
def we (Q:QT [.int .i64]) (N0:Nat) (a0:Option Addr) (e0:List D) (c0:Nat) (I:ByteArray) (J:Int) (N:Nat):Prop:=AT prog 259 [.int .i64] Q N0 .ord (zC prog 259 2) ⟨.sv a0 4 e0 c0::.str I::an 3 (.int .i64 J::an 15 []),[],N,none⟩
def uV (Q:QT [.ag 2]) (N0:Nat) (n4:Int) (y0:D) (I:Int) (J:Option Addr) (O:List D) (U:Nat) (Y:Int) (aa:Option Addr) (ab:List D) (ac:Nat) (N:Nat):Prop:=AT prog 141 [.ag 2] Q N0 .ord (zC prog 141 3) ⟨an 1 (.pb 0 0 0 0::.pb 1 0 0 0::.pb 2 0 0 0::.int .i64 n4::an 22 []),[.vd y0 2,.var [.int .i64 I,.sv J 2 O U],.var [.int .i64 Y,.sv aa 2 ab ac]],N,none⟩
def yW (Q:QT [.bool]) (N0:Nat) (I:Int) (J O:D) (N:Nat):Prop:=AT prog 100 [.bool] Q N0 .ord (zC prog 100 4) ⟨an 2 (.pb 0 0 0 0::.pb 1 0 0 0::an 1 (.int .i64 I::an 33 [])),[.vd J 2,.vd O 2],N,none⟩
def yA (Q:QT [.sl 4]) (N0:Nat) (a0:Option Addr) (e0:List D) (c0:Nat) (n1:Int) (I J:Nat) (O:Int) (r0:List D) (U:Nat) (N:Nat):Prop:=AT prog 263 [.sl 4] Q N0 .ord (zC prog 263 3) ⟨.sv a0 4 e0 c0::.int .i64 n1::an 3 (.sb 0 4 0 I J::.int .i64 O::an 54 []),[.arr 243 4 r0 U],N,none⟩
def xQ (Q:QT [.ag 2]) (N0:Nat) (n4:Int) (y0:D) (I:Int) (J:Option Addr) (O:List D) (U:Nat) (Y:Int) (aa ab:Nat) (r3:List D) (q3:Nat) (N:Nat):Prop:=AT prog 141 [.ag 2] Q N0 .ord (zC prog 141 3) ⟨an 1 (.pb 0 0 0 0::.pb 1 0 0 0::.pb 2 0 0 0::.int .i64 n4::an 22 []),[.vd y0 2,.var [.int .i64 I,.sv J 2 O U],.var [.int .i64 Y,.sb 3 2 0 aa ab],.arr 32 2 r3 q3],N,none⟩
theorem zKp (N:Nat) (n0 n1 I:Int) (Q:QT [.bool]) (h :
Br (decide (n0≥n1)) (∀ a,N<=a->Q (decide (n0<=I)) a) (∀ a,N<=a->Q false a)):ACalls prog 63 [.bool] [PV.int .i64 n0,PV.int .i64 n1,PV.int .i64 I] N Q:=
 eE (H:=zKz) (by kernel_rfl) (by kernel_rfl) h
theorem zHT (N:Nat) (I:ByteArray) (Q:QT [.bool]) (h :
yi Q N I 0 N):ACalls prog 233 [.bool] [PV.str I] N Q:=
 eE (H:=pz) (by kernel_rfl) (by kernel_rfl) h
theorem zHz (N:Nat) (I:D) (n1:Int) (Q:QT [.int .i64]) (h :
Bel N I->wk Q N (IntKind.i64.wrap (n1 - 1)) 0 I N):ACalls prog 230 [.int .i64] [PV.dg 2 I,PV.int .i64 n1] N Q:=
 eE (H:=zAM) (by kernel_rfl) (by kernel_rfl) h
theorem zJM (N:Nat) (n0 n1:Int) (Q:QT [.int .i64]) (h :
Br (decide (n0>n1)) (∀ a,N<=a->Q n0 a) (∀ a,N<=a->Q n1 a)):ACalls prog 274 [.int .i64] [PV.int .i64 n0,PV.int .i64 n1] N Q:=
 eE (H:=zJn) (by kernel_rfl) (by kernel_rfl) h
theorem zAy (N:Nat) (I:D) (Q:QT [.int .i64]) (h :
Bel N I->yd Q N 0 0 I N):ACalls prog 231 [.int .i64] [PV.dg 2 I] N Q:=
 eE (H:=tE) (by kernel_rfl) (by kernel_rfl) h
theorem zHt (N:Nat) (I:D) (Q:QT [.bool]) (h :
Bel N I->wP Q N 0 I N):ACalls prog 232 [.bool] [PV.dg 2 I] N Q:=
 eE (H:=zBH) (by kernel_rfl) (by kernel_rfl) h
theorem zAn (N:Nat) (I:D) (Q:QT [.bool]) (h :
Bel N I->∀ a,N<=a->ACalls prog 230 [.int .i64] [.dg 2 I,.int .i64 30] a (λn c=>a<=c->Br (decide (n≥0)) (∀ a,c<=a->ACalls prog
 231 [.int .i64] [.dg 2 I] a (λc d=>a<=d->Br (decide (c<=8)) (∀ a,d<=a->ACalls prog 232 [.bool] [.dg 2 I] a (λb c=>a<=c
 -> ∀ a,c<=a->Q b a)) (∀ a,d<=a->Q false a))) (∀ a,c<=a->Q false a))):ACalls prog 167 [.bool] [PV.dg 2 I] N Q:=
  eE (H:=zAY) (by kernel_rfl) (by kernel_rfl) h
theorem zIB (N:Nat) (I:D) (Q:QT [.bool]) (h :
Bel N I->∃ n:Int,(I.cell 0)=D.lit (.int .i64 n)/\Br (n==0) (∃ a b,∃ c:Nat,(I.cell 1)=D.sl a 2 b c/\∀ a,N<=a->Q ((b.length:Int) ==
 0) a) (∀ a,N<=a->Q false a)):ACalls prog 168 [.bool] [PV.dg 2 I] N Q:=
  eE (H:=zIO) (by kernel_rfl) (by kernel_rfl) h
theorem zFj (N:Nat) (I:ByteArray) (Q:QT [.int .i64]) (h :
Br (ByteArray.toList I==ByteArray.toList (bytes [43])) (∀ a,N<=a->Q 2 a) (Br (ByteArray.toList I==ByteArray.toList (bytes [45])) (∀ a,N<=a ->
 Q 2 a) (Br (ByteArray.toList I==ByteArray.toList (bytes [42])) (∀ a,N<=a->Q 2 a) (Br (ByteArray.toList I==ByteArray.toList (bytes [61])) (∀ a,
 N<=a->Q 2 a) (Br (ByteArray.toList I==ByteArray.toList (bytes [60])) (∀ a,N<=a->Q 2 a) (Br (ByteArray.toList I==ByteArray.toList (bytes [38]))
 (∀ a,N<=a->Q 2 a) (Br (ByteArray.toList I==ByteArray.toList (bytes [124])) (∀ a,N<=a->Q 2 a) (Br (ByteArray.toList I==ByteArray.toList (bytes
 [33])) (∀ a,N<=a->Q 1 a) (∀ a,N<=a->Q 0 a))))))))):ACalls prog 170 [.int .i64] [PV.str I] N Q:=
  eE (H:=zGC) (by kernel_rfl) (by kernel_rfl) h
theorem zFW (N:Nat) (I:D) (Q:QT [.bool]) (h :
Bel N I->∃ n:Int,(I.cell 0)=D.lit (.int .i64 n)/\Br (n==4) (∃ s,(I.cell 1)=D.lit (.string s)/\∀ a,N<=a->ACalls prog 170 [.int .i64] [.str
 s] a (λb c=>a<=c->Br (decide (b>0)) (∃ a,(I.cell 2)=D.lit (.string a)/\∀ b,c<=b->Q (ByteArray.toList a==ByteArray.toList
 (bytes [])) b) (∀ a,c<=a->Q false a))) (Br (n==1) (∃ a,(I.cell 1)=D.lit (.string a)/\∀ c,N<=c->ACalls prog 233 [.bool] [.str a]
 c (λb a=>c<=a->Br b (∃ b,(I.cell 2)=D.lit (.string b)/\∀ c,a<=c->Q (ByteArray.toList b==ByteArray.toList (bytes [])) c) (∀
 b,a<=b->Q false b))) (Br (n==6) (∃ a,(I.cell 1)=D.lit (.string a)/\∀ b,N<=b->ACalls prog 233 [.bool] [.str a] b (λa c=>
 b<=c->Br a (∃ a,(I.cell 2)=D.lit (.string a)/\∀ b,c<=b->Q (ByteArray.toList a==ByteArray.toList (bytes [])) b) (∀ a,c
 <= a->Q false a))) (Br (n==8) (∃ a,(I.cell 1)=D.lit (.string a)/\∀ b,N<=b->ACalls prog 233 [.bool] [.str a] b (λa c=>b
 <= c->Br a (∃ a,(I.cell 2)=D.lit (.string a)/\∀ b,c<=b->Q (ByteArray.toList a==ByteArray.toList (bytes [])) b) (∀ a,c<=a
 -> Q false a))) (Br (n==9) (∃ a,(I.cell 1)=D.lit (.string a)/\∀ b,N<=b->ACalls prog 233 [.bool] [.str a] b (λa c=>b<=c
 -> Br a (∃ a,(I.cell 2)=D.lit (.string a)/\∀ b,c<=b->ACalls prog 233 [.bool] [.str a] b (λa c=>b<=c->Br a (∃ a,
 (I.cell 1)=D.lit (.string a)/\∃ b,(I.cell 2)=D.lit (.string b)/\∀ d,c<=d->Q (!(ByteArray.toList a==ByteArray.toList b)) d)
 (∀ a,c<=a->Q false a))) (∀ a,c<=a->Q false a))) (∃ a,(I.cell 1)=D.lit (.string a)/\Br (ByteArray.toList a==ByteArray.toList
 (bytes [])) (∃ a,(I.cell 2)=D.lit (.string a)/\∀ b,N<=b->Q (ByteArray.toList a==ByteArray.toList (bytes [])) b) (∀ a,N<=a->Q
 false a))))))):ACalls prog 169 [.bool] [PV.dg 9 I] N Q:=
  eE (H:=zFX) (by kernel_rfl) (by kernel_rfl) h
theorem zDi (N:Nat) (I:D) (Q:QT [.bool]) (h :
Bel N I->∃ n:Int,(I.cell 0)=D.lit (.int .i64 n)/\Br (n==6) (∀ a,N<=a->ACalls prog 167 [.bool] [.dg 2 (D.sub I 4 2)] a (λb c=>a<=c
 -> Br (!(true==b)) (∀ a,c<=a->Q false a) (∃ a:Int,(I.cell 0)=D.lit (.int .i64 a)/\∀ b,c<=b->ACalls prog 167 [.bool] [.dg 2 (D.sub
 I 6 2)] b (λc d=>b<=d->Br (!((a==9)==c)) (∀ a,d<=a->Q false a) (∃ a:Int,(I.cell 0)=D.lit (.int .i64 a)/\Br (bne a
 9) (∀ a,d<=a->ACalls prog 168 [.bool] [.dg 2 (D.sub I 6 2)] a (λb c=>a<=c->Br (!b) (∀ a,c<=a->Q false a) (∃ a:Int,(I.cell
 0)=D.lit (.int .i64 a)/\Br (a==2) (∃ a:Int,(I.cell 3)=D.lit (.int .i64 a)/\∀ b,c<=b->ACalls prog 63 [.bool] [.int .i64 a,.int .i64
 0,.int .i64 10006] b (λa c=>b<=c->Br a (∀ a,c<=a->ACalls prog 169 [.bool] [.dg 9 I] a (λb c=>a<=c->∀ a,
 c<=a->Q b a)) (∀ a,c<=a->Q false a))) (Br (a==3) (∃ a:Int,(I.cell 3)=D.lit (.int .i64 a)/\∀ b,c<=b->ACalls
 prog 63 [.bool] [.int .i64 a,.int .i64 0,.int .i64 1] b (λa c=>b<=c->Br a (∀ a,c<=a->ACalls prog 169 [.bool] [.dg 9 I] a
 (λb c=>a<=c->∀ a,c<=a->Q b a)) (∀ a,c<=a->Q false a))) (∃ a:Int,(I.cell 3)=D.lit (.int .i64 a)/\∀ b,
 c<=b->ACalls prog 63 [.bool] [.int .i64 a,.int .i64 0,.int .i64 0] b (λa c=>b<=c->Br a (∀ a,c<=a->ACalls prog 169 [.bool]
 [.dg 9 I] a (λb c=>a<=c->∀ a,c<=a->Q b a)) (∀ a,c<=a->Q false a))))))) (∃ a:Int,(I.cell 0)=D.lit (.int
 .i64 a)/\Br (a==2) (∃ a:Int,(I.cell 3)=D.lit (.int .i64 a)/\∀ b,d<=b->ACalls prog 63 [.bool] [.int .i64 a,.int .i64 0,.int .i64
 10006] b (λa c=>b<=c->Br a (∀ a,c<=a->ACalls prog 169 [.bool] [.dg 9 I] a (λb c=>a<=c->∀ a,c<=a
 -> Q b a)) (∀ a,c<=a->Q false a))) (Br (a==3) (∃ a:Int,(I.cell 3)=D.lit (.int .i64 a)/\∀ b,d<=b->ACalls prog 63 [.bool]
 [.int .i64 a,.int .i64 0,.int .i64 1] b (λa c=>b<=c->Br a (∀ a,c<=a->ACalls prog 169 [.bool] [.dg 9 I] a (λb c
 => a<=c->∀ a,c<=a->Q b a)) (∀ a,c<=a->Q false a))) (∃ a:Int,(I.cell 3)=D.lit (.int .i64 a)/\∀ b,d<=b
 -> ACalls prog 63 [.bool] [.int .i64 a,.int .i64 0,.int .i64 0] b (λa c=>b<=c->Br a (∀ a,c<=a->ACalls prog 169 [.bool] [.dg
 9 I] a (λb c=>a<=c->∀ a,c<=a->Q b a)) (∀ a,c<=a->Q false a)))))))))) (∃ a:Int,(I.cell 0)=D.lit (.int
 .i64 a)/\∀ b,N<=b->ACalls prog 167 [.bool] [.dg 2 (D.sub I 4 2)] b (λc d=>b<=d->Br (!((a==9)==c)) (∀ a,d<=a
 -> Q false a) (Br (!(a==9)) (∀ a,d<=a->ACalls prog 168 [.bool] [.dg 2 (D.sub I 4 2)] a (λb c=>a<=c->Br (!b) (∀ a,
 c<=a->Q false a) (∃ a:Int,(I.cell 0)=D.lit (.int .i64 a)/\∀ b,c<=b->ACalls prog 167 [.bool] [.dg 2 (D.sub I 6 2)] b (fun
 c d=>b<=d->Br (!((a==9)==c)) (∀ a,d<=a->Q false a) (∃ a:Int,(I.cell 0)=D.lit (.int .i64 a)/\Br (bne a 9)
 (∀ a,d<=a->ACalls prog 168 [.bool] [.dg 2 (D.sub I 6 2)] a (λb c=>a<=c->Br (!b) (∀ a,c<=a->Q false a) (∃ a
 : Int,(I.cell 0)=D.lit (.int .i64 a)/\Br (a==2) (∃ a:Int,(I.cell 3)=D.lit (.int .i64 a)/\∀ b,c<=b->ACalls prog 63 [.bool] [.int
 .i64 a,.int .i64 0,.int .i64 10006] b (λa c=>b<=c->Br a (∀ a,c<=a->ACalls prog 169 [.bool] [.dg 9 I] a (λb c
 => a<=c->∀ a,c<=a->Q b a)) (∀ a,c<=a->Q false a))) (Br (a==3) (∃ a:Int,(I.cell 3)=D.lit (.int .i64 a) /\
 ∀ b,c<=b->ACalls prog 63 [.bool] [.int .i64 a,.int .i64 0,.int .i64 1] b (λa c=>b<=c->Br a (∀ a,c<=a->ACalls
 prog 169 [.bool] [.dg 9 I] a (λb c=>a<=c->∀ a,c<=a->Q b a)) (∀ a,c<=a->Q false a))) (∃ a:Int,(I.cell
 3)=D.lit (.int .i64 a)/\∀ b,c<=b->ACalls prog 63 [.bool] [.int .i64 a,.int .i64 0,.int .i64 0] b (λa c=>b<=c->Br a
 (∀ a,c<=a->ACalls prog 169 [.bool] [.dg 9 I] a (λb c=>a<=c->∀ a,c<=a->Q b a)) (∀ a,c<=a->Q false
 a))))))) (∃ a:Int,(I.cell 0)=D.lit (.int .i64 a)/\Br (a==2) (∃ a:Int,(I.cell 3)=D.lit (.int .i64 a)/\∀ b,d<=b->ACalls
 prog 63 [.bool] [.int .i64 a,.int .i64 0,.int .i64 10006] b (λa c=>b<=c->Br a (∀ a,c<=a->ACalls prog 169 [.bool] [.dg 9
 I] a (λb c=>a<=c->∀ a,c<=a->Q b a)) (∀ a,c<=a->Q false a))) (Br (a==3) (∃ a:Int,(I.cell 3) =
 D.lit (.int .i64 a)/\∀ b,d<=b->ACalls prog 63 [.bool] [.int .i64 a,.int .i64 0,.int .i64 1] b (λa c=>b<=c->Br a (∀
 a,c<=a->ACalls prog 169 [.bool] [.dg 9 I] a (λb c=>a<=c->∀ a,c<=a->Q b a)) (∀ a,c<=a->Q false a)))
 (∃ a:Int,(I.cell 3)=D.lit (.int .i64 a)/\∀ b,d<=b->ACalls prog 63 [.bool] [.int .i64 a,.int .i64 0,.int .i64 0] b (λa c
 => b<=c->Br a (∀ a,c<=a->ACalls prog 169 [.bool] [.dg 9 I] a (λb c=>a<=c->∀ a,c<=a->Q b a)) (∀ a,
 c<=a->Q false a)))))))))) (∃ a:Int,(I.cell 0)=D.lit (.int .i64 a)/\∀ b,d<=b->ACalls prog 167 [.bool] [.dg 2 (D.sub I 6 2)] b
 (λc d=>b<=d->Br (!((a==9)==c)) (∀ a,d<=a->Q false a) (∃ a:Int,(I.cell 0)=D.lit (.int .i64 a)/\Br (bne a
 9) (∀ a,d<=a->ACalls prog 168 [.bool] [.dg 2 (D.sub I 6 2)] a (λb c=>a<=c->Br (!b) (∀ a,c<=a->Q false a) (∃
 a:Int,(I.cell 0)=D.lit (.int .i64 a)/\Br (a==2) (∃ a:Int,(I.cell 3)=D.lit (.int .i64 a)/\∀ b,c<=b->ACalls prog 63 [.bool]
 [.int .i64 a,.int .i64 0,.int .i64 10006] b (λa c=>b<=c->Br a (∀ a,c<=a->ACalls prog 169 [.bool] [.dg 9 I] a
 (λb c=>a<=c->∀ a,c<=a->Q b a)) (∀ a,c<=a->Q false a))) (Br (a==3) (∃ a:Int,(I.cell 3)
 = D.lit (.int .i64 a)/\∀ b,c<=b->ACalls prog 63 [.bool] [.int .i64 a,.int .i64 0,.int .i64 1] b (λa c=>b<=c->Br
 a (∀ a,c<=a->ACalls prog 169 [.bool] [.dg 9 I] a (λb c=>a<=c->∀ a,c<=a->Q b a)) (∀ a,c
 <= a->Q false a))) (∃ a:Int,(I.cell 3)=D.lit (.int .i64 a)/\∀ b,c<=b->ACalls prog 63 [.bool] [.int .i64 a,.int .i64 0,.int
 .i64 0] b (λa c=>b<=c->Br a (∀ a,c<=a->ACalls prog 169 [.bool] [.dg 9 I] a (λb c=>a<=c->∀
 a,c<=a->Q b a)) (∀ a,c<=a->Q false a))))))) (∃ a:Int,(I.cell 0)=D.lit (.int .i64 a)/\Br (a==2) (∃ a
 : Int,(I.cell 3)=D.lit (.int .i64 a)/\∀ b,d<=b->ACalls prog 63 [.bool] [.int .i64 a,.int .i64 0,.int .i64 10006] b (λa c
 => b<=c->Br a (∀ a,c<=a->ACalls prog 169 [.bool] [.dg 9 I] a (λb c=>a<=c->∀ a,c<=a->Q b
 a)) (∀ a,c<=a->Q false a))) (Br (a==3) (∃ a:Int,(I.cell 3)=D.lit (.int .i64 a)/\∀ b,d<=b->ACalls prog 63 [.bool]
 [.int .i64 a,.int .i64 0,.int .i64 1] b (λa c=>b<=c->Br a (∀ a,c<=a->ACalls prog 169 [.bool] [.dg 9 I] a (fun
 b c=>a<=c->∀ a,c<=a->Q b a)) (∀ a,c<=a->Q false a))) (∃ a:Int,(I.cell 3)=D.lit (.int .i64 a)
 /\ ∀ b,d<=b->ACalls prog 63 [.bool] [.int .i64 a,.int .i64 0,.int .i64 0] b (λa c=>b<=c->Br a (∀ a,c<=a
 -> ACalls prog 169 [.bool] [.dg 9 I] a (λb c=>a<=c->∀ a,c<=a->Q b a)) (∀ a,c<=a->Q false a))))))))))) 
 ):ACalls prog 106 [.bool] [PV.dg 9 I] N Q:=
  eE (H:=zEJ) (by kernel_rfl) (by kernel_rfl) h
theorem zFx (N:Nat) (x0:D) (Q:QT [.int .i64]) (h :
Bel N x0->∃ n:Int,(x0.cell 0)=D.lit (.int .i64 n)/\Br (n==1) (∀ a,N<=a->Q 0 a) (Br (n==2) (∀ a,N<=a->Q 0 a) (Br (n==3) (∀ a,N <=
 a->Q 0 a) (Br (n==4) (∃ s,(x0.cell 1)=D.lit (.string s)/\∀ a,N<=a->ACalls prog 170 [.int .i64] [.str s] a (fun b c=>a<=c->∀ a,
 c<=a->Q b a)) (Br (n==6) (∀ a,N<=a->Q 1 a) (Br (n==9) (∀ a,N<=a->Q 1 a) (Br (n==10) (∀ a,N<=a->Q 1 a) (Br (n==11) (∀
 a,N<=a->Q 1 a) (Br (n==12) (∀ a,N<=a->Q 1 a) (Br (n==13) (∀ a,N<=a->Q 1 a) (Br (n==7) (∀ a,N<=a->Q 2 a) (Br
 (n==8) (∀ a,N<=a->Q 2 a) (Br (n==5) (∀ a,N<=a->Q 3 a) (∀ a,N<=a->Q (-1) a)))))))))))))):ACalls prog 107 [.int .i64] [PV.dg 9 x0] N Q:=
  eE (H:=zFq) (by kernel_rfl) (by kernel_rfl) h
theorem zIy (N:Nat) (I:D) (Q:QT [.bool]) (h :
Bel N I->wb Q N 0 I N):ACalls prog 46 [.bool] [PV.dg 9 I] N Q:=
 eE (H:=zAB) (by kernel_rfl) (by kernel_rfl) h
theorem zAi (N:Nat) (x0:D) (n1:Int) (Q:QT [.int .i64]) (h :
Bel N x0->∃ n:Int,(x0.cell 0)=D.lit (.int .i64 n)/\Br (n==10) (∀ a,N<=a->Q (IntKind.i64.wrap (n1+1)) a) (Br (n==11) (∀ a,N<=a->Q (IntKind.i64.wrap
 (n1 - 1)) a) (∀ a,N<=a->Q n1 a))):ACalls prog 204 [.int .i64] [PV.dg 9 x0,PV.int .i64 n1] N Q:=
  eE (H:=zIT) (by kernel_rfl) (by kernel_rfl) h
theorem zK3 (N:Nat) (x0:D) (n1:Int) (Q:QT [.bool]) (h :
Bel N x0->∀ a,N<=a->ACalls prog 63 [.bool] [.int .i64 n1,.int .i64 0,.int .i64 2] a (fun b c=>a<=c->Br (!b) (∀ a,c<=a->Q false a)
 (vl Q N n1 0 x0 c))):ACalls prog 140 [.bool] [PV.dg 9 x0,PV.int .i64 n1] N Q:=
  eE (H:=zEa) (by kernel_rfl) (by kernel_rfl) h
theorem zEv (N:Nat) (I:D) (n1:Int) (Q:QT [.bool]) (h :
Bel N I->∀ a,N<=a->ACalls prog 46 [.bool] [.dg 9 I] a (λb c=>a<=c->Br b (∀ a,c<=a->ACalls prog 140 [.bool] [.dg 9 I,.int .i64
 n1] a (λb c=>a<=c->∀ a,c<=a->Q b a)) (∀ a,c<=a->Q false a))):ACalls prog 82 [.bool] [PV.dg 9 I,PV.int .i64 n1] N Q:=
  eE (H:=zDd) (by kernel_rfl) (by kernel_rfl) h
theorem zIP (N:Nat) (a0:Option Addr) (e0:List D) (c0:Nat) (I:ByteArray) (Q:QT [.int .i64]) (h :
Bel N (D.sl a0 4 e0 c0)->we Q N a0 e0 c0 I (IntKind.i64.wrap ((e0.length:Int) - 1)) N):ACalls prog 259 [.int .i64] [PV.sv a0 4 e0 c0,PV.str I] N Q:=
 eE (H:=zAf) (by kernel_rfl) (by kernel_rfl) h
theorem zIb (N:Nat) (I:D) (Q:QT [.ag 2]) (h :
Bel N I->∃ n:Int,(I.cell 0)=D.lit (.int .i64 n)/\uV Q N 0 I 0 Option.none [] 0 n Option.none [] 0 N):ACalls prog 141 [.ag 2] [PV.dg 2 I] N Q:=
 eE (H:=sF) (by kernel_rfl) (by kernel_rfl) h
theorem zKT (N:Nat)  (Q:QT [.ag 2]) (h :
∀ a,N<=a->Q (D.ag [D.lit (.int .i64 1),D.sl Option.none 2 [] 0]) a):ACalls prog 150 [.ag 2] [] N Q:=
  eE (H:=zJW) (by kernel_rfl) (by kernel_rfl) h
theorem zIZ (N:Nat)  (Q:QT [.ag 2]) (h :
∀ a,N<=a->Q (D.ag [D.lit (.int .i64 2),D.sl Option.none 2 [] 0]) a):ACalls prog 151 [.ag 2] [] N Q:=
  eE (H:=zIF) (by kernel_rfl) (by kernel_rfl) h
theorem zII (N:Nat) (a0:Option Addr) (e0:List D) (c0:Nat) (J:ByteArray) (I:D) (O:Int) (Q:QT [.sl 4]) (h :
Bel N (D.sl a0 4 e0 c0)->Bel N I->(0=0/\0=0)/\zB [] e0 56/\∀ (c:Nat),(([]++e0).length=([]++e0).length/\c=c)/\zB ([]++e0) [D.ag
 [D.lit (.string J),(I.cell 0),(I.cell 1),D.lit (.int .i64 O)]] 56/\∀ (b:Nat),(([]++e0++[D.ag [D.lit (.string J),(I.cell 0),(I.cell 1),D.lit
 (.int .i64 O)]]).length=([]++e0++[D.ag [D.lit (.string J),(I.cell 0),(I.cell 1),D.lit (.int .i64 O)]]).length/\b=b)/\(([]++e0++[D.ag [D.lit
 (.string J),(I.cell 0),(I.cell 1),D.lit (.int .i64 O)]]).length=([]++e0++[D.ag [D.lit (.string J),(I.cell 0),(I.cell 1),D.lit (.int .i64 O)]]).length
 /\ b=b)/\∀ a c,N<=c->Fresh N c a [D.ag ([]++e0++[D.ag [D.lit (.string J),(I.cell 0),(I.cell 1),D.lit (.int .i64 O)]])]->∀ d,c<=d
 -> Q a ([]++e0++[D.ag [D.lit (.string J),(I.cell 0),(I.cell 1),D.lit (.int .i64 O)]]) b d):ACalls prog 217 [.sl 4] [PV.sv a0 4 e0 c0,PV.str J,PV.dg 2 I,PV.int .i64 O] N Q:=
  eE (H:=zIG) (by kernel_rfl) (by kernel_rfl) h
theorem zCU (N:Nat) (I J:D) (Q:QT [.ag 2]) (h :
Bel N I->Bel N J->∀ b,N<=b->ACalls prog 141 [.ag 2] [.dg 2 I] b (λx c=>b<=c->Bel c x->∀ b,c<=b->ACalls prog 141 [.ag 2] [.dg
 2 J] b (λc d=>b<=d->Bel d c->(2=([x,c]).length/\2=2)/\(2=([x,c]).length/\2=2)/\(2=([x,c]).length/\2=2)/\∀ a b,
 d<=b->Fresh N b a [D.ag [x,c]]->∀ d,b<=d->Q (D.ag [D.lit (.int .i64 3),D.sl a 2 [x,c] 2]) d))):ACalls prog 153 [.ag 2] [PV.dg 2 I,PV.dg 2 J] N Q:=
  eE (H:=zJs) (by kernel_rfl) (by kernel_rfl) h
theorem zCZ (N:Nat) (x0 x1:D) (Q:QT [.bool]) (h :
Bel N x0->Bel N x1->∃ n:Int,(x0.cell 0)=D.lit (.int .i64 n)/\∃ b:Int,(x1.cell 0)=D.lit (.int .i64 b)/\Br (bne n b) (∀ a,N<=a->Q false
 a) (∃ a b,∃ c:Nat,(x0.cell 1)=D.sl a 2 b c/\∃ a c,∃ d:Nat,(x1.cell 1)=D.sl a 2 c d/\Br (bne (b.length:Int) (c.length:Int))
 (∀ a,N<=a->Q false a) (yW Q N 0 x0 x1 N))):ACalls prog 100 [.bool] [PV.dg 2 x0,PV.dg 2 x1] N Q:=
  eE (H:=sZ) (by kernel_rfl) (by kernel_rfl) h
theorem zHN (N:Nat) (I:D) (Q:QT [.bool]) (h :
Bel N I->∃ n:Int,(I.cell 0)=D.lit (.int .i64 n)/\Br (n==1) (∃ a b,∃ c:Nat,(I.cell 1)=D.sl a 2 b c/\∀ a,N<=a->Q ((b.length:Int) ==
 0) a) (∃ a:Int,(I.cell 0)=D.lit (.int .i64 a)/\Br (a==2) (∃ a b,∃ c:Nat,(I.cell 1)=D.sl a 2 b c/\∀ a,N<=a->Q ((b.length
 : Int)==0) a) (∀ a,N<=a->Q false a))):ACalls prog 218 [.bool] [PV.dg 2 I] N Q:=
  eE (H:=zHm) (by kernel_rfl) (by kernel_rfl) h
theorem zGB (N:Nat) (a0:Option Addr) (e0:List D) (c0:Nat) (n1:Int) (Q:QT [.sl 4]) (h :
Bel N (D.sl a0 4 e0 c0)->yA Q N a0 e0 c0 n1 0 0 0 [] 0 N):ACalls prog 263 [.sl 4] [PV.sv a0 4 e0 c0,PV.int .i64 n1] N Q:=
 eE (H:=q9) (by kernel_rfl) (by kernel_rfl) h
theorem zAG (N:Nat) (I:D) (Q:QT [.ag 2]) (h :
Bel N I->∀ b,N<=b->ACalls prog 141 [.ag 2] [.dg 2 I] b (λx c=>b<=c->Bel c x->(1=([x]).length/\1=1)/\(1=([x]).length/\1=1)
 /\ (1=([x]).length/\1=1)/\∀ a b,c<=b->Fresh N b a [D.ag [x]]->∀ c,b<=c->Q (D.ag [D.lit (.int .i64 4),D.sl a 2 [x] 1]) c)):ACalls prog 152 [.ag 2] [PV.dg 2 I] N Q:=
  eE (H:=zHM) (by kernel_rfl) (by kernel_rfl) h
theorem rL (Q:QT [.bool]) (N0:Nat) (J:ByteArray) (I:Int) (N:Nat) (h :
Br (decide (I<(J.size:Int))) ((0<=I/\I<(J.size:Int))/\Br (decide ((UInt8.toNat (Array.getD (ByteArray.data J) I.toNat (OfNat.ofNat 0)):Int) ≥
 97)) ((0<=I/\I<(J.size:Int))/\Br (!(decide ((UInt8.toNat (Array.getD (ByteArray.data J) I.toNat (OfNat.ofNat 0)):Int)<=122))) (Br (I==0) (∀ a,
 N<=a->Q false a) ((0<=I/\I<(J.size:Int))/\Br (decide ((UInt8.toNat (Array.getD (ByteArray.data J) I.toNat (OfNat.ofNat 0)):Int)<48)) (∀ a,
 N<=a->Q false a) ((0<=I/\I<(J.size:Int))/\Br (decide ((UInt8.toNat (Array.getD (ByteArray.data J) I.toNat (OfNat.ofNat 0)):Int)>57)) (∀ a,
 N<=a->Q false a) (yi Q N0 J (IntKind.i64.wrap (I+1)) N)))) (yi Q N0 J (IntKind.i64.wrap (I+1)) N)) (Br (I==0) (∀ a,
 N<=a->Q false a) ((0<=I/\I<(J.size:Int))/\Br (decide ((UInt8.toNat (Array.getD (ByteArray.data J) I.toNat (OfNat.ofNat 0)):Int)<48)) (∀ a,
 N<=a->Q false a) ((0<=I/\I<(J.size:Int))/\Br (decide ((UInt8.toNat (Array.getD (ByteArray.data J) I.toNat (OfNat.ofNat 0)):Int)>57)) (∀ a,
 N<=a->Q false a) (yi Q N0 J (IntKind.i64.wrap (I+1)) N))))) (∀ a,N<=a->ACalls prog 63 [.bool] [.int .i64 (J.size:Int),.int .i64
 1,.int .i64 4] a (λb c=>a<=c->Br b (Br (!(ByteArray.toList J==ByteArray.toList (bytes [105,102]))) (Br (!(ByteArray.toList J==ByteArray.toList
 (bytes [108,101,116]))) (Br (!(ByteArray.toList J==ByteArray.toList (bytes [114,101,99]))) (Br (!(ByteArray.toList J==ByteArray.toList (bytes [114,117,
 110]))) (∀ a,c<=a->Q (!(ByteArray.toList J==ByteArray.toList (bytes [108,105,102,116]))) a) (∀ a,c<=a->Q false a)) (∀ a,c <=
 a->Q false a)) (∀ a,c<=a->Q false a)) (∀ a,c<=a->Q false a)) (∀ a,c<=a->Q false a)))):yi Q N0 J I N:=
  hE (H:=pz) (by kernel_rfl) h
theorem rx (Q:QT [.int .i64]) (N0:Nat) (n1 I:Int) (J:D) (N:Nat) (h :
∃ a b,∃ c:Nat,(J.cell 1)=D.sl a 2 b c/\Br (decide (I<(b.length:Int))) (Br (decide (n1≥0)) (∃ a b,∃ c:Nat,(J.cell 1)=D.sl a 2 b
 c/\(0<=I/\I<(b.length:Int))/\∀ a,N<=a->ACalls prog 230 [.int .i64] [.dg 2 (List.getD b I.toNat default),.int .i64 n1] a (λn b=>
 a<=b->wk Q N0 n (IntKind.i64.wrap (I+1)) J b)) (∀ a,N<=a->Q n1 a)) (∀ a,N<=a->Q n1 a)):wk Q N0 n1 I J N:=
  hE (H:=zAM) (by kernel_rfl) h
theorem vi (Q:QT [.int .i64]) (N0:Nat) (O I:Int) (J:D) (N:Nat) (h :
∃ a b,∃ c:Nat,(J.cell 1)=D.sl a 2 b c/\Br (decide (I<(b.length:Int))) (∃ a b,∃ c:Nat,(J.cell 1)=D.sl a 2 b c/\(0<=I/\I
 < (b.length:Int))/\∀ a,N<=a->ACalls prog 231 [.int .i64] [.dg 2 (List.getD b I.toNat default)] a (λn b=>a<=b->∀ a,b<=a ->
 ACalls prog 274 [.int .i64] [.int .i64 O,.int .i64 n] a (λb c=>a<=c->yd Q N0 b (IntKind.i64.wrap (I+1)) J c))) (∀ a,
 N<=a->Q (IntKind.i64.wrap (O+1)) a)):yd Q N0 O I J N:=
  hE (H:=tE) (by kernel_rfl) h
theorem r7 (Q:QT [.bool]) (N0:Nat) (J:Int) (I:D) (N:Nat) (h :
∃ a d,∃ c:Nat,(I.cell 1)=D.sl a 2 d c/\Br (decide (J<(d.length:Int))) (∃ a c,∃ d:Nat,(I.cell 1)=D.sl a 2 c d/\(0<=J/\J
 < (c.length:Int))/\∀ a,N<=a->ACalls prog 232 [.bool] [.dg 2 (List.getD c J.toNat default)] a (λb c=>a<=c->Br (!b) (∀ a,c<=a
 -> Q false a) (wP Q N0 (IntKind.i64.wrap (J+1)) I c))) (∃ n:Int,(I.cell 0)=D.lit (.int .i64 n)/\Br (n==1) (∃ a b,∃ c:Nat,
 (I.cell 1)=D.sl a 2 b c/\∀ a,N<=a->Q ((b.length:Int)==0) a) (Br (n==2) (∃ a b,∃ c:Nat,(I.cell 1)=D.sl a 2 b c /\
 ∀ a,N<=a->Q ((b.length:Int)==0) a) (Br (n==3) (∃ a b,∃ c:Nat,(I.cell 1)=D.sl a 2 b c/\∀ a,N<=a->Q ((b.length :
 Int)==2) a) (Br (n==4) (∃ a b,∃ c:Nat,(I.cell 1)=D.sl a 2 b c/\∀ a,N<=a->Q ((b.length:Int)==1) a) (∀ a,N<=a->Q
 false a)))))):wP Q N0 J I N:=
  hE (H:=zBH) (by kernel_rfl) h
theorem rk (Q:QT [.bool]) (N0:Nat) (J:Int) (I:D) (N:Nat) (h :
∃ a d,∃ c:Nat,(I.cell 8)=D.sl a 9 d c/\Br (decide (J<(d.length:Int))) (∃ a c,∃ d:Nat,(I.cell 8)=D.sl a 9 c d/\(0<=J/\J
 < (c.length:Int))/\∀ a,N<=a->ACalls prog 46 [.bool] [.dg 9 (List.getD c J.toNat default)] a (λb c=>a<=c->Br (!b) (∀ a,c<=a
 -> Q false a) (wb Q N0 (IntKind.i64.wrap (J+1)) I c))) (∀ a,N<=a->ACalls prog 106 [.bool] [.dg 9 I] a (λb c=>a<=c->Br
 b (∃ a b,∃ d:Nat,(I.cell 8)=D.sl a 9 b d/\∀ a,c<=a->ACalls prog 107 [.int .i64] [.dg 9 I] a (λn c=>a<=c->∀ a,
 c<=a->Q ((b.length:Int)==n) a)) (∀ a,c<=a->Q false a)))):wb Q N0 J I N:=
  hE (H:=zAB) (by kernel_rfl) h
theorem zAd (Q:QT [.bool]) (N0:Nat) (n1 n5:Int) (y0:D) (N:Nat) (h :
∃ a d,∃ c:Nat,(y0.cell 8)=D.sl a 9 d c/\Br (decide (n5<(d.length:Int))) (∃ a c,∃ d:Nat,(y0.cell 8)=D.sl a 9 c d/\(0<=n5/\n5
 < (c.length:Int))/\∀ a,N<=a->ACalls prog 204 [.int .i64] [.dg 9 y0,.int .i64 n1] a (fun n d=>a<=d->∀ a,d<=a->ACalls prog 140 [.bool]
 [.dg 9 (List.getD c n5.toNat default),.int .i64 n] a (fun b c=>a<=c->Br (!b) (∀ a,c<=a->Q false a) (vl Q N0 n1 (IntKind.i64.wrap
 (n5+1)) y0 c)))) (∀ a,N<=a->Q true a)):vl Q N0 n1 n5 y0 N:=
  hE (H:=zEa) (by kernel_rfl) h
theorem rv (Q:QT [.int .i64]) (N0:Nat) (a0:Option Addr) (e0:List D) (c0:Nat) (J:ByteArray) (I:Int) (N:Nat) (h :
Br (decide (I≥0)) ((0<=I/\I<(e0.length:Int))/\∃ s,(if 0=0 then D.cell (List.getD e0 I.toNat default) 0 else D.sub (List.getD e0 I.toNat default)
 0 0)=D.lit (.string s)/\Br (ByteArray.toList s==ByteArray.toList J) (∀ a,N<=a->Q I a) (we Q N0 a0 e0 c0 J (IntKind.i64.wrap (I - 1))
 N)) (∀ a,N<=a->Q (-1) a)):we Q N0 a0 e0 c0 J I N:=
  hE (H:=zAf) (by kernel_rfl) h
theorem ri (Q:QT [.ag 2]) (N0:Nat) (n4:Int) (y0:D) (Y:Int) (aa:Option Addr) (ab:List D) (ac:Nat) (J:Int) (O:Option Addr) (I:List D) (U:Nat) (N:Nat) (h :
∃ a b,∃ c:Nat,(y0.cell 1)=D.sl a 2 b c/\Br (decide (n4<(b.length:Int))) (∃ a b,∃ c:Nat,(y0.cell 1)=D.sl a 2 b c/\(0<=n4/\n4
 < (b.length:Int))/\∀ a,N<=a->ACalls prog 141 [.ag 2] [.dg 2 (List.getD b n4.toNat default)] a (λx b=>a<=b->Bel b x->zRG O I
 U [x]/\zB I [x] 32/\∀ (a:Nat),xQ Q N0 (IntKind.i64.wrap (n4+1)) y0 Y aa ab ac J (I++[x]).length a (I ++
 [x]) a b)) (∀ a,N<=a->Q (D.ag [D.lit (.int .i64 J),D.sl O 2 I U]) a)):uV Q N0 n4 y0 Y aa ab ac J O I U N:=
  hE (H:=sF) (by kernel_rfl) h
theorem tH (Q:QT [.bool]) (N0:Nat) (I:Int) (J O:D) (N:Nat) (h :
∃ a d,∃ c:Nat,(J.cell 1)=D.sl a 2 d c/\Br (decide (I<(d.length:Int))) (∃ a c,∃ d:Nat,(J.cell 1)=D.sl a 2 c d/\(0<=I/\I
 < (c.length:Int))/\∃ a d,∃ e:Nat,(O.cell 1)=D.sl a 2 d e/\(0<=I/\I<(d.length:Int))/\∀ a,N<=a->ACalls prog 100 [.bool]
 [.dg 2 (List.getD c I.toNat default),.dg 2 (List.getD d I.toNat default)] a (λb c=>a<=c->Br (!b) (∀ a,c<=a->Q false a) (yW
 Q N0 (IntKind.i64.wrap (I+1)) J O c))) (∀ a,N<=a->Q true a)):yW Q N0 I J O N:=
  hE (H:=sZ) (by kernel_rfl) h
theorem sY (Q:QT [.sl 4]) (N0:Nat) (a0:Option Addr) (e0:List D) (c0:Nat) (n1:Int) (O U:Nat) (I:Int) (r0:List D) (J:Nat) (N:Nat) (h :
Br (decide (I<(e0.length:Int))) ((0<=I/\I<(e0.length:Int))/\∀ a,N<=a->ACalls prog 218 [.bool] [.dg 2 (if 2=0 then D.cell (List.getD e0 I.toNat
 default) 1 else D.sub (List.getD e0 I.toNat default) 1 2)] a (λb d=>a<=d->Br b ((0<=I/\I<(e0.length:Int))/\∃ n:Int,(if 0=0 then D.cell
 (List.getD e0 I.toNat default) 3 else D.sub (List.getD e0 I.toNat default) 3 0)=D.lit (.int .i64 n)/\Br (decide (n<=n1)) ((0<=I/\I<(e0.length:Int))
 /\ ∃ s,(if 0=0 then D.cell (List.getD e0 I.toNat default) 0 else D.sub (List.getD e0 I.toNat default) 0 0)=D.lit (.string s)/\∀ a,d<=a->ACalls prog
 259 [.int .i64] [.sv a0 4 e0 c0,.str s] a (λb d=>a<=d->Br (b==I) ((0<=I/\I<(e0.length:Int))/\∃ a,(if 0=0 then D.cell (List.getD
 e0 I.toNat default) 0 else D.sub (List.getD e0 I.toNat default) 0 0)=D.lit (.string a)/\(0<=I/\I<(e0.length:Int))/\(0<=I/\I<(e0.length:Int))
 /\ ∃ b:Int,(if 0=0 then D.cell (List.getD e0 I.toNat default) 3 else D.sub (List.getD e0 I.toNat default) 3 0)=D.lit (.int .i64 b)/\∀ e,d<=e
 -> ACalls prog 141 [.ag 2] [.dg 2 (if 2=0 then D.cell (List.getD e0 I.toNat default) 1 else D.sub (List.getD e0 I.toNat default) 1 2)] e (λx d=>e <=
 d->Bel d x->(O=r0.length/\U=J)/\zB r0 [D.ag [D.lit (.string a),(x.cell 0),(x.cell 1),D.lit (.int .i64 b)]] 56/\∀ (c:Nat),yA
 Q N0 a0 e0 c0 n1 (r0++[D.ag [D.lit (.string a),(x.cell 0),(x.cell 1),D.lit (.int .i64 b)]]).length c (IntKind.i64.wrap (I+1)) (r0++[D.ag [D.lit (.string
 a),(x.cell 0),(x.cell 1),D.lit (.int .i64 b)]]) c d)) (yA Q N0 a0 e0 c0 n1 O U (IntKind.i64.wrap (I+1)) r0 J d))) (yA
 Q N0 a0 e0 c0 n1 O U (IntKind.i64.wrap (I+1)) r0 J d)) (yA Q N0 a0 e0 c0 n1 O U (IntKind.i64.wrap (I+1)) r0 J d))) ((O=r0.length
 /\ U=J)/\(O=r0.length/\U=J)/\(O=r0.length/\U=J)/\∀ a b,N<=b->Fresh N0 b a [D.ag r0]->∀ c,b<=c->Q a r0 J c)):yA Q N0 a0 e0 c0 n1 O U I r0 J N:=
  hE (H:=q9) (by kernel_rfl) h
theorem tG (Q:QT [.ag 2]) (N0:Nat) (n4:Int) (y0:D) (Y:Int) (aa:Option Addr) (ab:List D) (ac:Nat) (O:Int) (I J:Nat) (U:List D) (q3:Nat) (N:Nat) (h :
∃ a b,∃ c:Nat,(y0.cell 1)=D.sl a 2 b c/\Br (decide (n4<(b.length:Int))) (∃ a b,∃ c:Nat,(y0.cell 1)=D.sl a 2 b c/\(0<=n4/\n4
 < (b.length:Int))/\∀ a,N<=a->ACalls prog 141 [.ag 2] [.dg 2 (List.getD b n4.toNat default)] a (λx b=>a<=b->Bel b x->(I=U.length
 /\ J=q3)/\zB U [x] 32/\∀ (a:Nat),xQ Q N0 (IntKind.i64.wrap (n4+1)) y0 Y aa ab ac O (U++[x]).length a (U++[x])
 a b)) ((I=U.length/\J=q3)/\(I=U.length/\J=q3)/\(I=U.length/\J=q3)/\∀ a b,N<=b->Fresh N0 b a [D.ag U]->∀
 c,b<=c->Q (D.ag [D.lit (.int .i64 O),D.sl a 2 U q3]) c)):xQ Q N0 n4 y0 Y aa ab ac O I J U q3 N:=
  hE (H:=sF) (by kernel_rfl) h
end Go.Proofs.YtmfjakahanbnlaaGreatDoor
