/- Printed by gen.py: what the functions come to. -/
import Derived.Test.YtidiofobanefmaaGreatDoorJh
set_option linter.unusedVariables false
set_option maxRecDepth 100000
namespace Go.Proofs.YtidiofobanefmaaGreatDoor
open Go Go.Proofs Go.Proofs.Tryz
def sB:Hint:=⟨[hc 2 [0,3]],[],[]⟩
def sH:Hint:=⟨[hc 3 [1,2,5]],[],[(5,hs 8 [ec 6 [23]])]⟩
def wj:Hint:=⟨[hc 3 [1,3,4]],[],[(5,hs 9 [ec 6 [17]])]⟩
def sG:Hint:=⟨[hc 2 [1,3]],[],[(4,hs 7 [ec 5 [15]])]⟩
def sE:Hint:=⟨[],[],[(1,hs 13 [ec 1 [3],ec 5 [7],ec 10 [12]])]⟩
def pZ:Hint:=⟨[],[],[(2,hs 15 [ec 3 [15],ec 11 [23]]),(4,[en 0,en 1,en 2,en 3,en 4,ec 5 [32],en 6,en 7,en 8,en 9,en 10,en 11,en 12,en 13,ec 14 [41],en 15,en 16,en 17]),(12,hs 9 [ec 6 [57]])]⟩
def sC:Hint:=⟨[hc 2 [1,3]],[],[(4,hs 7 [ec 5 [15]]),(6,[en 0,ec 1 [18],en 2,en 3,en 4,en 5,en 6,ec 7 [24],en 8,en 9,en 10])]⟩
def vN:Hint:=⟨[hc 3 [1,2,3,4]],[],[(5,[en 0,en 1,en 2,en 3,en 4,en 5,en 6,ec 7 [21],en 8,eh 9,en 10,eh 11])]⟩
def DO:Hint:=⟨[],[],[(1,[en 0,en 2,ec 1 [5],ec 3 [7],en 4,en 5,eh 6])]⟩
def CE:Hint:=⟨[],[],[(1,hs 5 [ec 1 [3]])]⟩
def z6 (Q:QT [.bool])(N0:Nat)(I:ByteArray)(J:Int)(N:Nat):Prop:=AT prog 127 [.bool] Q N0 .ord (zT prog 127 2) ⟨.str I::an 2 (.int .i64 J::an 58 []),[],N,none⟩
def xE (Q:QT [.int .i64])(N0:Nat)(n1 I:Int)(J:D)(N:Nat):Prop:=AT prog 124 [.int .i64] Q N0 .ord (zT prog 124 3) ⟨an 1 (.int .i64 n1::.pb 0 0 0 0::an 2 (.int .i64 I::an 21 [])),[.vd J 2],N,none⟩
def zu (Q:QT [.int .i64])(N0:Nat)(I n4:Int)(J:D)(N:Nat):Prop:=AT prog 125 [.int .i64] Q N0 .ord (zT prog 125 3) ⟨an 1 (.pb 0 0 0 0::an 1 (.int .i64 I::.int .i64 n4::an 17 [])),[.vd J 2],N,none⟩
def xD (Q:QT [.bool])(N0:Nat)(I:Int)(J:D)(N:Nat):Prop:=AT prog 126 [.bool] Q N0 .ord (zT prog 126 2) ⟨an 1 (.pb 0 0 0 0::an 1 (.int .i64 I::an 35 [])),[.vd J 2],N,none⟩
def xB (Q:QT [.bool])(N0:Nat)(I:Int)(J:D)(N:Nat):Prop:=AT prog 25 [.bool] Q N0 .ord (zT prog 25 2) ⟨an 1 (.pb 0 0 0 0::an 1 (.int .i64 I::an 24 [])),[.vd J 9],N,none⟩
def wR (Q:QT [.ag 2])(N0:Nat)(n4:Int)(y0:D)(I:Int)(J:Option Addr)(O:List D)(U:Nat)(V:Int)(Y:Option Addr)(Z:List D)(aa:Nat)(N:Nat):Prop:=AT prog 105 [.ag 2] Q N0 .ord (zT prog 105 3) ⟨an 1 (.pb 0 0 0 0::.pb 1 0 0 0::.pb 2 0 0 0::.int .i64 n4::an 22 []),[.vd y0 2,.var [.int .i64 I,.sv J 2 O U],.var [.int .i64 V,.sv Y 2 Z aa]],N,none⟩
def yH (Q:QT [.ag 2])(N0:Nat)(n4:Int)(y0:D)(I:Int)(J:Option Addr)(O:List D)(U:Nat)(V:Int)(Y Z:Nat)(r3:List D)(q3:Nat)(N:Nat):Prop:=AT prog 105 [.ag 2] Q N0 .ord (zT prog 105 3) ⟨an 1 (.pb 0 0 0 0::.pb 1 0 0 0::.pb 2 0 0 0::.int .i64 n4::an 22 []),[.vd y0 2,.var [.int .i64 I,.sv J 2 O U],.var [.int .i64 V,.sb 3 2 0 Y Z],.arr 26 2 r3 q3],N,none⟩
theorem FT (N:Nat) (n0 n1 n2:Int) (Q:QT [.bool]) (h :
Br (decide (n0≥n1)) (uP N (Q (decide (n0<=n2)))) (uP N (Q false))):ACalls prog 93 [.bool] [PV.int .i64 n0,PV.int .i64 n1,PV.int .i64 n2] N Q:=
 eE H0 h
theorem C4 (N:Nat) (I:ByteArray) (Q:QT [.bool]) (h :
z6 Q N I 0 N):ACalls prog 127 [.bool] [PV.str I] N Q:=
 eE sB h
theorem DB (N:Nat) (I:D) (n1:Int) (Q:QT [.int .i64]) (h :
Bel N I->xE Q N (IntKind.i64.wrap (n1 - 1)) 0 I N):ACalls prog 124 [.int .i64] [PV.dg 2 I,PV.int .i64 n1] N Q:=
 eE sH h
theorem EO (N:Nat) (n0 n1:Int) (Q:QT [.int .i64]) (h :
Br (decide (n0>n1)) (uP N (Q n0)) (uP N (Q n1))):ACalls prog 56 [.int .i64] [PV.int .i64 n0,PV.int .i64 n1] N Q:=
 eE H0 h
theorem rM (N:Nat) (I:D) (Q:QT [.int .i64]) (h :
Bel N I->zu Q N 0 0 I N):ACalls prog 125 [.int .i64] [PV.dg 2 I] N Q:=
 eE wj h
theorem DA (N:Nat) (I:D) (Q:QT [.bool]) (h :
Bel N I->xD Q N 0 I N):ACalls prog 126 [.bool] [PV.dg 2 I] N Q:=
 eE sG h
theorem rO (N:Nat) (x0:D) (Q:QT [.bool]) (h :
Bel N x0->kI 124 [.dg 2 x0,.j 30] N (fun n a=>Br (decide (n≥0)) (kI 125 [.dg 2 x0] a (fun a c=>Br (decide (a<=8)) (kB 126 [.dg 2 x0] c
 (fun b a=>uP a (Q b))) (uP c (Q false)))) (uP a (Q false)))):ACalls prog 91 [.bool] [PV.dg 2 x0] N Q:=
  eE sE h
theorem DD (N:Nat) (I:D) (Q:QT [.bool]) (h :
Bel N I->∃ n:Int,(I.cell 0)=D.j n/\Br (n==0) (∃ a b,∃ c:Nat,(I.cell 1)=D.sl a 2 b c/\uP N (Q ((b.length:Int)==0))) (uP N (Q
 false))):ACalls prog 92 [.bool] [PV.dg 2 I] N Q:=
  eE H0 h
theorem BR (N:Nat) (I:ByteArray) (Q:QT [.int .i64]) (h :
Br (ByteArray.toList I==ByteArray.toList (bytes [43])) (uP N (Q 2)) (Br (ByteArray.toList I==ByteArray.toList (bytes [45])) (uP N (Q 2)) (Br
 (ByteArray.toList I==ByteArray.toList (bytes [42])) (uP N (Q 2)) (Br (ByteArray.toList I==ByteArray.toList (bytes [61])) (uP N (Q 2)) (Br
 (ByteArray.toList I==ByteArray.toList (bytes [60])) (uP N (Q 2)) (Br (ByteArray.toList I==ByteArray.toList (bytes [38])) (uP N (Q 2)) (Br
 (ByteArray.toList I==ByteArray.toList (bytes [124])) (uP N (Q 2)) (Br (ByteArray.toList I==ByteArray.toList (bytes [33])) (uP N (Q 1)) (uP N (Q
 0)))))))))):ACalls prog 95 [.int .i64] [PV.str I] N Q:=
  eE H0 h
theorem BU (N:Nat) (x0:D) (Q:QT [.bool]) (h :
Bel N x0->∃ n:Int,(x0.cell 0)=D.j n/\Br (n==4) (∃ s,(x0.cell 1)=D.t s/\kI 95 [.str s] N (fun a b=>Br (decide (a>0)) (∃ a,(x0.cell
 2)=D.t a/\uP b (Q (ByteArray.toList a==ByteArray.toList b0))) (uP b (Q false)))) (Br (n==1) (∃ a,(x0.cell 1)=D.t a/\kB 127 [.str a] N
 (fun b a=>Br b (∃ b,(x0.cell 2)=D.t b/\uP a (Q (ByteArray.toList b==ByteArray.toList b0))) (uP a (Q false)))) (Br (n==6) (∃ a,(x0.cell 1)
 = D.t a/\kB 127 [.str a] N (fun a b=>Br a (∃ a,(x0.cell 2)=D.t a/\uP b (Q (ByteArray.toList a==ByteArray.toList b0))) (uP b (Q
 false)))) (Br (n==8) (∃ a,(x0.cell 1)=D.t a/\kB 127 [.str a] N (fun a b=>Br a (∃ a,(x0.cell 2)=D.t a/\uP b (Q (ByteArray.toList
 a==ByteArray.toList b0))) (uP b (Q false)))) (Br (n==9) (∃ a,(x0.cell 1)=D.t a/\kB 127 [.str a] N (fun a b=>Br a (∃ a,(x0.cell 2) =
 D.t a/\kB 127 [.str a] b (fun a b=>Br a (∃ a,(x0.cell 1)=D.t a/\∃ c,(x0.cell 2)=D.t c/\uP b (Q (!(ByteArray.toList a ==
 ByteArray.toList c)))) (uP b (Q false)))) (uP b (Q false)))) (∃ a,(x0.cell 1)=D.t a/\Br (ByteArray.toList a==ByteArray.toList b0) (∃ a,
 (x0.cell 2)=D.t a/\uP N (Q (ByteArray.toList a==ByteArray.toList b0))) (uP N (Q false)))))))):ACalls prog 94 [.bool] [PV.dg 9 x0] N Q:=
  eE H0 h
theorem A2 (N:Nat) (I:D) (Q:QT [.bool]) (h :
Bel N I->∃ n:Int,(I.cell 0)=D.j n/\Br (n==6) (kB 91 [.dg 2 (D.sub I 4 2)] N (λb a=>Br (!(true==b)) (uP a (Q false)) (∃ b:Int,
 (I.cell 0)=D.j b/\kB 91 [.dg 2 (D.sub I 6 2)] a (λa c=>Br (!((b==9)==a)) (uP c (Q false)) (∃ a:Int,(I.cell 0)=D.j a/\Br (bne
 a 9) (kB 92 [.dg 2 (D.sub I 6 2)] c (λa b=>Br (!a) (uP b (Q false)) (∃ a:Int,(I.cell 0)=D.j a/\Br (a==2) (∃ a:Int,(I.cell 3)
 = D.j a/\kB 93 [.j a,.j 0,.j 10006] b (λa b=>Br a (kB 94 [.dg 9 I] b (λa b=>uP b (Q a))) (uP b (Q false)))) (Br (a==3)
 (∃ a:Int,(I.cell 3)=D.j a/\kB 93 [.j a,.j 0,.j 1] b (λa b=>Br a (kB 94 [.dg 9 I] b (λa b=>uP b (Q a))) (uP b (Q
 false)))) (∃ a:Int,(I.cell 3)=D.j a/\kB 93 [.j a,.j 0,.j 0] b (λa b=>Br a (kB 94 [.dg 9 I] b (λa b=>uP b (Q a))) (uP
 b (Q false)))))))) (∃ a:Int,(I.cell 0)=D.j a/\Br (a==2) (∃ a:Int,(I.cell 3)=D.j a/\kB 93 [.j a,.j 0,.j 10006] c (λa b=>
 Br a (kB 94 [.dg 9 I] b (λa b=>uP b (Q a))) (uP b (Q false)))) (Br (a==3) (∃ a:Int,(I.cell 3)=D.j a/\kB 93 [.j a,.j 0,
 .j 1] c (λa b=>Br a (kB 94 [.dg 9 I] b (λa b=>uP b (Q a))) (uP b (Q false)))) (∃ a:Int,(I.cell 3)=D.j a/\kB 93
 [.j a,.j 0,.j 0] c (λa b=>Br a (kB 94 [.dg 9 I] b (λa b=>uP b (Q a))) (uP b (Q false))))))))))) (∃ a:Int,(I.cell
 0)=D.j a/\kB 91 [.dg 2 (D.sub I 4 2)] N (λb c=>Br (!((a==9)==b)) (uP c (Q false)) (Br (!(a==9)) (kB 92 [.dg 2 (D.sub I 4 2)]
 c (λa b=>Br (!a) (uP b (Q false)) (∃ a:Int,(I.cell 0)=D.j a/\kB 91 [.dg 2 (D.sub I 6 2)] b (λb c=>Br (!((a==9)
 == b)) (uP c (Q false)) (∃ a:Int,(I.cell 0)=D.j a/\Br (bne a 9) (kB 92 [.dg 2 (D.sub I 6 2)] c (λa b=>Br (!a) (uP b (Q
 false)) (∃ a:Int,(I.cell 0)=D.j a/\Br (a==2) (∃ a:Int,(I.cell 3)=D.j a/\kB 93 [.j a,.j 0,.j 10006] b (λa b=>Br
 a (kB 94 [.dg 9 I] b (λa b=>uP b (Q a))) (uP b (Q false)))) (Br (a==3) (∃ a:Int,(I.cell 3)=D.j a/\kB 93 [.j a,.j 0,
 .j 1] b (λa b=>Br a (kB 94 [.dg 9 I] b (λa b=>uP b (Q a))) (uP b (Q false)))) (∃ a:Int,(I.cell 3)=D.j a/\kB 93
 [.j a,.j 0,.j 0] b (λa b=>Br a (kB 94 [.dg 9 I] b (λa b=>uP b (Q a))) (uP b (Q false)))))))) (∃ a:Int,(I.cell 0)
 = D.j a/\Br (a==2) (∃ a:Int,(I.cell 3)=D.j a/\kB 93 [.j a,.j 0,.j 10006] c (λa b=>Br a (kB 94 [.dg 9 I] b (λa
 b=>uP b (Q a))) (uP b (Q false)))) (Br (a==3) (∃ a:Int,(I.cell 3)=D.j a/\kB 93 [.j a,.j 0,.j 1] c (λa b=>Br a
 (kB 94 [.dg 9 I] b (λa b=>uP b (Q a))) (uP b (Q false)))) (∃ a:Int,(I.cell 3)=D.j a/\kB 93 [.j a,.j 0,.j 0] c (λa
 b=>Br a (kB 94 [.dg 9 I] b (λa b=>uP b (Q a))) (uP b (Q false))))))))))) (∃ a:Int,(I.cell 0)=D.j a/\kB 91 [.dg 2 (D.sub
 I 6 2)] c (λb c=>Br (!((a==9)==b)) (uP c (Q false)) (∃ a:Int,(I.cell 0)=D.j a/\Br (bne a 9) (kB 92 [.dg 2 (D.sub I 6
 2)] c (λa b=>Br (!a) (uP b (Q false)) (∃ a:Int,(I.cell 0)=D.j a/\Br (a==2) (∃ a:Int,(I.cell 3)=D.j a/\kB 93 [.j
 a,.j 0,.j 10006] b (λa b=>Br a (kB 94 [.dg 9 I] b (λa b=>uP b (Q a))) (uP b (Q false)))) (Br (a==3) (∃ a :
 Int,(I.cell 3)=D.j a/\kB 93 [.j a,.j 0,.j 1] b (λa b=>Br a (kB 94 [.dg 9 I] b (λa b=>uP b (Q a))) (uP b (Q
 false)))) (∃ a:Int,(I.cell 3)=D.j a/\kB 93 [.j a,.j 0,.j 0] b (λa b=>Br a (kB 94 [.dg 9 I] b (λa b=>uP b (Q
 a))) (uP b (Q false)))))))) (∃ a:Int,(I.cell 0)=D.j a/\Br (a==2) (∃ a:Int,(I.cell 3)=D.j a/\kB 93 [.j a,.j 0,.j 10006]
 c (λa b=>Br a (kB 94 [.dg 9 I] b (λa b=>uP b (Q a))) (uP b (Q false)))) (Br (a==3) (∃ a:Int,(I.cell 3)=D.j
 a/\kB 93 [.j a,.j 0,.j 1] c (λa b=>Br a (kB 94 [.dg 9 I] b (λa b=>uP b (Q a))) (uP b (Q false)))) (∃ a :
 Int,(I.cell 3)=D.j a/\kB 93 [.j a,.j 0,.j 0] c (λa b=>Br a (kB 94 [.dg 9 I] b (λa b=>uP b (Q a))) (uP b (Q
 false))))))))))))):ACalls prog 57 [.bool] [PV.dg 9 I] N Q:=
  eE pZ h
theorem BS (N:Nat) (x0:D) (Q:QT [.int .i64]) (h :
Bel N x0->∃ n:Int,(x0.cell 0)=D.j n/\Br (n==1) (uP N (Q 0)) (Br (n==2) (uP N (Q 0)) (Br (n==3) (uP N (Q 0)) (Br (n==4) (∃ s,(x0.cell 1) =
 D.t s/\kI 95 [.str s] N (fun a b=>uP b (Q a))) (Br (n==6) (uP N (Q 1)) (Br (n==9) (uP N (Q 1)) (Br (n==10) (uP N (Q 1)) (Br (n==11) (uP N (Q
 1)) (Br (n==12) (uP N (Q 1)) (Br (n==13) (uP N (Q 1)) (Br (n==7) (uP N (Q 2)) (Br (n==8) (uP N (Q 2)) (Br (n==5) (uP N (Q 3)) (uP N (Q
 (-1)))))))))))))))):ACalls prog 58 [.int .i64] [PV.dg 9 x0] N Q:=
  eE H0 h
theorem C5 (N:Nat) (I:D) (Q:QT [.bool]) (h :
Bel N I->xB Q N 0 I N):ACalls prog 25 [.bool] [PV.dg 9 I] N Q:=
 eE sC h
theorem C9 (N:Nat) (I:D) (Q:QT [.ag 2]) (h :
Bel N I->∃ n:Int,(I.cell 0)=D.j n/\wR Q N 0 I 0 none [] 0 n none [] 0 N):ACalls prog 105 [.ag 2] [PV.dg 2 I] N Q:=
 eE vN h
theorem ER (N:Nat)  (Q:QT [.ag 2]) (h :
uP N (Q (D.ag [D.j 1,D.sl none 2 [] 0]))):ACalls prog 72 [.ag 2] [] N Q:=
 eE H0 h
theorem C7 (N:Nat)  (Q:QT [.ag 2]) (h :
uP N (Q (D.ag [D.j 2,D.sl none 2 [] 0]))):ACalls prog 131 [.ag 2] [] N Q:=
 eE H0 h
theorem EQ (N:Nat) (I J:D) (Q:QT [.ag 2]) (h :
Bel N I->Bel N J->kA 2 105 [.dg 2 I] N (λx b=>kA 2 105 [.dg 2 J] b (λb c=>w3 (2=([x,b]).length/\2=2) (∀ a d,c<=d->Fresh
 N d a [D.ag [x,b]]->uP d (Q (D.ag [D.j 3,D.sl a 2 [x,b] 2])))))):ACalls prog 74 [.ag 2] [PV.dg 2 I,PV.dg 2 J] N Q:=
  eE DO h
theorem C8 (N:Nat) (I:D) (Q:QT [.ag 2]) (h :
Bel N I->kA 2 105 [.dg 2 I] N (λx b=>w3 (1=([x]).length/\1=1) (∀ a c,b<=c->Fresh N c a [D.ag [x]]->uP c (Q (D.ag [D.j 4,D.sl a 2
 [x] 1]))))):ACalls prog 73 [.ag 2] [PV.dg 2 I] N Q:=
  eE CE h
theorem uK {Q:QT [.bool]} {N0:Nat} {J:ByteArray} {I:Int} {N:Nat} (h :
Br (decide (I<(J.size:Int))) ((0<=I/\I<(J.size:Int))/\Br (decide ((UInt8.toNat (Array.getD (ByteArray.data J) I.toNat (OfNat.ofNat 0)) :
 Int)≥97)) ((0<=I/\I<(J.size:Int))/\Br (!(decide ((UInt8.toNat (Array.getD (ByteArray.data J) I.toNat (OfNat.ofNat 0)):Int)<=122))) (Br (I ==
 0) (uP N (Q false)) ((0<=I/\I<(J.size:Int))/\Br (decide ((UInt8.toNat (Array.getD (ByteArray.data J) I.toNat (OfNat.ofNat 0)):Int)<48)) (uP N (Q
 false)) ((0<=I/\I<(J.size:Int))/\Br (decide ((UInt8.toNat (Array.getD (ByteArray.data J) I.toNat (OfNat.ofNat 0)):Int)>57)) (uP N (Q false))
 (z6 Q N0 J (IntKind.i64.wrap (I+1)) N)))) (z6 Q N0 J (IntKind.i64.wrap (I+1)) N)) (Br (I==0) (uP N (Q false)) ((0<=I/\I
 < (J.size:Int))/\Br (decide ((UInt8.toNat (Array.getD (ByteArray.data J) I.toNat (OfNat.ofNat 0)):Int)<48)) (uP N (Q false)) ((0<=I/\I<(J.size
 : Int))/\Br (decide ((UInt8.toNat (Array.getD (ByteArray.data J) I.toNat (OfNat.ofNat 0)):Int)>57)) (uP N (Q false)) (z6 Q N0 J
 (IntKind.i64.wrap (I+1)) N))))) (kB 93 [.j (J.size:Int),.j 1,.j 4] N (λb a=>Br b (Br (!(ByteArray.toList J==ByteArray.toList (bytes [105,
 102]))) (Br (!(ByteArray.toList J==ByteArray.toList (bytes [108,101,116]))) (Br (!(ByteArray.toList J==ByteArray.toList (bytes [114,101,99]))) (Br
 (!(ByteArray.toList J==ByteArray.toList (bytes [114,117,110]))) (∀ b,a<=b->Q (!(ByteArray.toList J==ByteArray.toList (bytes [108,105,102,
 116]))) b) (uP a (Q false))) (uP a (Q false))) (uP a (Q false))) (uP a (Q false))) (uP a (Q false))))):z6 Q N0 J I N:=
  hE sB h
theorem uQ {Q:QT [.int .i64]} {N0:Nat} {n1 n5:Int} {y0:D} {N:Nat} (h :
∃ a b,∃ c:Nat,(y0.cell 1)=D.sl a 2 b c/\Br (decide (n5<(b.length:Int))) (Br (decide (n1≥0)) (∃ a b,∃ c:Nat,(y0.cell 1)=D.sl
 a 2 b c/\(0<=n5/\n5<(b.length:Int))/\kI 124 [.dg 2 (List.getD b n5.toNat default),.j n1] N (fun n a=>xE Q N0 n
 (IntKind.i64.wrap (n5+1)) y0 a)) (uP N (Q n1))) (uP N (Q n1))):xE Q N0 n1 n5 y0 N:=
  hE sH h
theorem wF {Q:QT [.int .i64]} {N0:Nat} {J n4:Int} {I:D} {N:Nat} (h :
∃ a b,∃ c:Nat,(I.cell 1)=D.sl a 2 b c/\Br (decide (n4<(b.length:Int))) (∃ a b,∃ c:Nat,(I.cell 1)=D.sl a 2 b c/\(0<=n4
 /\ n4<(b.length:Int))/\kI 125 [.dg 2 (List.getD b n4.toNat default)] N (λn a=>kI 56 [.j J,.j n] a (λa b=>zu Q N0
 a (IntKind.i64.wrap (n4+1)) I b))) (uP N (Q (IntKind.i64.wrap (J+1))))):zu Q N0 J n4 I N:=
  hE wj h
theorem uO {Q:QT [.bool]} {N0:Nat} {n3:Int} {y0:D} {N:Nat} (h :
∃ a d,∃ c:Nat,(y0.cell 1)=D.sl a 2 d c/\Br (decide (n3<(d.length:Int))) (∃ a c,∃ d:Nat,(y0.cell 1)=D.sl a 2 c d/\(0<=n3
 /\ n3<(c.length:Int))/\kB 126 [.dg 2 (List.getD c n3.toNat default)] N (fun b a=>Br (!b) (uP a (Q false)) (xD Q N0 (IntKind.i64.wrap
 (n3+1)) y0 a))) (∃ n:Int,(y0.cell 0)=D.j n/\Br (n==1) (∃ a b,∃ c:Nat,(y0.cell 1)=D.sl a 2 b c/\uP N (Q ((b.length:Int) ==
 0))) (Br (n==2) (∃ a b,∃ c:Nat,(y0.cell 1)=D.sl a 2 b c/\uP N (Q ((b.length:Int)==0))) (Br (n==3) (∃ a b,∃ c:Nat,
 (y0.cell 1)=D.sl a 2 b c/\uP N (Q ((b.length:Int)==2))) (Br (n==4) (∃ a b,∃ c:Nat,(y0.cell 1)=D.sl a 2 b c/\uP N (Q
 ((b.length:Int)==1))) (uP N (Q false))))))):xD Q N0 n3 y0 N:=
  hE sG h
theorem uL {Q:QT [.bool]} {N0:Nat} {J:Int} {I:D} {N:Nat} (h :
∃ a d,∃ c:Nat,(I.cell 8)=D.sl a 9 d c/\Br (decide (J<(d.length:Int))) (∃ a c,∃ d:Nat,(I.cell 8)=D.sl a 9 c d/\(0<=J
 /\ J<(c.length:Int))/\kB 25 [.dg 9 (List.getD c J.toNat default)] N (λb a=>Br (!b) (uP a (Q false)) (xB Q N0 (IntKind.i64.wrap
 (J+1)) I a))) (kB 57 [.dg 9 I] N (λa b=>Br a (∃ a c,∃ d:Nat,(I.cell 8)=D.sl a 9 c d/\kI 58 [.dg 9 I] b (λn a=>uP
 a (Q ((c.length:Int)==n)))) (uP b (Q false))))):xB Q N0 J I N:=
  hE sC h
theorem uN {Q:QT [.ag 2]} {N0:Nat} {n4:Int} {y0:D} {V:Int} {Y:Option Addr} {Z:List D} {aa:Nat} {J:Int} {O:Option Addr} {I:List D} {U:Nat} {N:Nat} (h :
∃ a b,∃ c:Nat,(y0.cell 1)=D.sl a 2 b c/\Br (decide (n4<(b.length:Int))) (∃ a b,∃ c:Nat,(y0.cell 1)=D.sl a 2 b c/\(0<=n4
 /\ n4<(b.length:Int))/\kA 2 105 [.dg 2 (List.getD b n4.toNat default)] N (λx a=>KT O I U [x]/\zA I [x] 32/\∀(b:Nat),
 yH Q N0 (IntKind.i64.wrap (n4+1)) y0 V Y Z aa J (I++[x]).length b (I++[x]) b a)) (uP N (Q (D.ag [D.j J,D.sl
 O 2 I U])))):wR Q N0 n4 y0 V Y Z aa J O I U N:=
  hE vN h
theorem wo {Q:QT [.ag 2]} {N0:Nat} {n4:Int} {y0:D} {U:Int} {V:Option Addr} {Y:List D} {Z:Nat} {I:Int} {J O:Nat} {r3:List D} {q3:Nat} {N:Nat} (h :
∃ a b,∃ c:Nat,(y0.cell 1)=D.sl a 2 b c/\Br (decide (n4<(b.length:Int))) (∃ a b,∃ c:Nat,(y0.cell 1)=D.sl a 2 b c/\(0<=n4
 /\ n4<(b.length:Int))/\kA 2 105 [.dg 2 (List.getD b n4.toNat default)] N (λx a=>(J=r3.length/\O=q3)/\zA r3 [x] 32/\∀(b :
 Nat),yH Q N0 (IntKind.i64.wrap (n4+1)) y0 U V Y Z I (r3++[x]).length b (r3++[x]) b a)) (w3 (J=r3.length/\O =
 q3) (∀ a b,N<=b->Fresh N0 b a [D.ag r3]->uP b (Q (D.ag [D.j I,D.sl a 2 r3 q3]))))):yH Q N0 n4 y0 U V Y Z I J O r3 q3 N:=
  hE vN h
end Go.Proofs.YtidiofobanefmaaGreatDoor
set_option maxRecDepth 100000
namespace Go.Proofs.YtidiofobanefmaaGreatDoor
open Go Go.Proofs Go.Proofs.Tryz
def wQ:Hint:=⟨[hc 2 [0,1,7,8]],[],[]⟩
def t6:Hint:=⟨[hc 2 [0,6,7]],[],[]⟩
def vC:Hint:=⟨[hc 3 [3,7,8,9]],[],[(5,hs 5 [ec 2 [14]])]⟩
def wi:Hint:=⟨[hc 3 [3,7,8,9]],[],[(5,hs 5 [ec 2 [14]])]⟩
def tF:Hint:=⟨[],[],[(1,[en 0,en 1,eh 2,en 3,en 4,en 5,en 6,en 7,en 8,en 9,en 10,en 11,en 12,en 13,en 14,en 15])]⟩
def rg:Hint:=⟨[],[],[(1,hs 5 [ec 2 [4]])]⟩
def y9:Hint:=⟨[hc 2 [0,1,7,8]],[],[(4,hs 6 [ec 5 [15]])]⟩
def pV:Hint:=⟨[],[],[(1,hs 11 [ec 2 [6]])]⟩
def t8:Hint:=⟨[],[],[(1,hs 13 [ec 1 [3],ec 5 [7],ec 10 [12]])]⟩
def A8:Hint:=⟨[],[],[(12,hs 9 [ec 6 [34]]),(14,hs 26 [ec 18 [56],ec 23 [61]])]⟩
def y7:Hint:=⟨[hc 4 [1,2,15,16,17]],[],[(7,hs 5 [ec 3 [27,28]])]⟩
def CB:Hint:=⟨[],[],[(1,[en 0,en 1,en 2,en 3,ec 4 [7],en 5]),(14,[en 0,en 1,en 2,en 3,en 4,eh 5,en 6,eh 7]),(16,[en 0,en 1,en 2,en 3,en 4,en 5,en 6,en 7,en 8,eh 9,en 10,eh 11,en 12,eh 13,en 14,eh 15]),(17,hs 38 [ec 1 [54],ec 28 [79,81],ec 35 [86,88]])]⟩
def rd:Hint:=⟨[],[],[(1,hs 5 [ec 2 [4]])]⟩
def y8:Hint:=⟨[hc 2 [0,1,7,8]],[],[(4,hs 6 [ec 5 [15]])]⟩
def pU:Hint:=⟨[],[],[(1,hs 11 [ec 2 [6]])]⟩
def CA:Hint:=⟨[],[],[(1,hs 3 [ec 1 [3]])]⟩
def wP:Hint:=⟨[hc 3 [2,3,10,11,12]],[],[(5,[en 0,en 1,en 2,ec 3 [18],en 4,eh 5,en 6,eh 7])]⟩
def DN:Hint:=⟨[],[],[(1,[en 0,en 2,ec 1 [5],ec 3 [7],en 4,en 5,eh 6])]⟩
def CC:Hint:=⟨[],[],[(1,hs 5 [ec 1 [3]])]⟩
def zm (Q:QT [.int .i64])(N0:Nat)(a0:Option Addr)(e0:List D)(c0:Nat)(I:ByteArray)(J O:Int)(N:Nat):Prop:=AT prog 160 [.int .i64] Q N0 .ord (zT prog 160 2) ⟨.sv a0 0 e0 c0::.str I::an 5 (.int .i64 J::.int .i64 O::an 10 []),[],N,none⟩
def zx (Q:QT [.bool])(N0:Nat)(I:ByteArray)(J O:Int)(N:Nat):Prop:=AT prog 129 [.bool] Q N0 .ord (zT prog 129 2) ⟨.str I::an 5 (.int .i64 J::.int .i64 O::an 40 []),[],N,none⟩
def yB (Q:QT [.int .i64])(N0:Nat)(I:Int)(J:Option Addr)(O:List D)(U:Nat)(V Y:Int)(N:Nat):Prop:=AT prog 110 [.int .i64] Q N0 .ord (zT prog 110 3) ⟨an 3 (.int .i64 I::an 3 (.sv J 2 O U::.int .i64 V::.int .i64 Y::an 9 [])),[],N,none⟩
def zr (Q:QT [.int .i64])(N0:Nat)(I:Int)(J:Option Addr)(O:List D)(U:Nat)(V Y:Int)(N:Nat):Prop:=AT prog 111 [.int .i64] Q N0 .ord (zT prog 111 3) ⟨an 3 (.int .i64 I::an 3 (.sv J 2 O U::.int .i64 V::.int .i64 Y::an 10 [])),[],N,none⟩
def xg (Q:QT [.ag 2])(N0:Nat)(ab:Option Addr)(ac:List D)(ae:Nat)(ah ai I:Int)(J:Option Addr)(O:List D)(U:Nat)(V:Int)(Y:Option Addr)(Z:List D)(aa:Nat)(N:Nat):Prop:=AT prog 154 [.ag 2] Q N0 .ord (zT prog 154 3) ⟨an 2 (.pb 0 0 0 0::.pb 1 0 0 0::an 6 (.sv ab 2 ac ae::.int .i64 ah::.int .i64 ai::an 12 [])),[.var [.int .i64 I,.sv J 2 O U],.var [.int .i64 V,.sv Y 2 Z aa]],N,none⟩
def zJ (Q:QT [.bool])(N0:Nat)(Y:Option Addr)(e1:List D)(Z:Nat)(I:Option Addr)(J:List D)(O:Nat)(U V:Int)(N:Nat):Prop:=AT prog 59 [.bool] Q N0 .ord (zT prog 59 4) ⟨an 1 (.sv Y 2 e1 Z::.fn 26 []::an 12 (.sv I 2 J O::.int .i64 U::.int .i64 V::an 14 [])),[],N,none⟩
def zt (Q:QT [.ag 2])(N0:Nat)(aa:Option Addr)(ab:List D)(ac:Nat)(ae ah I:Int)(J:Option Addr)(O:List D)(U:Nat)(V:Int)(Y Z:Nat)(r2:List D)(q2:Nat)(N:Nat):Prop:=AT prog 154 [.ag 2] Q N0 .ord (zT prog 154 3) ⟨an 2 (.pb 0 0 0 0::.pb 1 0 0 0::an 6 (.sv aa 2 ab ac::.int .i64 ae::.int .i64 ah::an 12 [])),[.var [.int .i64 I,.sv J 2 O U],.var [.int .i64 V,.sb 2 2 0 Y Z],.arr 26 2 r2 q2],N,none⟩
def zY (Q:QT [.int .i64])(N0:Nat)(a0:Option Addr)(e0:List D)(c0:Nat)(I:Addr)(J O:Int)(N:Nat):Prop:=AT prog 153 [.int .i64] Q N0 .ord (zT prog 153 2) ⟨.sv a0 2 e0 c0::.fn 137 [.pd I 0 (.fn 113 [])]::an 5 (.int .i64 J::.int .i64 O::an 10 []),[],N,none⟩
def zX (Q:QT [.int .i64])(N0:Nat)(a0:Option Addr)(e0:List D)(c0:Nat)(I:Addr)(J O:Int)(N:Nat):Prop:=AT prog 128 [.int .i64] Q N0 .ord (zT prog 128 2) ⟨.sv a0 9 e0 c0::.fn 97 [.pd I 0 (.fn 61 [])]::an 5 (.int .i64 J::.int .i64 O::an 10 []),[],N,none⟩
theorem C3 (N:Nat) (n0 n1 n2:Int) (Q:QT [.bool]) (h :
Br (decide (n1<=n0)) (uP N (Q (decide (n0<=n2)))) (uP N (Q false))):ACalls prog 114 [.bool] [PV.int .i64 n0,PV.int .i64 n1,PV.int .i64 n2] N Q:=
 eE H0 h
theorem tq (N:Nat) (a0:Option Addr) (e0:List D) (c0:Nat) (I:ByteArray) (Q:QT [.int .i64]) (h :
Bel N (D.sl a0 0 e0 c0)->zm Q N a0 e0 c0 I (e0.length:Int) 0 N):ACalls prog 160 [.int .i64] [PV.sv a0 0 e0 c0,PV.str I] N Q:=
 eE wQ h
theorem vz (N:Nat) (a0:Option Addr) (e0:List D) (c0:Nat) (I:ByteArray) (Q:QT [.bool]) (h :
Bel N (D.sl a0 0 e0 c0)->kI 160 [.sv a0 0 e0 c0,.str I] N (λn a=>uP a (Q (decide (n≥0))))):ACalls prog 146 [.bool] [PV.sv a0 0 e0 c0,PV.str I] N Q:=
 eE H0 h
theorem Cx (N:Nat) (I:ByteArray) (Q:QT [.bool]) (h :
zx Q N I (I.size:Int) 0 N):ACalls prog 129 [.bool] [PV.str I] N Q:=
 eE t6 h
theorem qQ (N:Nat) (I:D) (Q:QT [.int .i64]) (h :
Bel N I->∃ a b,∃ c:Nat,(I.cell 1)=D.sl a 2 b c/\yB Q N 1 a b c (b.length:Int) 0 N):ACalls prog 110 [.int .i64] [PV.dg 2 I] N Q:=
 eE vC h
theorem rG (N:Nat) (I:D) (Q:QT [.int .i64]) (h :
Bel N I->∃ a b,∃ c:Nat,(I.cell 1)=D.sl a 2 b c/\zr Q N 0 a b c (b.length:Int) 0 N):ACalls prog 111 [.int .i64] [PV.dg 2 I] N Q:=
 eE wi h
theorem tK (N:Nat) (I:D) (Q:QT [.bool]) (h :
Bel N I->∃ n:Int,(I.cell 0)=D.j n/\kB 114 [.j n,.j 1,.j 4] N (λb d=>Br b (∃ a b,∃ c:Nat,(I.cell 1)=D.sl a 2 b c/\∃ a:Int,
 (I.cell 0)=D.j a/\(0<=IntKind.i64.wrap (a - 1)/\IntKind.i64.wrap (a - 1)<4/\(0+(IntKind.i64.wrap (a - 1)).toNat:Nat)<4)/\(0 +
 (IntKind.i64.wrap (a - 1)).toNat:Nat)<4/\∃ c:Int,List.getD [D.j 0,D.j 0,D.j 2,D.j 1] (0+(IntKind.i64.wrap (a - 1)).toNat:Nat) default=D.j
 c/\uP d (Q ((b.length:Int)==c))) (uP d (Q false)))):ACalls prog 113 [.bool] [PV.dg 2 I] N Q:=
  eE tF h
theorem rI (N:Nat) (I:D) (Q:QT [.bool]) (h :
Bel N I->kI 110 [.dg 2 I] N (λn a=>Br (decide (n<=30)) (kI 111 [.dg 2 I] a (λa c=>Br (decide (a<=8)) (kB 112 [.dg 2 I,.fn 113 []]
 c (λb a=>uP a (Q b))) (uP c (Q false)))) (uP a (Q false)))):ACalls prog 77 [.bool] [PV.dg 2 I] N Q:=
  eE t8 h
theorem BO (N:Nat) (I:ByteArray) (Q:QT [.int .i64]) (h :
Br (ByteArray.toList I==ByteArray.toList (bytes [43])) (uP N (Q 2)) (Br (ByteArray.toList I==ByteArray.toList (bytes [45])) (uP N (Q 2)) (Br
 (ByteArray.toList I==ByteArray.toList (bytes [42])) (uP N (Q 2)) (Br (ByteArray.toList I==ByteArray.toList (bytes [61])) (uP N (Q 2)) (Br
 (ByteArray.toList I==ByteArray.toList (bytes [60])) (uP N (Q 2)) (Br (ByteArray.toList I==ByteArray.toList (bytes [38])) (uP N (Q 2)) (Br
 (ByteArray.toList I==ByteArray.toList (bytes [124])) (uP N (Q 2)) (Br (ByteArray.toList I==ByteArray.toList (bytes [33])) (uP N (Q 1)) (uP N (Q
 0)))))))))):ACalls prog 116 [.int .i64] [PV.str I] N Q:=
  eE H0 h
theorem EJ (N:Nat) (I:D) (Q:QT [.int .i64]) (h :
Bel N I->∃ n:Int,(I.cell 0)=D.j n/\Br (n==4) (∃ s,(I.cell 1)=D.t s/\kI 116 [.str s] N (λa b=>uP b (Q a))) (Br (n==5) (uP N (Q
 3)) (Br (n==7) (uP N (Q 2)) (Br (n==8) (uP N (Q 2)) (Br (n==6) (uP N (Q 1)) (Br (n==9) (uP N (Q 1)) (Br (n==10) (uP N (Q 1)) (Br (n==11) (uP N (Q
 1)) (Br (n==12) (uP N (Q 1)) (Br (n==13) (uP N (Q 1)) (uP N (Q 0)))))))))))):ACalls prog 81 [.int .i64] [PV.dg 9 I] N Q:=
  eE H0 h
theorem Az (N:Nat) (n0:Int) (Q:QT [.bool]) (h :
kB 114 [.j n0,.j 0,.j 10006] N (λb a=>uP a (Q b))):ACalls prog 130 [.bool] [PV.int .i64 n0] N Q:=
 eE H0 h
theorem BP (N:Nat) (I:D) (Q:QT [.bool]) (h :
Bel N I->∃ n:Int,(I.cell 0)=D.j n/\Br (n==1) (∃ s,(I.cell 1)=D.t s/\kB 129 [.str s] N (λb a=>uP a (Q b))) (Br (n==8) (∃ a,
 (I.cell 1)=D.t a/\kB 129 [.str a] N (λa b=>uP b (Q a))) (Br (n==2) (∃ a:Int,(I.cell 3)=D.j a/\kB 130 [.j a] N (λa b=>
 uP b (Q a))) (Br (n==3) (∃ a:Int,(I.cell 3)=D.j a/\kB 114 [.j a,.j 0,.j 1] N (λa b=>uP b (Q a))) (Br (n==4) (∃ a,(I.cell
 1)=D.t a/\kI 116 [.str a] N (λa b=>uP b (Q (decide (a>0))))) (Br (n==6) (∃ a,(I.cell 1)=D.t a/\kB 129 [.str a] N (λa b
 => Br a (kB 77 [.dg 2 (D.sub I 4 2)] b (λa b=>uP b (Q a))) (uP b (Q false)))) (Br (n==9) (∃ a,(I.cell 1)=D.t a/\kB 129 [.str a]
 N (λa b=>Br a (∃ a,(I.cell 2)=D.t a/\kB 129 [.str a] b (λa b=>Br a (∃ a,(I.cell 1)=D.t a/\∃ c,(I.cell 2)=D.t
 c/\Br (!(ByteArray.toList a==ByteArray.toList c)) (kB 77 [.dg 2 (D.sub I 4 2)] b (λa b=>Br a (kB 77 [.dg 2 (D.sub I 6 2)] b (λa
 b=>uP b (Q a))) (uP b (Q false)))) (uP b (Q false))) (uP b (Q false)))) (uP b (Q false)))) (∃ a:Int,(I.cell 0)=D.j a/\kB 114 [.j a,
 .j 1,.j 13] N (λa b=>uP b (Q a)))))))))):ACalls prog 98 [.bool] [PV.dg 9 I] N Q:=
  eE A8 h
theorem qw (N:Nat) (I J:D) (Q:QT [.bool]) (h :
Bel N I->Bel N J->∃ n:Int,(I.cell 0)=D.j n/\∃ d:Int,(J.cell 0)=D.j d/\Br (n==d) (∃ a d,∃ c:Nat,(I.cell 1)=D.sl a 2 d c /\
 ∃ e f,∃ g:Nat,(J.cell 1)=D.sl e 2 f g/\kB 59 [.sv a 2 d c,.sv e 2 f g,.fn 26 []] N (λb a=>uP a (Q b))) (uP N (Q false))):ACalls prog 26 [.bool] [PV.dg 2 I,PV.dg 2 J] N Q:=
  eE H0 h
theorem C0 (N:Nat) (I:D) (Q:QT [.bool]) (h :
Bel N I->∃ a d,∃ c:Nat,(I.cell 8)=D.sl a 9 d c/\kI 81 [.dg 9 I] N (λn a=>Br (bne (d.length:Int) n) (uP a (Q false)) (∃ c:Int,
 (I.cell 0)=D.j c/\∃ c:Int,(I.cell 0)=D.j c/\Br (c==1) (∃ s,(I.cell 1)=D.t s/\kB 98 [.dg 9 I] a (λb a=>Br b (∃ b,(I.cell 1)
 = D.t b/\Br (ByteArray.toList b==ByteArray.toList s) (∃ b,(I.cell 2)=D.t b/\Br (ByteArray.toList b==ByteArray.toList b0) (∃ b:Int,
 (I.cell 3)=D.j b/\Br (b==0) (kB 26 [.dg 2 (D.sub I 4 2),.dg 2 (D.ag [D.j 0,D.sl none 2 [] 0])] a (λa b=>Br a (kB 26 [.dg 2 (D.sub I 6
 2),.dg 2 (D.ag [D.j 0,D.sl none 2 [] 0])] b (λa b=>uP b (Q a))) (uP b (Q false)))) (uP a (Q false))) (uP a (Q false))) (uP a (Q false))) (uP
 a (Q false)))) (Br (c==8) (∃ b,(I.cell 1)=D.t b/\kB 98 [.dg 9 I] a (λa c=>Br a (∃ a,(I.cell 1)=D.t a/\Br (ByteArray.toList
 a==ByteArray.toList b) (∃ a,(I.cell 2)=D.t a/\Br (ByteArray.toList a==ByteArray.toList b0) (∃ a:Int,(I.cell 3)=D.j a/\Br (a ==
 0) (kB 26 [.dg 2 (D.sub I 4 2),.dg 2 (D.ag [D.j 0,D.sl none 2 [] 0])] c (λa b=>Br a (kB 26 [.dg 2 (D.sub I 6 2),.dg 2 (D.ag [D.j 0,D.sl none
 2 [] 0])] b (λa b=>uP b (Q a))) (uP b (Q false)))) (uP c (Q false))) (uP c (Q false))) (uP c (Q false))) (uP c (Q false)))) (Br (c ==
 2) (∃ b:Int,(I.cell 3)=D.j b/\kB 98 [.dg 9 I] a (λa c=>Br a (∃ a,(I.cell 1)=D.t a/\Br (ByteArray.toList a==ByteArray.toList
 b0) (∃ a,(I.cell 2)=D.t a/\Br (ByteArray.toList a==ByteArray.toList b0) (∃ a:Int,(I.cell 3)=D.j a/\Br (a==b) (kB 26 [.dg 2 (D.sub
 I 4 2),.dg 2 (D.ag [D.j 0,D.sl none 2 [] 0])] c (λa b=>Br a (kB 26 [.dg 2 (D.sub I 6 2),.dg 2 (D.ag [D.j 0,D.sl none 2 [] 0])] b (λa
 b=>uP b (Q a))) (uP b (Q false)))) (uP c (Q false))) (uP c (Q false))) (uP c (Q false))) (uP c (Q false)))) (Br (c==3) (∃ b:Int,
 (I.cell 3)=D.j b/\kB 98 [.dg 9 I] a (λa c=>Br a (∃ a,(I.cell 1)=D.t a/\Br (ByteArray.toList a==ByteArray.toList b0) (∃ a,
 (I.cell 2)=D.t a/\Br (ByteArray.toList a==ByteArray.toList b0) (∃ a:Int,(I.cell 3)=D.j a/\Br (a==b) (kB 26 [.dg 2 (D.sub I 4 2),.dg
 2 (D.ag [D.j 0,D.sl none 2 [] 0])] c (λa b=>Br a (kB 26 [.dg 2 (D.sub I 6 2),.dg 2 (D.ag [D.j 0,D.sl none 2 [] 0])] b (λa b=>uP
 b (Q a))) (uP b (Q false)))) (uP c (Q false))) (uP c (Q false))) (uP c (Q false))) (uP c (Q false)))) (Br (c==4) (∃ b,(I.cell 1)=D.t
 b/\kB 98 [.dg 9 I] a (λa c=>Br a (∃ a,(I.cell 1)=D.t a/\Br (ByteArray.toList a==ByteArray.toList b) (∃ a,(I.cell 2) =
 D.t a/\Br (ByteArray.toList a==ByteArray.toList b0) (∃ a:Int,(I.cell 3)=D.j a/\Br (a==0) (kB 26 [.dg 2 (D.sub I 4 2),.dg 2 (D.ag [D.j
 0,D.sl none 2 [] 0])] c (λa b=>Br a (kB 26 [.dg 2 (D.sub I 6 2),.dg 2 (D.ag [D.j 0,D.sl none 2 [] 0])] b (λa b=>uP b (Q a)))
 (uP b (Q false)))) (uP c (Q false))) (uP c (Q false))) (uP c (Q false))) (uP c (Q false)))) (Br (c==6) (∃ b,(I.cell 1)=D.t b/\kB 98
 [.dg 9 I] a (λa c=>Br a (∃ a,(I.cell 1)=D.t a/\Br (ByteArray.toList a==ByteArray.toList b) (∃ a,(I.cell 2)=D.t a /\
 Br (ByteArray.toList a==ByteArray.toList b0) (∃ a:Int,(I.cell 3)=D.j a/\Br (a==0) (kB 26 [.dg 2 (D.sub I 4 2),.dg 2 (D.ag [D.cell
 (D.sub I 4 2) 0,D.cell (D.sub I 4 2) 1])] c (λa b=>Br a (kB 26 [.dg 2 (D.sub I 6 2),.dg 2 (D.ag [D.j 0,D.sl none 2 [] 0])] b (λa
 b=>uP b (Q a))) (uP b (Q false)))) (uP c (Q false))) (uP c (Q false))) (uP c (Q false))) (uP c (Q false)))) (Br (c==9) (∃ b,(I.cell
 1)=D.t b/\∃ c,(I.cell 2)=D.t c/\kB 98 [.dg 9 I] a (λa d=>Br a (∃ a,(I.cell 1)=D.t a/\Br (ByteArray.toList a ==
 ByteArray.toList b) (∃ a,(I.cell 2)=D.t a/\Br (ByteArray.toList a==ByteArray.toList c) (∃ a:Int,(I.cell 3)=D.j a/\Br (a ==
 0) (kB 26 [.dg 2 (D.sub I 4 2),.dg 2 (D.ag [D.cell (D.sub I 4 2) 0,D.cell (D.sub I 4 2) 1])] d (λa b=>Br a (kB 26 [.dg 2 (D.sub I 6 2),.dg
 2 (D.ag [D.cell (D.sub I 6 2) 0,D.cell (D.sub I 6 2) 1])] b (λa b=>uP b (Q a))) (uP b (Q false)))) (uP d (Q false))) (uP d (Q false)))
 (uP d (Q false))) (uP d (Q false)))) (kB 98 [.dg 9 I] a (λa b=>Br a (∃ a,(I.cell 1)=D.t a/\Br (ByteArray.toList a ==
 ByteArray.toList b0) (∃ a,(I.cell 2)=D.t a/\Br (ByteArray.toList a==ByteArray.toList b0) (∃ a:Int,(I.cell 3)=D.j a/\Br (a==0)
 (kB 26 [.dg 2 (D.sub I 4 2),.dg 2 (D.ag [D.j 0,D.sl none 2 [] 0])] b (λa b=>Br a (kB 26 [.dg 2 (D.sub I 6 2),.dg 2 (D.ag [D.j 0,D.sl none 2
 [] 0])] b (λa b=>uP b (Q a))) (uP b (Q false)))) (uP b (Q false))) (uP b (Q false))) (uP b (Q false))) (uP b (Q false))))))))))))):ACalls prog 61 [.bool] [PV.dg 9 I] N Q:=
  eE CB h
theorem Cy (N:Nat) (I:D) (Q:QT [.bool]) (h :
Bel N I->kB 60 [.dg 9 I,.fn 61 []] N (λb a=>uP a (Q b))):ACalls prog 28 [.bool] [PV.dg 9 I] N Q:=
 eE CA h
theorem Ay (N:Nat) (I:D) (Q:QT [.ag 2]) (h :
Bel N I->∃ n:Int,(I.cell 0)=D.j n/\∃ a b,∃ c:Nat,(I.cell 1)=D.sl a 2 b c/\xg Q N a b c (b.length:Int) 0 0 none [] 0 n
 none [] 0 N):ACalls prog 154 [.ag 2] [PV.dg 2 I] N Q:=
  eE wP h
theorem EN (N:Nat)  (Q:QT [.ag 2]) (h :
uP N (Q (D.ag [D.j 1,D.sl none 2 [] 0]))):ACalls prog 139 [.ag 2] [] N Q:=
 eE H0 h
theorem C1 (N:Nat)  (Q:QT [.ag 2]) (h :
uP N (Q (D.ag [D.j 2,D.sl none 2 [] 0]))):ACalls prog 140 [.ag 2] [] N Q:=
 eE H0 h
theorem EM (N:Nat) (I J:D) (Q:QT [.ag 2]) (h :
Bel N I->Bel N J->kA 2 154 [.dg 2 I] N (λx b=>kA 2 154 [.dg 2 J] b (λb c=>w3 (2=([x,b]).length/\2=2) (∀ a d,c<=d->Fresh
 N d a [D.ag [x,b]]->uP d (Q (D.ag [D.j 3,D.sl a 2 [x,b] 2])))))):ACalls prog 141 [.ag 2] [PV.dg 2 I,PV.dg 2 J] N Q:=
  eE DN h
theorem C2 (N:Nat) (I:D) (Q:QT [.ag 2]) (h :
Bel N I->kA 2 154 [.dg 2 I] N (λx b=>w3 (1=([x]).length/\1=1) (∀ a c,b<=c->Fresh N c a [D.ag [x]]->uP c (Q (D.ag [D.j 4,D.sl a 2
 [x] 1]))))):ACalls prog 142 [.ag 2] [PV.dg 2 I] N Q:=
  eE CC h
theorem xu {Q:QT [.int .i64]} {N0:Nat} {a0:Option Addr} {e0:List D} {c0:Nat} {J:ByteArray} {O I:Int} {N:Nat} (h :
Br (decide (I<O)) ((0<=I/\I<(e0.length:Int))/\∃ s,List.getD e0 I.toNat default=D.t s/\Br (ByteArray.toList J==ByteArray.toList s) (uP
 N (Q I)) (zm Q N0 a0 e0 c0 J O (IntKind.i64.wrap (I+1)) N)) (uP N (Q (-1)))):zm Q N0 a0 e0 c0 J O I N:=
  hE wQ h
theorem uI {Q:QT [.bool]} {N0:Nat} {J:ByteArray} {O I:Int} {N:Nat} (h :
Br (decide (I<O)) ((0<=I/\I<(J.size:Int))/\Br (decide ((UInt8.toNat (Array.getD (ByteArray.data J) I.toNat (OfNat.ofNat 0)):Int)≥97))
 ((0<=I/\I<(J.size:Int))/\Br (!(decide ((UInt8.toNat (Array.getD (ByteArray.data J) I.toNat (OfNat.ofNat 0)):Int)<=122))) (Br (I==0) (uP N (Q
 false)) ((0<=I/\I<(J.size:Int))/\Br (decide ((UInt8.toNat (Array.getD (ByteArray.data J) I.toNat (OfNat.ofNat 0)):Int)<48)) (uP N (Q false)) ((0
 <= I/\I<(J.size:Int))/\Br (decide ((UInt8.toNat (Array.getD (ByteArray.data J) I.toNat (OfNat.ofNat 0)):Int)>57)) (uP N (Q false))
 (zx Q N0 J O (IntKind.i64.wrap (I+1)) N)))) (zx Q N0 J O (IntKind.i64.wrap (I+1)) N)) (Br (I==0) (uP N (Q false)) ((0 <=
 I/\I<(J.size:Int))/\Br (decide ((UInt8.toNat (Array.getD (ByteArray.data J) I.toNat (OfNat.ofNat 0)):Int)<48)) (uP N (Q false)) ((0<=I/\I <
 (J.size:Int))/\Br (decide ((UInt8.toNat (Array.getD (ByteArray.data J) I.toNat (OfNat.ofNat 0)):Int)>57)) (uP N (Q false)) (zx Q N0 J O
 (IntKind.i64.wrap (I+1)) N))))) (kB 114 [.j (J.size:Int),.j 1,.j 4] N (λb c=>Br b ((5=5/\5=5)/\∀ a,ApA a [D.t (bytes [105,102]),D.t
 (bytes [108,101,116]),D.t (bytes [108,105,102,116]),D.t (bytes [114,101,99]),D.t (bytes [114,117,110])]->∀ b,c<=b->GO b [a]->ACalls prog
 146 [.bool] [.sv a 0 [D.t (bytes [105,102]),D.t (bytes [108,101,116]),D.t (bytes [108,105,102,116]),D.t (bytes [114,101,99]),D.t (bytes [114,117,
 110])] 5,.str J] b (λa c=>b<=c->uP c (Q (!a)))) (uP c (Q false))))):zx Q N0 J O I N:=
  hE t6 h
theorem wV {Q:QT [.int .i64]} {N0:Nat} {n3:Int} {a7:Option Addr} {e7:List D} {c7:Nat} {n8 n9:Int} {N:Nat} (h :
Br (decide (n9<n8)) ((0<=n9/\n9<(e7.length:Int))/\kI 110 [.dg 2 (List.getD e7 n9.toNat default)] N (fun n a=>yB Q N0
 (IntKind.i64.wrap (n3+n)) a7 e7 c7 n8 (IntKind.i64.wrap (n9+1)) a)) (uP N (Q n3))):yB Q N0 n3 a7 e7 c7 n8 n9 N:=
  hE vC h
theorem wD {Q:QT [.int .i64]} {N0:Nat} {J:Int} {V:Option Addr} {O:List D} {Y:Nat} {U I:Int} {N:Nat} (h :
Br (decide (I<U)) ((0<=I/\I<(O.length:Int))/\kI 111 [.dg 2 (List.getD O I.toNat default)] N (λn a=>zr Q N0 (if n >
 J then n else J) V O Y U (IntKind.i64.wrap (I+1)) a)) (uP N (Q (IntKind.i64.wrap (J+1)))) ):zr Q N0 J V O Y U I N:=
  hE wi h
theorem rL (N:Nat) (x0:D) (Q:QT [.bool]) (h :
Bel N x0->kB 113 [.dg 2 x0] N (fun b d=>Br b (∃ a b,∃ c:Nat,(x0.cell 1)=D.sl a 2 b c/\∀ e,ApA (Option.some e) [D.fn (OfNat.ofNat 113) []] ->
 Off [Option.some e] (D.sl a 2 b c)->∀ f,d<=f->GO f [Option.some e]->ACalls prog 136 [.bool] [.sv a 2 b c,.fn 137 [.pd e 0 (.fn 113 [])]] f
 (fun a b=>f<=b->uP b (Q (!a)))) (uP d (Q false)))):ACalls prog 112 [.bool] [.dg 2 x0,.fn 113 []] N Q:=
  eE pV h
theorem we (N:Nat) (a0:Option Addr) (e0:List D) (c0:Nat) (I:Option Addr) (e1:List D) (J:Nat) (Q:QT [.bool]) (h :
Bel N (D.sl a0 2 e0 c0)->Bel N (D.sl I 2 e1 J)->Br (bne (e0.length:Int) (e1.length:Int)) (uP N (Q false)) (zJ Q N I e1 J
 a0 e0 c0 (e0.length:Int) 0 N)):ACalls prog 59 [.bool] [.sv a0 2 e0 c0,.sv I 2 e1 J,.fn 26 []] N Q:=
  eE y7 h
theorem rK (N:Nat) (I:D) (Q:QT [.bool]) (h :
Bel N I->kB 61 [.dg 9 I] N (λb d=>Br b (∃ a b,∃ c:Nat,(I.cell 8)=D.sl a 9 b c/\∀ e,ApA (Option.some e) [D.fn (OfNat.ofNat 61) []] ->
 Off [Option.some e] (D.sl a 9 b c)->∀ f,d<=f->GO f [Option.some e]->ACalls prog 96 [.bool] [.sv a 9 b c,.fn 97 [.pd e 0 (.fn 61 [])]] f (fun
 a b=>f<=b->uP b (Q (!a)))) (uP d (Q false)))):ACalls prog 60 [.bool] [.dg 9 I,.fn 61 []] N Q:=
  eE pU h
theorem vJ {Q:QT [.ag 2]} {N0:Nat} {ah:Option Addr} {Y:List D} {ai:Nat} {ae J Z:Int} {aa:Option Addr} {ab:List D} {ac:Nat} {O:Int} {U:Option Addr} {I:List D} {V:Nat} {N:Nat} (h :
Br (decide (J<ae)) ((0<=J/\J<(Y.length:Int))/\kA 2 154 [.dg 2 (List.getD Y J.toNat default)] N (λx a=>KT U I V [x] /\
 zA I [x] 32/\∀(c:Nat),zt Q N0 ah Y ai ae (IntKind.i64.wrap (J+1)) Z aa ab ac O (I++[x]).length c (I
 ++ [x]) c a)) (uP N (Q (D.ag [D.j O,D.sl U 2 I V])))):xg Q N0 ah Y ai ae J Z aa ab ac O U I V N:=
  hE wP h
theorem wC (N:Nat) (a0:Option Addr) (e0:List D) (c0:Nat) (I:Addr) (Q:QT [.bool]) (h :
Bel N (D.sl a0 2 e0 c0)->kI 153 [.sv a0 2 e0 c0,.fn 137 [.pd I 0 (.fn 113 [])]] N (λn a=>uP a (Q (decide (n≥0))))):ACalls prog 136 [.bool] [.sv a0 2 e0 c0,.fn 137 [.pd I 0 (.fn 113 [])]] N Q:=
 eE H0 h
theorem yX {Q:QT [.bool]} {N0:Nat} {Y:Option Addr} {e1:List D} {Z:Nat} {U:Option Addr} {J:List D} {V:Nat} {O I:Int} {N:Nat} (h :
Br (decide (I<O)) ((0<=I/\I<(J.length:Int))/\(0<=I/\I<(e1.length:Int))/\kB 26 [.dg 2 (List.getD J I.toNat default),.dg 2
 (List.getD e1 I.toNat default)] N (λb a=>Br (!b) (uP a (Q false)) (zJ Q N0 Y e1 Z U J V O (IntKind.i64.wrap (I+1))
 a))) (uP N (Q true))):zJ Q N0 Y e1 Z U J V O I N:=
  hE y7 h
theorem wB (N:Nat) (a0:Option Addr) (e0:List D) (c0:Nat) (I:Addr) (Q:QT [.bool]) (h :
Bel N (D.sl a0 9 e0 c0)->kI 128 [.sv a0 9 e0 c0,.fn 97 [.pd I 0 (.fn 61 [])]] N (λn a=>uP a (Q (decide (n≥0))))):ACalls prog 96 [.bool] [.sv a0 9 e0 c0,.fn 97 [.pd I 0 (.fn 61 [])]] N Q:=
 eE H0 h
theorem wE {Q:QT [.ag 2]} {N0:Nat} {a10:Option Addr} {e10:List D} {c10:Nat} {n11 n12 n0_0:Int} {a0_1:Option Addr} {e0_1:List D} {c0_1:Nat} {n1_0:Int} {m1_1 c1_1:Nat} {r2:List D} {q2:Nat} {N:Nat} (h :
Br (decide (n12<n11)) ((0<=n12/\n12<(e10.length:Int))/\kA 2 154 [.dg 2 (List.getD e10 n12.toNat default)] N (fun x a=>(m1_1=r2.length/\c1_1
 = q2)/\zA r2 [x] 32/\∀(c:Nat),zt Q N0 a10 e10 c10 n11 (IntKind.i64.wrap (n12+1)) n0_0 a0_1 e0_1 c0_1 n1_0 (r2++[x]).length c
 (r2++[x]) c a)) (w3 (m1_1=r2.length/\c1_1=q2) (∀ a b,N<=b->Fresh N0 b a [D.ag r2]->uP b (Q (D.ag [D.j n1_0,D.sl a 2 r2 q2]))))):zt Q N0 a10 e10 c10 n11 n12 n0_0 a0_1 e0_1 c0_1 n1_0 m1_1 c1_1 r2 q2 N:=
  hE wP h
theorem wh (N:Nat) (a0:Option Addr) (e0:List D) (c0:Nat) (I:Addr) (Q:QT [.int .i64]) (h :
Bel N (D.sl a0 2 e0 c0)->zY Q N a0 e0 c0 I (e0.length:Int) 0 N):ACalls prog 153 [.int .i64] [.sv a0 2 e0 c0,.fn 137 [.pd I 0 (.fn 113 [])]] N Q:=
 eE y9 h
theorem wg (N:Nat) (a0:Option Addr) (e0:List D) (c0:Nat) (I:Addr) (Q:QT [.int .i64]) (h :
Bel N (D.sl a0 9 e0 c0)->zX Q N a0 e0 c0 I (e0.length:Int) 0 N):ACalls prog 128 [.int .i64] [.sv a0 9 e0 c0,.fn 97 [.pd I 0 (.fn 61 [])]] N Q:=
 eE y8 h
theorem yZ {Q:QT [.int .i64]} {N0:Nat} {a0:Option Addr} {e0:List D} {c0:Nat} {I:Addr} {O J:Int} {N:Nat} (h :
Br (decide (J<O)) ((0<=J/\J<(e0.length:Int))/\kB 137 [.dg 2 (List.getD e0 J.toNat default),.pd I 0 (.fn 113 [])] N (λb a=>Br b (uP
 a (Q J)) (zY Q N0 a0 e0 c0 I O (IntKind.i64.wrap (J+1)) a))) (uP N (Q (-1)))):zY Q N0 a0 e0 c0 I O J N:=
  hE y9 h
theorem yY {Q:QT [.int .i64]} {N0:Nat} {a0:Option Addr} {e0:List D} {c0:Nat} {a1_0:Addr} {n7 n8:Int} {N:Nat} (h :
Br (decide (n8<n7)) ((0<=n8/\n8<(e0.length:Int))/\kB 97 [.dg 9 (List.getD e0 n8.toNat default),.pd a1_0 0 (.fn 61 [])] N (fun b a=>Br b (uP a
 (Q n8)) (zX Q N0 a0 e0 c0 a1_0 n7 (IntKind.i64.wrap (n8+1)) a))) (uP N (Q (-1)))):zX Q N0 a0 e0 c0 a1_0 n7 n8 N:=
  hE y8 h
theorem tM (N:Nat) (I:D) (J:Addr) (Q:QT [.bool]) (h :
Bel N I->kB 112 [.dg 2 I,.fn 113 []] N (λb a=>uP a (Q (!b)))):ACalls prog 137 [.bool] [.dg 2 I,.pd J 0 (.fn 113 [])] N Q:=
 eE rg h
theorem tL (N:Nat) (I:D) (J:Addr) (Q:QT [.bool]) (h :
Bel N I->kB 60 [.dg 9 I,.fn 61 []] N (λb a=>uP a (Q (!b)))):ACalls prog 97 [.bool] [.dg 9 I,.pd J 0 (.fn 61 [])] N Q:=
 eE rd h
end Go.Proofs.YtidiofobanefmaaGreatDoor
set_option maxRecDepth 100000
namespace Go.Proofs.YtidiofobanefmaaGreatDoor
open Go Go.Proofs Go.Proofs.Tryz
def tP:Hint:=⟨[hc 3 [3,7,8,9]],[],[(5,hs 5 [ec 2 [14]])]⟩
def t7:Hint:=⟨[],[],[(1,hs 13 [ec 1 [3],ec 4 [6],ec 9 [11]])]⟩
def sA:Hint:=⟨[hc 3 [3,7,8,9]],[],[(5,hs 5 [ec 2 [14]])]⟩
def tQ:Hint:=⟨[hc 3 [1,3,4]],[],[(5,hs 9 [ec 6 [17]])]⟩
def sD:Hint:=⟨[],[],[(1,hs 13 [ec 1 [3],ec 5 [7],ec 10 [12]])]⟩
def sJ:Hint:=⟨[hc 3 [1,2,5]],[],[(5,hs 8 [ec 6 [23]])]⟩
def yd (Q:QT [.int .i64])(N0:Nat)(I:Int)(J:Option Addr)(O:List D)(U:Nat)(V Y:Int)(N:Nat):Prop:=AT prog 38 [.int .i64] Q N0 .ord (zT prog 38 3) ⟨an 3 (.int .i64 I::an 3 (.sv J 9 O U::.int .i64 V::.int .i64 Y::an 10 [])),[],N,none⟩
def xA (Q:QT [.int .i64])(N0:Nat)(I:Int)(J:Option Addr)(O:List D)(U:Nat)(V Y:Int)(N:Nat):Prop:=AT prog 37 [.int .i64] Q N0 .ord (zT prog 37 3) ⟨an 3 (.int .i64 I::an 3 (.sv J 9 O U::.int .i64 V::.int .i64 Y::an 9 [])),[],N,none⟩
def ye (Q:QT [.int .i64])(N0:Nat)(I n4:Int)(J:D)(N:Nat):Prop:=AT prog 24 [.int .i64] Q N0 .ord (zT prog 24 3) ⟨an 1 (.pb 0 0 0 0::an 1 (.int .i64 I::.int .i64 n4::an 17 [])),[.vd J 9],N,none⟩
def xL (Q:QT [.int .i64])(N0:Nat)(n1 I:Int)(J:D)(N:Nat):Prop:=AT prog 23 [.int .i64] Q N0 .ord (zT prog 23 3) ⟨an 1 (.int .i64 n1::.pb 0 0 0 0::an 2 (.int .i64 I::an 21 [])),[.vd J 9],N,none⟩
theorem BN (N:Nat) (I:D) (Q:QT [.int .i64]) (h :
Bel N I->∃ a b,∃ c:Nat,(I.cell 8)=D.sl a 9 b c/\yd Q N 0 a b c (b.length:Int) 0 N):ACalls prog 38 [.int .i64] [PV.dg 9 I] N Q:=
 eE tP h
theorem rH (N:Nat) (I:D) (Q:QT [.bool]) (h :
Bel N I->kB 28 [.dg 9 I] N (λb a=>Br b (∀ b,a<=b->ACalls prog 37 [.i] [.dg 9 I] b (λn a=>b<=a->Br (decide (n<=80)) (kI 38 [.dg
 9 I] a (λa b=>uP b (Q (decide (a<=20))))) (uP a (Q false)))) (uP a (Q false)))):ACalls prog 18 [.bool] [PV.dg 9 I] N Q:=
  eE t7 h
theorem Cz (N:Nat) (I:D) (Q:QT [.int .i64]) (h :
Bel N I->∃ a b,∃ c:Nat,(I.cell 8)=D.sl a 9 b c/\xA Q N 1 a b c (b.length:Int) 0 N):ACalls prog 37 [.int .i64] [PV.dg 9 I] N Q:=
 eE sA h
theorem BQ (N:Nat) (I:D) (Q:QT [.int .i64]) (h :
Bel N I->ye Q N 0 0 I N):ACalls prog 24 [.int .i64] [PV.dg 9 I] N Q:=
 eE tQ h
theorem rN (N:Nat) (I:D) (Q:QT [.bool]) (h :
Bel N I->kI 23 [.dg 9 I,.j 80] N (λn a=>Br (decide (n≥0)) (kI 24 [.dg 9 I] a (λa c=>Br (decide (a<=20)) (kB 25 [.dg 9 I] c (fun
 b a=>uP a (Q b))) (uP c (Q false)))) (uP a (Q false)))):ACalls prog 9 [.bool] [PV.dg 9 I] N Q:=
  eE sD h
theorem DC (N:Nat) (I:D) (n1:Int) (Q:QT [.int .i64]) (h :
Bel N I->xL Q N (IntKind.i64.wrap (n1 - 1)) 0 I N):ACalls prog 23 [.int .i64] [PV.dg 9 I,PV.int .i64 n1] N Q:=
 eE sJ h
theorem vg {Q:QT [.int .i64]} {N0:Nat} {J:Int} {V:Option Addr} {O:List D} {Y:Nat} {U I:Int} {N:Nat} (h :
Br (decide (I<U)) ((0<=I/\I<(O.length:Int))/\kI 38 [.dg 9 (List.getD O I.toNat default)] N (λn a=>yd Q N0 (if n>J
 then n else J) V O Y U (IntKind.i64.wrap (I+1)) a)) (uP N (Q (IntKind.i64.wrap (J+1))))):yd Q N0 J V O Y U I N:=
  hE tP h
theorem uJ {Q:QT [.int .i64]} {N0:Nat} {O:Int} {V:Option Addr} {J:List D} {Y:Nat} {U I:Int} {N:Nat} (h :
Br (decide (I<U)) ((0<=I/\I<(J.length:Int))/\∀ a,N<=a->ACalls prog 37 [.i] [.dg 9 (List.getD J I.toNat default)] a (λn b=>a <=
 b->xA Q N0 (IntKind.i64.wrap (O+n)) V J Y U (IntKind.i64.wrap (I+1)) b)) (uP N (Q O))):xA Q N0 O V J Y U I N:=
  hE sA h
theorem vh {Q:QT [.int .i64]} {N0:Nat} {n3 n4:Int} {y0:D} {N:Nat} (h :
∃ a b,∃ c:Nat,(y0.cell 8)=D.sl a 9 b c/\Br (decide (n4<(b.length:Int))) (∃ a b,∃ c:Nat,(y0.cell 8)=D.sl a 9 b c/\(0<=n4
 /\ n4<(b.length:Int))/\kI 24 [.dg 9 (List.getD b n4.toNat default)] N (fun n a=>kI 56 [.j n3,.j n] a (fun a b=>ye Q N0 a
 (IntKind.i64.wrap (n4+1)) y0 b))) (uP N (Q (IntKind.i64.wrap (n3+1))))):ye Q N0 n3 n4 y0 N:=
  hE tQ h
theorem uT {Q:QT [.int .i64]} {N0:Nat} {n1 n5:Int} {y0:D} {N:Nat} (h :
∃ a b,∃ c:Nat,(y0.cell 8)=D.sl a 9 b c/\Br (decide (n5<(b.length:Int))) (Br (decide (n1≥0)) (∃ a b,∃ c:Nat,(y0.cell 8)=D.sl
 a 9 b c/\(0<=n5/\n5<(b.length:Int))/\kI 23 [.dg 9 (List.getD b n5.toNat default),.j n1] N (fun n a=>xL Q N0 n
 (IntKind.i64.wrap (n5+1)) y0 a)) (uP N (Q n1))) (uP N (Q n1))):xL Q N0 n1 n5 y0 N:=
  hE sJ h
end Go.Proofs.YtidiofobanefmaaGreatDoor
set_option maxRecDepth 100000
namespace Go.Proofs.YtidiofobanefmaaGreatDoor
open Go Go.Proofs Go.Proofs.Tryz
def y6:Hint:=⟨[hc 4 [1,2,15,16,17]],[],[(7,hs 5 [ec 3 [27,28]])]⟩
def qj:Hint:=⟨[],[],[(1,hs 48 [ec 31 [33,35],ec 38 [40,42]])]⟩
def zW (Q:QT [.bool])(N0:Nat)(Y:Option Addr)(e1:List D)(Z:Nat)(I:Option Addr)(J:List D)(O:Nat)(U V:Int)(N:Nat):Prop:=AT prog 27 [.bool] Q N0 .ord (zT prog 27 4) ⟨an 1 (.sv Y 9 e1 Z::.fn 10 []::an 12 (.sv I 9 J O::.int .i64 U::.int .i64 V::an 14 [])),[],N,none⟩
theorem qv (N:Nat) (x0 x1:D) (Q:QT [.bool]) (h :
Bel N x0->Bel N x1->∃ n:Int,(x0.cell 0)=D.j n/\∃ d:Int,(x1.cell 0)=D.j d/\Br (n==d) (∃ s,(x0.cell 1)=D.t s/\∃ d,(x1.cell 1) =
 D.t d/\Br (ByteArray.toList s==ByteArray.toList d) (∃ d,(x0.cell 2)=D.t d/\∃ e,(x1.cell 2)=D.t e/\Br (ByteArray.toList d ==
 ByteArray.toList e) (∃ d:Int,(x0.cell 3)=D.j d/\∃ e:Int,(x1.cell 3)=D.j e/\Br (d==e) (kB 26 [.dg 2 (D.sub x0 4 2),.dg 2 (D.sub x1 4
 2)] N (fun b d=>Br b (kB 26 [.dg 2 (D.sub x0 6 2),.dg 2 (D.sub x1 6 2)] d (fun b d=>Br b (∃ a b,∃ c:Nat,(x0.cell 8)=D.sl a 9 b c/\∃ e
 f,∃ g:Nat,(x1.cell 8)=D.sl e 9 f g/\kB 27 [.sv a 9 b c,.sv e 9 f g,.fn 10 []] d (fun a b=>uP b (Q a))) (uP d (Q false))))
 (uP d (Q false)))) (uP N (Q false))) (uP N (Q false))) (uP N (Q false))) (uP N (Q false))):ACalls prog 10 [.bool] [PV.dg 9 x0,PV.dg 9 x1] N Q:=
  eE qj h
theorem wc (N:Nat) (a0:Option Addr) (e0:List D) (c0:Nat) (I:Option Addr) (e1:List D) (J:Nat) (Q:QT [.bool]) (h :
Bel N (D.sl a0 9 e0 c0)->Bel N (D.sl I 9 e1 J)->Br (bne (e0.length:Int) (e1.length:Int)) (uP N (Q false)) (zW Q N I e1 J
 a0 e0 c0 (e0.length:Int) 0 N)):ACalls prog 27 [.bool] [.sv a0 9 e0 c0,.sv I 9 e1 J,.fn 10 []] N Q:=
  eE y6 h
theorem yW {Q:QT [.bool]} {N0:Nat} {Y:Option Addr} {e1:List D} {Z:Nat} {U:Option Addr} {J:List D} {V:Nat} {O I:Int} {N:Nat} (h :
Br (decide (I<O)) ((0<=I/\I<(J.length:Int))/\(0<=I/\I<(e1.length:Int))/\kB 10 [.dg 9 (List.getD J I.toNat default),.dg 9
 (List.getD e1 I.toNat default)] N (λb a=>Br (!b) (uP a (Q false)) (zW Q N0 Y e1 Z U J V O (IntKind.i64.wrap (I+1))
 a))) (uP N (Q true))):zW Q N0 Y e1 Z U J V O I N:=
  hE y6 h
end Go.Proofs.YtidiofobanefmaaGreatDoor
set_option maxRecDepth 100000
namespace Go.Proofs.YtidiofobanefmaaGreatDoor
open Go Go.Proofs Go.Proofs.Tryz
def vc:Hint:=⟨[hc 5 [0,3,4]],[],[]⟩
def zN (Q:QT [.str])(N0:Nat)(n0:Int)(I:Bool)(J:ByteArray)(N:Nat):Prop:=AT prog 54 [.str] Q N0 .ord (zT prog 54 5) ⟨.int .i64 n0::an 2 (.bool I::.str J::an 26 []),[],N,none⟩
theorem qx (N:Nat) (n0:Int) (Q:QT [.str]) (h :
kS 75 [.j n0] N (λs a=>uP a (Q s))):ACalls prog 39 [.str] [PV.int .i64 n0] N Q:=
 eE H0 h
theorem vl (N:Nat) (n0:Int) (Q:QT [.str]) (h :
Br (n0==0) (uP N (Q (bytes [48]))) (zN Q N n0 (decide (n0<0)) b0 N)):ACalls prog 54 [.str] [PV.int .i64 n0] N Q:=
 eE vc h
theorem ES (N:Nat) (I:ByteArray) (Q:QT [.ag 9]) (h :
∀ a,N<=a->Q (D.ag [D.j 1,D.t I,D.t b0,D.j 0,D.j 0,D.sl none 2 [] 0,D.j 0,D.sl none 2 [] 0,D.sl none 9 [] 0]) a):ACalls prog 35 [.ag 9] [PV.str I] N Q:=
  eE H0 h
theorem qg (N:Nat) (n0:Int) (Q:QT [.ag 9]) (h :
∀ a,N<=a->Q (D.ag [D.j 2,D.t b0,D.t b0,D.j n0,D.j 0,D.sl none 2 [] 0,D.j 0,D.sl none 2 [] 0,D.sl none 9 [] 0]) a):ACalls prog 104 [.ag 9] [PV.int .i64 n0] N Q:=
  eE H0 h
theorem rR (N:Nat) (n0:Int) (Q:QT [.ag 9]) (h :
∀ a,N<=a->Q (D.ag [D.j 3,D.t b0,D.t b0,D.j n0,D.j 0,D.sl none 2 [] 0,D.j 0,D.sl none 2 [] 0,D.sl none 9 [] 0]) a):ACalls prog 63 [.ag 9] [PV.int .i64 n0] N Q:=
  eE H0 h
theorem xS {Q:QT [.str]} {N0:Nat} {n0:Int} {J:Bool} {I:ByteArray} {N:Nat} (h :
Br (bne n0 0) ((10:Int)≠(0:Int)/\Br (decide (Int.tmod n0 10<0)) (1<=([D.lit (.int IntKind.u8 (IntKind.u8.wrap (IntKind.i64.wrap (48 +
 IntKind.i64.wrap (0 - Int.tmod n0 10)))))]).length/\∃ a:List Int,List.take 1 [D.lit (.int IntKind.u8 (IntKind.u8.wrap (IntKind.i64.wrap (48 +
 IntKind.i64.wrap (0 - Int.tmod n0 10)))))]=List.map (λn=>D.lit (.int IntKind.u8 n)) a/\(ByteArray.size (bytesOf a)+I.size:Nat) <=
 9223372036854775807/\(10:Int)≠(0:Int)/\zN Q N0 (IntKind.i64.wrap (Int.tdiv n0 10)) J (bytesOf a++I) N) (1<=([D.lit (.int
 IntKind.u8 (IntKind.u8.wrap (IntKind.i64.wrap (48+Int.tmod n0 10))))]).length/\∃ a:List Int,List.take 1 [D.lit (.int IntKind.u8 (IntKind.u8.wrap
 (IntKind.i64.wrap (48+Int.tmod n0 10))))]=List.map (λa=>D.lit (.int IntKind.u8 a)) a/\(ByteArray.size (bytesOf a)+I.size:Nat) <=
 9223372036854775807/\(10:Int)≠(0:Int)/\zN Q N0 (IntKind.i64.wrap (Int.tdiv n0 10)) J (bytesOf a++I) N)) (Br J ((1+I.size :
 Nat)<=9223372036854775807/\uP N (Q (bytes [45]++I))) (uP N (Q I)))):zN Q N0 n0 J I N:=
  hE vc h
end Go.Proofs.YtidiofobanefmaaGreatDoor
set_option maxRecDepth 100000
namespace Go.Proofs.YtidiofobanefmaaGreatDoor
open Go Go.Proofs Go.Proofs.Tryz
def ql:Hint:=⟨[],[],[(7,[en 0,en 1,en 2,en 3,en 7,en 8,en 9,en 10,ec 4 [14],en 5,en 6,ec 11 [21],en 12,en 13,en 14]),(8,hs 8 [ec 4 [28]])]⟩
def rZ:Hint:=⟨[],[],[(1,hs 3 [ec 1 [3]]),(3,hs 3 [ec 1 [6]])]⟩
def vb:Hint:=⟨[hc 3 [1,3,8,9,10] [(3,9,0)]],[],[(5,hs 6 [ec 2 [15]]),(17,[en 0,en 1,en 2,en 3,en 4,en 5,en 6,en 7,en 8,en 9,en 10,en 11,en 12]),(21,[en 0,en 1,en 2,en 3,en 4,en 5,en 9,en 10,en 11,ec 6 [75],en 7,en 8,en 12,en 13,en 14]),(25,[en 0,en 1,en 2,en 3,en 4,eh 5,en 6,en 7,en 8]),(27,[en 0,en 1,en 2,en 3,en 4,en 5,en 6,en 7,en 8,en 9,en 13,en 14,en 18,en 19,en 20,ec 10 [111],en 11,en 12,ec 15 [116],en 16,en 17,en 21,en 22,en 23])]⟩
def pT:Hint:=⟨[],[],[(1,hs 3 [ec 1 [3]]),(3,hs 3 [ec 1 [6]])]⟩
def rY:Hint:=⟨[],[],[(1,hs 3 [ec 1 [3]]),(3,hs 3 [ec 1 [6]])]⟩
def yG (Q:QT [.str])(N0:Nat)(J c3:Nat)(O:Option Addr)(U:List D)(V:Nat)(Y I:Int)(Z:D)(r1:List D)(q1:Nat)(N:Nat):Prop:=AT prog 19 [.str] Q N0 .ord (zT prog 19 3) ⟨an 1 (.pb 0 0 0 0::an 1 (.sb 1 0 0 J c3::an 4 (.sv O 9 U V::.int .i64 Y::.int .i64 I::an 139 []))),[.vd Z 9,.arr 9 0 r1 q1],N,none⟩
theorem FR (N:Nat) (a0:Option Addr) (e0:List D) (c0:Nat) (I:ByteArray) (Q:QT [.str]) (h :
Bel N (D.sl a0 0 e0 c0)->kS 76 [.sv a0 0 e0 c0,.str I] N (λs a=>uP a (Q s))):ACalls prog 40 [.str] [PV.sv a0 0 e0 c0,PV.str I] N Q:=
 eE H0 h
theorem ym (N:Nat) (I:D) (Q:QT [.str]) (h :
Bel N I->∃ n:Int,(I.cell 0)=D.j n/\Br (n==1) (uP N (Q (bytes [73]))) (Br (n==2) (uP N (Q (bytes [66]))) (Br (n==3) (∃ a b,∃ c:Nat,
 (I.cell 1)=D.sl a 2 b c/\((0:Int)<=(0:Int)/\0<(b.length:Int))/\∃ a c,∃ d:Nat,(I.cell 1)=D.sl a 2 c d/\((0:Int)<=(1 :
 Int)/\1<(c.length:Int))/\kS 78 [.dg 2 (List.getD b 0 default)] N (λs a=>(1+s.size:Nat)<=9223372036854775807/\(ByteArray.size (bytes [40]
 ++ s)+1:Nat)<=9223372036854775807/\kS 78 [.dg 2 (List.getD c 1 default)] a (λa b=>(ByteArray.size (bytes [40]++s++bytes [62])+a.size :
 Nat)<=9223372036854775807/\(ByteArray.size (bytes [40]++s++bytes [62]++a)+1:Nat)<=9223372036854775807/\uP b (Q (bytes [40]++s++bytes [62]
 ++ a++bytes [41]))))) (∃ a b,∃ c:Nat,(I.cell 1)=D.sl a 2 b c/\((0:Int)<=(0:Int)/\0<(b.length:Int))/\kS 78 [.dg 2
 (List.getD b 0 default)] N (λa b=>(1+a.size:Nat)<=9223372036854775807/\(ByteArray.size (bytes [60]++a)+1:Nat)<=9223372036854775807 /\
 uP b (Q (bytes [60]++a++bytes [62]))))))):ACalls prog 78 [.str] [PV.dg 2 I] N Q:=
  eE ql h
theorem qP (N:Nat) (I:D) (Q:QT [.str]) (h :
Bel N I->kB 77 [.dg 2 I] N (λb a=>Br (!b) (uP a (Q b0)) (kS 78 [.dg 2 I] a (λs a=>uP a (Q s))))):ACalls prog 41 [.str] [PV.dg 2 I] N Q:=
 eE rZ h
theorem qz (N:Nat) (I:D) (Q:QT [.str]) (h :
Bel N I->∃ a b,∃ c:Nat,(I.cell 8)=D.sl a 9 b c/\yG Q N 0 0 a b c (b.length:Int) 0 I [] 0 N):ACalls prog 19 [.str] [PV.dg 9 I] N Q:=
 eE vb h
theorem Ax (N:Nat) (I:D) (Q:QT [.str]) (h :
Bel N I->kB 28 [.dg 9 I] N (λb a=>Br (!b) (uP a (Q b0)) (kS 19 [.dg 9 I] a (λs a=>uP a (Q s))))):ACalls prog 11 [.str] [PV.dg 9 I] N Q:=
 eE pT h
theorem qO (N:Nat) (I:D) (Q:QT [.str]) (h :
Bel N I->kB 18 [.dg 9 I] N (λb a=>Br (!b) (uP a (Q b0)) (kS 19 [.dg 9 I] a (λs a=>uP a (Q s))))):ACalls prog 6 [.str] [PV.dg 9 I] N Q:=
 eE rY h
theorem wn {Q:QT [.str]} {N0:Nat} {I c3:Nat} {Z:Option Addr} {V:List D} {c8:Nat} {Y O:Int} {J:D} {r1:List D} {U:Nat} {N:Nat} (h :
Br (decide (O<Y)) ((0<=O/\O<(V.length:Int))/\kS 19 [.dg 9 (List.getD V O.toNat default)] N (λs a=>(I=r1.length/\c3=U) /\
 zA r1 [D.t s] 16/\∀(c:Nat),yG Q N0 (r1++[D.t s]).length c Z V c8 Y (IntKind.i64.wrap (O+1)) J (r1++[D.t s]) c a)) (∃ n :
 Int,(J.cell 0)=D.j n/\Br (n==1) (∃ a,(J.cell 1)=D.t a/\uP N (Q a)) (Br (n==2) (∃ a:Int,(J.cell 3)=D.j a/\kS 39 [.j a] N (fun
 a b=>uP b (Q a))) (Br (n==3) (∃ a:Int,(J.cell 3)=D.j a/\∃ b:Int,(J.cell 3)=D.j b/\(0<=a/\a<=IntKind.i64.wrap (b+1) /\
 IntKind.i64.wrap (b+1)<=2)/\(1+ByteArray.size (ByteArray.extract (bytes [102,116]) a.toNat (IntKind.i64.wrap (b+1)).toNat):Nat) <=
 9223372036854775807/\∀ c,N<=c->Q (bytes [35]++ByteArray.extract (bytes [102,116]) a.toNat (IntKind.i64.wrap (b+1)).toNat) c) (Br (n==4) (Br
 ((I:Int)==1) (((0:Int)<=(0:Int)/\0<(I:Int)/\0<r1.length)/\0<r1.length/\∃ a,List.getD r1 0 default=D.t a/\(2+a.size:Nat) <=
 9223372036854775807/\(ByteArray.size (bytes [40,33]++a)+1:Nat)<=9223372036854775807/\uP N (Q (bytes [40,33]++a++bytes [41]))) (((0:Int) <=
 (0:Int)/\0<(I:Int)/\0<r1.length)/\0<r1.length/\∃ a,List.getD r1 0 default=D.t a/\(1+a.size:Nat)<=9223372036854775807/\∃ b,
 (J.cell 1)=D.t b/\(ByteArray.size (bytes [40]++a)+b.size:Nat)<=9223372036854775807/\((0:Int)<=(1:Int)/\1<(I:Int)/\1<r1.length) /\
 1<r1.length/\∃ c,List.getD r1 1 default=D.t c/\(ByteArray.size (bytes [40]++a++b)+c.size:Nat)<=9223372036854775807/\(ByteArray.size
 (bytes [40]++a++b++c)+1:Nat)<=9223372036854775807/\uP N (Q (bytes [40]++a++b++c++bytes [41])))) (Br (n==5) ((I=r1.length /\
 c3=U)/\∀ a,ApA a r1->∀ b,N<=b->GO b [a]->ACalls prog 40 [.str] [.sv a 0 r1 c3,.str (bytes [32])] b (λa c=>b<=c->(4 +
 a.size:Nat)<=9223372036854775807/\(ByteArray.size (bytes [40,105,102,32]++a)+1:Nat)<=9223372036854775807/\uP c (Q (bytes [40,105,102,32]
 ++ a++bytes [41])))) (Br (n==6) (∃ a,(J.cell 1)=D.t a/\(2+a.size:Nat)<=9223372036854775807/\(ByteArray.size (bytes [40,92]++a)+1 :
 Nat)<=9223372036854775807/\((0:Int)<=(0:Int)/\0<(I:Int)/\0<r1.length)/\0<r1.length/\∃ b,List.getD r1 0 default=D.t b/\kS 41 [.dg 2
 (D.sub J 4 2)] N (λc d=>(ByteArray.size (bytes [40,92]++a++bytes [58])+c.size:Nat)<=9223372036854775807/\(ByteArray.size (bytes [40,
 92]++a++bytes [58]++c)+1:Nat)<=9223372036854775807/\(ByteArray.size (bytes [40,92]++a++bytes [58]++c++bytes [46])+b.size :
 Nat)<=9223372036854775807/\(ByteArray.size (bytes [40,92]++a++bytes [58]++c++bytes [46]++b)+1:Nat)<=9223372036854775807/\uP d (Q
 (bytes [40,92]++a++bytes [58]++c++bytes [46]++b++bytes [41])))) (Br (n==7) ((I=r1.length/\c3=U)/\∀ a,ApA a r1->∀ b,N <=
 b->GO b [a]->ACalls prog 40 [.str] [.sv a 0 r1 c3,.str (bytes [32])] b (λa c=>b<=c->(1+a.size:Nat)<=9223372036854775807 /\
 (ByteArray.size (bytes [40]++a)+1:Nat)<=9223372036854775807/\uP c (Q (bytes [40]++a++bytes [41])))) (Br (n==8) (∃ a,(J.cell 1)=D.t
 a/\(5+a.size:Nat)<=9223372036854775807/\(ByteArray.size (bytes [40,108,101,116,32]++a)+1:Nat)<=9223372036854775807/\(I=r1.length
 /\ c3=U)/\∀ b,ApA b r1->∀ c,N<=c->GO c [b]->ACalls prog 40 [.str] [.sv b 0 r1 c3,.str (bytes [32])] c (λb d=>c<=d ->
 (ByteArray.size (bytes [40,108,101,116,32]++a++bytes [61])+b.size:Nat)<=9223372036854775807/\(ByteArray.size (bytes [40,108,101,116,32]
 ++ a++bytes [61]++b)+1:Nat)<=9223372036854775807/\uP d (Q (bytes [40,108,101,116,32]++a++bytes [61]++b++bytes [41])))) (Br
 (n==9) (∃ a,(J.cell 1)=D.t a/\(5+a.size:Nat)<=9223372036854775807/\(ByteArray.size (bytes [40,114,101,99,32]++a)+1:Nat) <=
 9223372036854775807/\∃ b,(J.cell 2)=D.t b/\(ByteArray.size (bytes [40,114,101,99,32]++a++bytes [32])+b.size:Nat) <=
 9223372036854775807/\(ByteArray.size (bytes [40,114,101,99,32]++a++bytes [32]++b)+1:Nat)<=9223372036854775807/\((0:Int)<=(0:Int)/\0
 < (I:Int)/\0<r1.length)/\0<r1.length/\∃ c,List.getD r1 0 default=D.t c/\kS 41 [.dg 2 (D.sub J 4 2)] N (λd e=>(ByteArray.size
 (bytes [40,114,101,99,32]++a++bytes [32]++b++bytes [58])+d.size:Nat)<=9223372036854775807/\(ByteArray.size (bytes [40,114,101,99,
 32]++a++bytes [32]++b++bytes [58]++d)+1:Nat)<=9223372036854775807/\kS 41 [.dg 2 (D.sub J 6 2)] e (λe f=>(ByteArray.size
 (bytes [40,114,101,99,32]++a++bytes [32]++b++bytes [58]++d++bytes [62])+e.size:Nat)<=9223372036854775807/\(ByteArray.size
 (bytes [40,114,101,99,32]++a++bytes [32]++b++bytes [58]++d++bytes [62]++e)+1:Nat)<=9223372036854775807/\(ByteArray.size
 (bytes [40,114,101,99,32]++a++bytes [32]++b++bytes [58]++d++bytes [62]++e++bytes [46])+c.size:Nat)<=9223372036854775807
 /\ (ByteArray.size (bytes [40,114,101,99,32]++a++bytes [32]++b++bytes [58]++d++bytes [62]++e++bytes [46]++c)+1:Nat) <=
 9223372036854775807/\uP f (Q (bytes [40,114,101,99,32]++a++bytes [32]++b++bytes [58]++d++bytes [62]++e++bytes [46]++c ++
 bytes [41]))))) (Br (n==10) (((0:Int)<=(0:Int)/\0<(I:Int)/\0<r1.length)/\0<r1.length/\∃ a,List.getD r1 0 default=D.t a/\(1 +
 a.size:Nat)<=9223372036854775807/\(ByteArray.size (bytes [60]++a)+1:Nat)<=9223372036854775807/\uP N (Q (bytes [60]++a++bytes [62])))
 (Br (n==11) (((0:Int)<=(0:Int)/\0<(I:Int)/\0<r1.length)/\0<r1.length/\∃ a,List.getD r1 0 default=D.t a/\(1+a.size:Nat) <=
 9223372036854775807/\uP N (Q (bytes [126]++a))) (Br (n==12) (((0:Int)<=(0:Int)/\0<(I:Int)/\0<r1.length)/\0<r1.length/\∃ a,
 List.getD r1 0 default=D.t a/\(5+a.size:Nat)<=9223372036854775807/\(ByteArray.size (bytes [40,114,117,110,32]++a)+1:Nat) <=
 9223372036854775807/\uP N (Q (bytes [40,114,117,110,32]++a++bytes [41]))) (((0:Int)<=(0:Int)/\0<(I:Int)/\0<r1.length)/\0<r1.length
 /\ ∃ a,List.getD r1 0 default=D.t a/\(6+a.size:Nat)<=9223372036854775807/\(ByteArray.size (bytes [40,108,105,102,116,32]++a)+1 :
 Nat)<=9223372036854775807/\uP N (Q (bytes [40,108,105,102,116,32]++a++bytes [41])))))))))))))))):yG Q N0 I c3 Z V c8 Y O J r1 U N:=
  hE vb h
end Go.Proofs.YtidiofobanefmaaGreatDoor
set_option maxRecDepth 100000
namespace Go.Proofs.YtidiofobanefmaaGreatDoor
open Go Go.Proofs Go.Proofs.Tryz
def pW:Hint:=⟨[hc 3 [0,1,5,6] [(5,5,0)]],[],[]⟩
def CH:Hint:=⟨[],[],[(7,[en 0,en 1,en 2,en 3,en 7,en 8,en 9,en 10,ec 4 [14],en 5,en 6,ec 11 [21],en 12,en 13,en 14]),(8,hs 8 [ec 4 [28]])]⟩
def CJ:Hint:=⟨[],[],[(5,[en 0,en 1,en 2,en 3,en 4,en 5,en 9,en 10,en 11,ec 6 [20],en 7,en 8,en 12,en 13,en 14]),(9,[en 0,en 1,en 2,en 3,en 4,eh 5,en 6,en 7,en 8]),(11,[en 0,en 1,en 2,en 3,en 4,en 5,en 6,en 7,en 8,en 9,en 13,en 14,en 18,en 19,en 20,ec 10 [56],en 11,en 12,ec 15 [61],en 16,en 17,en 21,en 22,en 23])]⟩
def sK:Hint:=⟨[hc 3 [1,3,4] [(3,9,0)]],[],[(5,hs 10 [ec 6 [18]]),(16,[en 0,en 1,en 2,en 3,en 4,en 5,en 6,en 7,en 8,en 9,en 10,en 11,en 12]),(21,hs 4 [ec 2 [77]])]⟩
def ri:Hint:=⟨[],[],[(1,hs 3 [ec 1 [3]]),(3,hs 3 [ec 1 [6]])]⟩
def pX:Hint:=⟨[],[],[(1,hs 3 [ec 1 [3]]),(3,hs 3 [ec 1 [6]])]⟩
def sF:Hint:=⟨[hc 9 [0,6,7,8,9]],[],[]⟩
def CG:Hint:=⟨[],[],[(1,[en 0,en 1,en 2,en 3,en 4,en 5,en 6,en 7,en 8,en 9,en 10,en 11,en 12,en 13,en 14,en 15,en 16,en 17,en 18,en 19,en 20,en 21,en 22,en 23,en 24,en 25,en 26,en 27,en 28,en 29,en 30,en 31,en 32,en 33,en 34,en 35,en 36,en 37,en 38])]⟩
def sI:Hint:=⟨[hc 2 [0,3]],[],[(2,[en 0,en 1,en 2,en 3,en 4,en 5,en 6,en 7,en 8,en 9,en 10,en 11,en 12,en 13,en 14,en 15,en 16,en 17,en 18,en 19,en 20,en 21,en 22,en 23,en 24,en 25,en 26,en 27,en 28,en 29,en 30,en 31,en 32,en 33,en 34,en 35,en 36,en 37,en 38,en 39,en 40,en 41,en 42,en 43,en 44,en 45,en 46,en 47,en 48,en 49,en 50,en 51,en 52,en 53,en 54,en 55,en 56,en 57]),(4,[en 0,en 1,en 2,en 3,en 4,en 5,en 6,en 7,en 8,en 9,en 10])]⟩
def vO:Hint:=⟨[hc 2 [0,2,3,5,8,9]],[],[(6,[en 0,en 1,en 2,en 3,eh 4,en 5,eh 6,en 7,eh 8])]⟩
def DP:Hint:=⟨[],[],[(9,hs 5 [ec 3 [27]])]⟩
def CL:Hint:=⟨[],[],[(3,hs 5 [ec 3 [14]]),(4,[en 0,en 1,en 2,en 3,en 4,en 5,en 6,en 7,en 8,en 9,en 10,en 11,en 12,en 13,en 14,en 15,en 16,en 17,en 18,eh 19]),(5,[en 0,en 1,en 2,en 3,en 4,en 5,en 6,en 7,en 8,en 9,en 10,en 11,en 12,en 13,en 14,en 15,en 16,en 17,en 18,eh 19,en 20,en 21]),(9,[en 0,en 1,en 2,en 3,en 4,en 5,en 6,en 7,en 8,en 9,en 10,en 11,en 12,en 13,en 14,eh 15]),(11,hs 5 [ec 3 [87]])]⟩
def CK:Hint:=⟨[],[],[(7,hs 5 [ec 3 [21]]),(11,hs 5 [ec 3 [33]]),(15,hs 5 [ec 3 [46]]),(17,hs 5 [ec 3 [53]]),(19,hs 5 [ec 3 [60]]),(21,hs 5 [ec 3 [67]]),(22,hs 7 [ec 5 [73]])]⟩
def CM:Hint:=⟨[],[],[(1,[en 0,en 1,en 2,en 3,en 4,en 5,en 6,en 7,en 8,en 9,en 10,en 11,en 12,en 13,en 14,en 15,en 16,en 17,en 18,en 19,en 20,en 21,en 22,eh 23]),(16,[en 0,en 1,en 2,en 3,en 4,en 5,en 6,en 7,en 8,en 9,en 10,en 11,en 12,en 13,en 14,en 15,en 16,en 17,en 18,en 19,en 20,en 21,en 22])]⟩
def qm:Hint:=⟨[],[],[(3,hs 19 [ec 15 [25]])]⟩
def xC (Q:QT [.str])(N0:Nat)(a0:Option Addr)(e0:List D)(c0:Nat)(I:ByteArray)(J c5:Nat)(O:Int)(r0:List D)(U:Nat)(N:Nat):Prop:=AT prog 89 [.str] Q N0 .ord (zT prog 89 3) ⟨.sv a0 0 e0 c0::.str I::an 3 (.sb 0 0 0 J c5::.int .i64 O::an 20 []),[.arr 5 0 r0 U],N,none⟩
def xM (Q:QT [.str])(N0:Nat)(I c3:Nat)(n4:Int)(J:D)(r1:List D)(O:Nat)(N:Nat):Prop:=AT prog 22 [.str] Q N0 .ord (zT prog 22 3) ⟨an 1 (.pb 0 0 0 0::an 1 (.sb 1 0 0 I c3::.int .i64 n4::an 75 [])),[.vd J 9,.arr 9 0 r1 O],N,none⟩
def zi (Q:QT [.int .i64,.bool])(N0:Nat)(I:ByteArray)(b6:Bool)(J:ByteArray)(O U:Int)(N:Nat):Prop:=AT prog 132 [.int .i64,.bool] Q N0 .ord (zT prog 132 9) ⟨.str I::an 5 (.bool b6::.str J::.int .i64 O::.int .i64 U::an 53 []),[],N,none⟩
def zj (E:Env)(Q:QT [.str,.str,.i,.bool])(N0:Nat)(U:Int)(I:ByteArray)(J:Int)(O:Bool)(N:Nat):Prop:=AT prog 67 [.str,.str,.i,.bool] Q N0 (.io E [.var [.str b0,.int .i64 0,.bool false]]) (zT prog 67 2) ⟨.pb 0 0 0 0::an 2 (.int .i64 U::an 80 []),[.var [.str I,.int .i64 J,.bool O]],N,some (zq E 0 [.var [.str b0,.int .i64 0,.bool false]],[])⟩
def v7 (E:Env)(Q:QT [.ag 9,.str,.i,.bool])(N0:Nat)(n2 n3 n9:Int)(I:ByteArray)(J:Int)(O:Bool)(y1:D)(U:Int)(V Y:ByteArray)(Z aa:Int)(ab:Option Addr)(ac:List D)(ae:Nat)(ah:Int)(ai:Option Addr)(aj:List D)(ak:Nat)(al:Option Addr)(ao:List D)(aq:Nat)(N:Nat):Prop:=AT prog 100 [.ag 9,.str,.i,.bool] Q N0 (.io E [.var [.str b0,.int .i64 0,.bool false]]) (zT prog 100 2) ⟨.pb 0 0 0 0::an 1 (.int .i64 n2::.int .i64 n3::an 1 (.pb 1 0 0 0::an 2 (.pb 2 0 0 0::.int .i64 n9::an 27 []))),[.var [.str I,.int .i64 J,.bool O],.vd y1 9,.var [.int .i64 U,.str V,.str Y,.int .i64 Z,.int .i64 aa,.sv ab 2 ac ae,.int .i64 ah,.sv ai 2 aj ak,.sv al 9 ao aq]],N,some (zq E 0 [.var [.str b0,.int .i64 0,.bool false]],[])⟩
def zO (E:Env)(Q:QT [.ag 9,.str,.i,.bool])(N0:Nat)(n2 n3 n9:Int)(I:ByteArray)(J:Int)(O:Bool)(U V Y Z aa ab ac ae:D)(ah ai:Nat)(aj:Int)(ak al:ByteArray)(ao aq:Int)(au:Option Addr)(aw:List D)(ax:Nat)(ay:Int)(az:Option Addr)(a1:List D)(a6:Nat)(a7:Option Addr)(a8:List D)(ba:Nat)(r3:List D)(q3:Nat)(N:Nat):Prop:=AT prog 100 [.ag 9,.str,.i,.bool] Q N0 (.io E [.var [.str b0,.int .i64 0,.bool false]]) (zT prog 100 2) ⟨.pb 0 0 0 0::an 1 (.int .i64 n2::.int .i64 n3::an 1 (.pb 1 0 0 0::an 2 (.pb 2 0 0 0::.int .i64 n9::an 27 []))),[.var [.str I,.int .i64 J,.bool O],.var [.dc U,.dc V,.dc Y,.dc Z,.dc aa,.dc ab,.dc ac,.dc ae,.sb 3 9 0 ah ai],.var [.int .i64 aj,.str ak,.str al,.int .i64 ao,.int .i64 aq,.sv au 2 aw ax,.int .i64 ay,.sv az 2 a1 a6,.sv a7 9 a8 ba],.arr 29 9 r3 q3],N,some (zq E 0 [.var [.str b0,.int .i64 0,.bool false]],[])⟩
theorem FS (N:Nat) (a0:Option Addr) (e0:List D) (c0:Nat) (I:ByteArray) (Q:QT [.str]) (h :
Bel N (D.sl a0 0 e0 c0)->xC Q N a0 e0 c0 I 0 0 0 [] 0 N):ACalls prog 89 [.str] [PV.sv a0 0 e0 c0,PV.str I] N Q:=
 eE pW h
theorem wK (N:Nat) (I:D) (Q:QT [.str]) (h :
Bel N I->∃ n:Int,(I.cell 0)=D.j n/\Br (n==1) (uP N (Q (bytes [73]))) (Br (n==2) (uP N (Q (bytes [66]))) (Br (n==3) (∃ a b,∃ c:Nat,
 (I.cell 1)=D.sl a 2 b c/\((0:Int)<=(0:Int)/\0<(b.length:Int))/\∃ a c,∃ d:Nat,(I.cell 1)=D.sl a 2 c d/\((0:Int)<=(1 :
 Int)/\1<(c.length:Int))/\kS 90 [.dg 2 (List.getD b 0 default)] N (λs a=>(1+s.size:Nat)<=9223372036854775807/\(ByteArray.size (bytes [40]
 ++ s)+1:Nat)<=9223372036854775807/\kS 90 [.dg 2 (List.getD c 1 default)] a (λa b=>(ByteArray.size (bytes [40]++s++bytes [62])+a.size :
 Nat)<=9223372036854775807/\(ByteArray.size (bytes [40]++s++bytes [62]++a)+1:Nat)<=9223372036854775807/\uP b (Q (bytes [40]++s++bytes [62]
 ++ a++bytes [41]))))) (∃ a b,∃ c:Nat,(I.cell 1)=D.sl a 2 b c/\((0:Int)<=(0:Int)/\0<(b.length:Int))/\kS 90 [.dg 2
 (List.getD b 0 default)] N (λa b=>(1+a.size:Nat)<=9223372036854775807/\(ByteArray.size (bytes [60]++a)+1:Nat)<=9223372036854775807 /\
 uP b (Q (bytes [60]++a++bytes [62]))))))):ACalls prog 90 [.str] [PV.dg 2 I] N Q:=
  eE CH h
theorem DE (N:Nat) (I:D) (J:Option Addr) (e1:List D) (O:Nat) (Q:QT [.str]) (h :
Bel N I->Bel N (D.sl J 0 e1 O)->∃ n:Int,(I.cell 0)=D.j n/\Br (n==5) (kS 89 [.sv J 0 e1 O,.str (bytes [32])] N (λs a=>(4+s.size :
 Nat)<=9223372036854775807/\(ByteArray.size (bytes [40,105,102,32]++s)+1:Nat)<=9223372036854775807/\uP a (Q (bytes [40,105,102,32]++s++bytes
 [41])))) (Br (n==6) (∃ a,(I.cell 1)=D.t a/\(2+a.size:Nat)<=9223372036854775807/\(ByteArray.size (bytes [40,92]++a)+1:Nat) <=
 9223372036854775807/\((0:Int)<=(0:Int)/\0<(e1.length:Int))/\∃ b,List.getD e1 0 default=D.t b/\kS 90 [.dg 2 (D.sub I 4 2)] N (λc d=>
 (ByteArray.size (bytes [40,92]++a++bytes [58])+c.size:Nat)<=9223372036854775807/\(ByteArray.size (bytes [40,92]++a++bytes [58]++c)+1
 : Nat)<=9223372036854775807/\(ByteArray.size (bytes [40,92]++a++bytes [58]++c++bytes [46])+b.size:Nat)<=9223372036854775807 /\
 (ByteArray.size (bytes [40,92]++a++bytes [58]++c++bytes [46]++b)+1:Nat)<=9223372036854775807/\uP d (Q (bytes [40,92]++a++bytes
 [58]++c++bytes [46]++b++bytes [41])))) (Br (n==7) (kS 89 [.sv J 0 e1 O,.str (bytes [32])] N (λa b=>(1+a.size:Nat) <=
 9223372036854775807/\(ByteArray.size (bytes [40]++a)+1:Nat)<=9223372036854775807/\uP b (Q (bytes [40]++a++bytes [41])))) (Br (n==8) (∃ a,
 (I.cell 1)=D.t a/\(5+a.size:Nat)<=9223372036854775807/\(ByteArray.size (bytes [40,108,101,116,32]++a)+1:Nat)<=9223372036854775807 /\
 kS 89 [.sv J 0 e1 O,.str (bytes [32])] N (λb c=>(ByteArray.size (bytes [40,108,101,116,32]++a++bytes [61])+b.size:Nat) <=
 9223372036854775807/\(ByteArray.size (bytes [40,108,101,116,32]++a++bytes [61]++b)+1:Nat)<=9223372036854775807/\uP c (Q (bytes [40,108,
 101,116,32]++a++bytes [61]++b++bytes [41])))) (Br (n==9) (∃ a,(I.cell 1)=D.t a/\(5+a.size:Nat)<=9223372036854775807 /\
 (ByteArray.size (bytes [40,114,101,99,32]++a)+1:Nat)<=9223372036854775807/\∃ b,(I.cell 2)=D.t b/\(ByteArray.size (bytes [40,114,101,
 99,32]++a++bytes [32])+b.size:Nat)<=9223372036854775807/\(ByteArray.size (bytes [40,114,101,99,32]++a++bytes [32]++b)+1:Nat) <=
 9223372036854775807/\((0:Int)<=(0:Int)/\0<(e1.length:Int))/\∃ c,List.getD e1 0 default=D.t c/\kS 90 [.dg 2 (D.sub I 4 2)] N (λd e
 => (ByteArray.size (bytes [40,114,101,99,32]++a++bytes [32]++b++bytes [58])+d.size:Nat)<=9223372036854775807/\(ByteArray.size (bytes
 [40,114,101,99,32]++a++bytes [32]++b++bytes [58]++d)+1:Nat)<=9223372036854775807/\kS 90 [.dg 2 (D.sub I 6 2)] e (λe f=>
 (ByteArray.size (bytes [40,114,101,99,32]++a++bytes [32]++b++bytes [58]++d++bytes [62])+e.size:Nat)<=9223372036854775807 /\
 (ByteArray.size (bytes [40,114,101,99,32]++a++bytes [32]++b++bytes [58]++d++bytes [62]++e)+1:Nat)<=9223372036854775807 /\
 (ByteArray.size (bytes [40,114,101,99,32]++a++bytes [32]++b++bytes [58]++d++bytes [62]++e++bytes [46])+c.size:Nat) <=
 9223372036854775807/\(ByteArray.size (bytes [40,114,101,99,32]++a++bytes [32]++b++bytes [58]++d++bytes [62]++e++bytes [46] ++
 c)+1:Nat)<=9223372036854775807/\uP f (Q (bytes [40,114,101,99,32]++a++bytes [32]++b++bytes [58]++d++bytes [62]++e++bytes
 [46]++c++bytes [41]))))) (Br (n==12) (((0:Int)<=(0:Int)/\0<(e1.length:Int))/\∃ a,List.getD e1 0 default=D.t a/\(5+a.size :
 Nat)<=9223372036854775807/\(ByteArray.size (bytes [40,114,117,110,32]++a)+1:Nat)<=9223372036854775807/\uP N (Q (bytes [40,114,117,110,32]
 ++ a++bytes [41]))) (((0:Int)<=(0:Int)/\0<(e1.length:Int))/\∃ a,List.getD e1 0 default=D.t a/\(6+a.size:Nat) <=
 9223372036854775807/\(ByteArray.size (bytes [40,108,105,102,116,32]++a)+1:Nat)<=9223372036854775807/\uP N (Q (bytes [40,108,105,102,116,
 32]++a++bytes [41]))))))))):ACalls prog 55 [.str] [PV.dg 9 I,PV.sv J 0 e1 O] N Q:=
  eE CJ h
theorem DF (N:Nat) (I:D) (Q:QT [.str]) (h :
Bel N I->xM Q N 0 0 0 I [] 0 N):ACalls prog 22 [.str] [PV.dg 9 I] N Q:=
 eE sK h
theorem qS (N:Nat) (I:D) (Q:QT [.str]) (h :
Bel N I->kB 9 [.dg 9 I] N (λb a=>Br (!b) (uP a (Q b0)) (kS 22 [.dg 9 I] a (λs a=>uP a (Q s))))):ACalls prog 8 [.str] [PV.dg 9 I] N Q:=
 eE ri h
theorem A0 (N:Nat) (I:D) (Q:QT [.str]) (h :
Bel N I->kB 25 [.dg 9 I] N (λb a=>Br (!b) (uP a (Q b0)) (kS 22 [.dg 9 I] a (λs a=>uP a (Q s))))):ACalls prog 15 [.str] [PV.dg 9 I] N Q:=
 eE pX h
theorem C6 (N:Nat) (I:ByteArray) (n1:Int) (Q:QT [.int .i64,.bool]) (h :
Br (decide ((I.size:Int)>0)) (((0:Int)<=(0:Int)/\0<(I.size:Int))/\Br ((UInt8.toNat (Array.getD (ByteArray.data I) 0 (OfNat.ofNat 0)) :
 Int)==45) (((0:Int)<=(1:Int)/\1<=(I.size:Int)/\(I.size:Int)<=(I.size:Int))/\Br (decide ((ByteArray.size (ByteArray.extract I 1 ((I.size :
 Int)).toNat):Int)<1)) (uP N (Q 0 false)) (Br (decide ((ByteArray.size (ByteArray.extract I 1 ((I.size:Int)).toNat):Int)>n1)) (uP N (Q 0 false))
 (zi Q N I ((UInt8.toNat (Array.getD (ByteArray.data I) 0 (OfNat.ofNat 0)):Int)==45) (ByteArray.extract I 1 ((I.size:Int)).toNat) 0 0 N)))
 (Br (decide ((I.size:Int)<1)) (uP N (Q 0 false)) (Br (decide ((I.size:Int)>n1)) (uP N (Q 0 false)) (zi Q N I ((UInt8.toNat (Array.getD
 (ByteArray.data I) 0 (OfNat.ofNat 0)):Int)==45) I 0 0 N)))) (Br (decide ((I.size:Int)<1)) (uP N (Q 0 false)) (Br (decide ((I.size:Int)>n1)) (uP
 N (Q 0 false)) (zi Q N I false I 0 0 N)))):ACalls prog 132 [.int .i64,.bool] [PV.str I,PV.int .i64 n1] N Q:=
  eE sF h
theorem rP (N:Nat) (I:ByteArray) (Q:QT [.int .i64,.bool]) (h :
kIB 132 [.str I,.j 6] N (λn b a=>Br (!b) (uP a (Q 0 false)) (Br (decide (n<0)) (uP a (Q 0 false)) (uP a (Q n true))))):ACalls prog 103 [.int .i64,.bool] [PV.str I] N Q:=
 eE H0 h
theorem q8 (N:Nat) (I:ByteArray) (Q:QT [.ag 9,.bool]) (h :
rA 9 30 [.j 1] I 0 false N (λx _ n b a=>Br b (∀ b,a<=b->Q (D.ag [D.j 0,D.t b0,D.t b0,D.j 0,D.j 0,D.sl none 2 [] 0,D.j 0,D.sl none 2 []
 0,D.sl none 9 [] 0]) false b) (Br (bne n (I.size:Int)) (∀ b,a<=b->Q (D.ag [D.j 0,D.t b0,D.t b0,D.j 0,D.j 0,D.sl none 2 [] 0,D.j 0,D.sl none 2
 [] 0,D.sl none 9 [] 0]) false b) (kS 8 [.dg 9 x] a (λa b=>Br (!(ByteArray.toList a==ByteArray.toList I)) (∀ a,b<=a->Q (D.ag [D.j 0,D.t
 b0,D.t b0,D.j 0,D.j 0,D.sl none 2 [] 0,D.j 0,D.sl none 2 [] 0,D.sl none 9 [] 0]) false a) (uP b (Q x true))))))):ACalls prog 13 [.ag 9,.bool] [PV.str I] N Q:=
  eE qm h
theorem sd {Q:QT [.str]} {N0:Nat} {a0:Option Addr} {e0:List D} {c0:Nat} {J:ByteArray} {O c5:Nat} {I:Int} {r0:List D} {U:Nat} {N:Nat} (h :
Br (decide (I<(e0.length:Int))) (Br (decide (I>0)) ((O=r0.length/\c5=U)/\zA r0 (zo J) 1/\∀(c:Nat),(0<=I/\I<(e0.length
 : Int))/\∃ s,List.getD e0 I.toNat default=D.t s/\((r0++zo J).length=(r0++zo J).length/\c=c)/\zA (r0++zo J) (zo s) 1 /\
 ∀(a:Nat),xC Q N0 a0 e0 c0 J (r0++zo J++zo s).length a (IntKind.i64.wrap (I+1)) (r0++zo J++zo s) a N) ((0<=I
 /\ I<(e0.length:Int))/\∃ a,List.getD e0 I.toNat default=D.t a/\(O=r0.length/\c5=U)/\zA r0 (zo a) 1/\∀(b:Nat),
 xC Q N0 a0 e0 c0 J (r0++zo a).length b (IntKind.i64.wrap (I+1)) (r0++zo a) b N)) (O<=r0.length/\∃ a:List Int,List.take
 O r0=List.map (λn=>D.lit (.int IntKind.u8 n)) a/\uP N (Q (bytesOf a)))):xC Q N0 a0 e0 c0 J O c5 I r0 U N:=
  hE pW h
theorem uV {Q:QT [.str]} {N0:Nat} {J c3:Nat} {n4:Int} {I:D} {r1:List D} {O:Nat} {N:Nat} (h :
∃ a b,∃ c:Nat,(I.cell 8)=D.sl a 9 b c/\Br (decide (n4<(b.length:Int))) (∃ a b,∃ c:Nat,(I.cell 8)=D.sl a 9 b c/\(0<=n4
 /\ n4<(b.length:Int))/\kS 22 [.dg 9 (List.getD b n4.toNat default)] N (λs a=>(J=r1.length/\c3=O)/\zA r1 [D.t s] 16/\∀(b:Nat),
 xM Q N0 (r1++[D.t s]).length b (IntKind.i64.wrap (n4+1)) I (r1++[D.t s]) b a)) (∃ n:Int,(I.cell 0)=D.j n/\Br (n==1) (∃ a,
 (I.cell 1)=D.t a/\uP N (Q a)) (Br (n==2) (∃ a:Int,(I.cell 3)=D.j a/\kS 54 [.j a] N (λa b=>uP b (Q a))) (Br (n==3) (∃ a :
 Int,(I.cell 3)=D.j a/\∃ b:Int,(I.cell 3)=D.j b/\(0<=a/\a<=IntKind.i64.wrap (b+1)/\IntKind.i64.wrap (b+1)<=2)/\(1 +
 ByteArray.size (ByteArray.extract (bytes [102,116]) a.toNat (IntKind.i64.wrap (b+1)).toNat):Nat)<=9223372036854775807/\∀ c,N<=c->Q (bytes [35]
 ++ ByteArray.extract (bytes [102,116]) a.toNat (IntKind.i64.wrap (b+1)).toNat) c) (Br (n==4) (Br ((J:Int)==1) (((0:Int)<=(0:Int)/\0<(J :
 Int)/\0<r1.length)/\0<r1.length/\∃ a,List.getD r1 0 default=D.t a/\(2+a.size:Nat)<=9223372036854775807/\(ByteArray.size (bytes [40,33]
 ++ a)+1:Nat)<=9223372036854775807/\uP N (Q (bytes [40,33]++a++bytes [41]))) (((0:Int)<=(0:Int)/\0<(J:Int)/\0<r1.length)/\0 <
 r1.length/\∃ a,List.getD r1 0 default=D.t a/\(1+a.size:Nat)<=9223372036854775807/\∃ b,(I.cell 1)=D.t b/\(ByteArray.size (bytes [40] ++
 a)+b.size:Nat)<=9223372036854775807/\((0:Int)<=(1:Int)/\1<(J:Int)/\1<r1.length)/\1<r1.length/\∃ c,List.getD r1 1 default=D.t
 c/\(ByteArray.size (bytes [40]++a++b)+c.size:Nat)<=9223372036854775807/\(ByteArray.size (bytes [40]++a++b++c)+1:Nat) <=
 9223372036854775807/\uP N (Q (bytes [40]++a++b++c++bytes [41])))) (Br (n==10) (((0:Int)<=(0:Int)/\0<(J:Int)/\0<r1.length)/\0 <
 r1.length/\∃ a,List.getD r1 0 default=D.t a/\(1+a.size:Nat)<=9223372036854775807/\(ByteArray.size (bytes [60]++a)+1:Nat) <=
 9223372036854775807/\uP N (Q (bytes [60]++a++bytes [62]))) (Br (n==11) (((0:Int)<=(0:Int)/\0<(J:Int)/\0<r1.length)/\0<r1.length/\∃
 a,List.getD r1 0 default=D.t a/\(1+a.size:Nat)<=9223372036854775807/\uP N (Q (bytes [126]++a))) ((J=r1.length/\c3=O)/\∀ a,ApA a
 r1->Off [a] I->∀ b,N<=b->GO b [a]->ACalls prog 55 [.str] [.dg 9 I,.sv a 0 r1 c3] b (λa c=>b<=c->uP c (Q a)))))))))):xM Q N0 J c3 n4 I r1 O N:=
  hE sK h
theorem uM {Q:QT [.int .i64,.bool]} {N0:Nat} {s0:ByteArray} {b6:Bool} {s7:ByteArray} {n8 n9:Int} {N:Nat} (h :
Br (decide (n9<(s7.size:Int))) ((0<=n9/\n9<(s7.size:Int))/\Br (decide ((UInt8.toNat (Array.getD (ByteArray.data s7) n9.toNat (OfNat.ofNat 0)) :
 Int)<48)) (uP N (Q 0 false)) ((0<=n9/\n9<(s7.size:Int))/\Br (decide ((UInt8.toNat (Array.getD (ByteArray.data s7) n9.toNat (OfNat.ofNat 0)):Int) >
 57)) (uP N (Q 0 false)) ((0<=n9/\n9<(s7.size:Int))/\zi Q N0 s0 b6 s7 (IntKind.i64.wrap (IntKind.i64.wrap (10*n8)+IntKind.i64.wrap
 (IntKind.u8.wrap ((UInt8.toNat (Array.getD (ByteArray.data s7) n9.toNat (OfNat.ofNat 0)):Int) - 48)))) (IntKind.i64.wrap (n9+1)) N))) (Br b6 (kS 54 [.j
 (IntKind.i64.wrap (0 - n8))] N (fun s a=>Br (!(ByteArray.toList s==ByteArray.toList s0)) (uP a (Q 0 false)) (uP a (Q (IntKind.i64.wrap (0 - n8)) true))))
 (kS 54 [.j n8] N (fun a b=>Br (!(ByteArray.toList a==ByteArray.toList s0)) (uP b (Q 0 false)) (uP b (Q n8 true)))))):zi Q N0 s0 b6 s7 n8 n9 N:=
  hE sF h
theorem vp (N:Nat) (n1:Int) (I:ByteArray) (J:Int) (O:Bool) (Q:QT [(Sh.ag 9),Sh.str,(Sh.int IntKind.i64),Sh.bool]) (h:∀ E:Env,
Br O (zC E [.var [.str b0,.j 0,.bool false]]/\∀ a,N<=a->Q (D.ag [D.j 0,D.t b0,D.t b0,D.j 0,D.j 0,D.sl none 2 [] 0,D.j 0,
 D.sl none 2 [] 0,D.sl none 9 [] 0]) I J true a) (Br (decide (n1>20)) (zC E [.var [.str b0,.j 0,.bool false]]/\∀ a,N<=a->Q (D.ag [D.j 0,
 D.t b0,D.t b0,D.j 0,D.j 0,D.sl none 2 [] 0,D.j 0,D.sl none 2 [] 0,D.sl none 9 [] 0]) I J true a) (Br (decide (J≥(I.size:Int))) (zC
 E [.var [.str b0,.j 0,.bool false]]/\∀ a,N<=a->Q (D.ag [D.j 0,D.t b0,D.t b0,D.j 0,D.j 0,D.sl none 2 [] 0,D.j 0,D.sl none 2 [] 0,D.sl none 9 []
 0]) I J (decide (J≥(I.size:Int))) a) (rB 62 [.str (bytes [35,116])] I J (decide (J≥(I.size:Int))) N (λb s n c d
 => Br b (kA 9 63 [.j 1] d (λx a=>zC E [.var [.str b0,.j 0,.bool false]]/\uP a (Q x s n c))) (rB 62 [.str (bytes [35,102])] s n c d (λb
 c d e f=>Br b (kA 9 63 [.j 0] f (λa b=>zC E [.var [.str b0,.j 0,.bool false]]/\uP b (Q a c d e))) (rB 62 [.str (bytes
 [126])] c d e f (λb c d e f=>Br b (rA 9 30 [.j (IntKind.i64.wrap (n1+1))] c d e f (λb c d e f=>w3 (1 =
 ([b]).length/\1=1) (∀ a g,f<=g->Fresh N g a [D.ag [b],D.sl none 2 [] 0,D.sl none 2 [] 0]->zC E [.var [.str b0,.j 0,.bool false]]/\∀
 f,g<=f->Q (D.ag [D.j 11,D.t b0,D.t b0,D.j 0,D.j 0,D.sl none 2 [] 0,D.j 0,D.sl none 2 [] 0,D.sl a 9 [b] 1]) c d e f))) (rB 62 [.str
 (bytes [60])] c d e f (λa b c d e=>Br a (rA 9 30 [.j (IntKind.i64.wrap (n1+1))] b c d e (λa b c d e=>rU 64
 [.str (bytes [62])] b c d e (λb c d e=>w5 (1=([a]).length/\1=1) (∀ f g,e<=g->Fresh N g f [D.ag [a],D.sl none 2 []
 0,D.sl none 2 [] 0]->zC E [.var [.str b0,.j 0,.bool false]]/\∀ e,g<=e->Q (D.ag [D.j 10,D.t b0,D.t b0,D.j 0,D.j 0,D.sl none 2 [] 0,D.j 0,
 D.sl none 2 [] 0,D.sl f 9 [a] 1]) b c d e)))) (rB 62 [.str (bytes [40])] b c d e (λa b c d e=>Br a (rA 9 65 [.j
 (IntKind.i64.wrap (n1+1))] b c d e (λa b c d e=>zC E [.var [.str b0,.j 0,.bool false]]/\uP e (Q a b c d))) ((0<=c
 /\ c<(b.size:Int))/\Br (decide ((UInt8.toNat (Array.getD (ByteArray.data b) c.toNat (OfNat.ofNat 0)):Int)≥48)) ((0<=c/\c<(b.size :
 Int))/\Br (decide ((UInt8.toNat (Array.getD (ByteArray.data b) c.toNat (OfNat.ofNat 0)):Int)<=57)) (rA 9 66 [] b c d e (λa b c d
 e=>zC E [.var [.str b0,.j 0,.bool false]]/\uP e (Q a b c d))) (rS 67 [] b c d e (λa b c d e=>kA 9 35 [.str a]
 e (λa e=>zC E [.var [.str b0,.j 0,.bool false]]/\uP e (Q a b c d))))) (rS 67 [] b c d e (λa b c d e=>kA
 9 35 [.str a] e (λa e=>zC E [.var [.str b0,.j 0,.bool false]]/\uP e (Q a b c d)))))))))))))))))):BCalls prog 30 [(Sh.ag 9),Sh.str,(Sh.int IntKind.i64),Sh.bool] [.pb 0 0 0 0,.int .i64 n1] [.var [.str I,.int .i64 J,.bool O]] N Q:=
  bE CM h
theorem pF (N:Nat) (U J:ByteArray) (I:Int) (O:Bool) (Q:QT [Sh.bool,Sh.str,(Sh.int IntKind.i64),Sh.bool]) (h:∀ E:Env,
Br O (zC E [.var [.str b0,.j 0,.bool false]]/\uP N (Q false J I O)) (Br (decide (IntKind.i64.wrap (I+(U.size:Int))
 > (J.size:Int))) (zC E [.var [.str b0,.j 0,.bool false]]/\uP N (Q false J I O)) ((0<=I/\I<=IntKind.i64.wrap (I+(U.size
 : Int))/\IntKind.i64.wrap (I+(U.size:Int))<=(J.size:Int))/\Br (!(ByteArray.toList (ByteArray.extract J I.toNat (IntKind.i64.wrap
 (I+(U.size:Int))).toNat)==ByteArray.toList U)) (zC E [.var [.str b0,.j 0,.bool false]]/\uP N (Q false J I O)) (zC E [.var [.str
 b0,.j 0,.bool false]]/\∀ a,N<=a->Q true J (IntKind.i64.wrap (I+(U.size:Int))) O a)))):BCalls prog 62 [Sh.bool,Sh.str,(Sh.int IntKind.i64),Sh.bool] [.pb 0 0 0 0,.str U] [.var [.str J,.int .i64 I,.bool O]] N Q:=
  bE CG h
theorem pE (N:Nat) (U I:ByteArray) (J:Int) (O:Bool) (Q:QT [Sh.str,(Sh.int IntKind.i64),Sh.bool]) (h:∀ E:Env,
Br O (zC E [.var [.str b0,.j 0,.bool false]]/\uP N (Q I J true)) (rB 62 [.str U] I J O N (λb s n _ a=>zC
 E [.var [.str b0,.j 0,.bool false]]/\uP a (Q s n (!b))))):BCalls prog 64 [Sh.str,(Sh.int IntKind.i64),Sh.bool] [.pb 0 0 0 0,.str U] [.var [.str I,.int .i64 J,.bool O]] N Q:=
  bE H0 h
theorem pJ (N:Nat) (n1:Int) (I:ByteArray) (J:Int) (O:Bool) (Q:QT [(Sh.ag 9),Sh.str,(Sh.int IntKind.i64),Sh.bool]) (h:∀ E:Env,
rB 62 [.str (bytes [92])] I J O N (λb s n a c=>Br b (rS 67 [] s n a c (λa b c d e=>rU 64 [.str (bytes
 [58])] b c d e (λb c d e=>rA 2 99 [.j 1] b c d e (λx b c d e=>rU 64 [.str (bytes [46])] b c d e (λb c d
 e=>rA 9 100 [.dg 9 (D.ag [D.j 6,D.t a,D.t b0,D.j 0,(x.cell 0),(x.cell 1),D.j 0,D.sl none 2 [] 0,D.sl none 9 [] 0]),.j 1,.j n1] b c d e
 (λa b c d e=>zC E [.var [.str b0,.j 0,.bool false]]/\uP e (Q a b c d))))))) (rB 62 [.str (bytes [108,101,116,32])] s n a c
 (λa b c d e=>Br a (rS 67 [] b c d e (λa b c d e=>rU 64 [.str (bytes [61])] b c d e (λb c d e=>rA
 9 100 [.dg 9 (D.ag [D.j 8,D.t a,D.t b0,D.j 0,D.j 0,D.sl none 2 [] 0,D.j 0,D.sl none 2 [] 0,D.sl none 9 [] 0]),.j 2,.j n1] b c d e (λa
 b c d e=>zC E [.var [.str b0,.j 0,.bool false]]/\uP e (Q a b c d))))) (rB 62 [.str (bytes [114,101,99,32])] b c d e (fun
 a b c d e=>Br a (rA 9 101 [.j n1] b c d e (λa b c d e=>zC E [.var [.str b0,.j 0,.bool false]]/\uP e (Q
 a b c d))) (rB 62 [.str (bytes [105,102,32])] b c d e (λa b c d e=>Br a (rA 9 100 [.dg 9 (D.ag [D.j 5,D.t b0,D.t
 b0,D.j 0,D.j 0,D.sl none 2 [] 0,D.j 0,D.sl none 2 [] 0,D.sl none 9 [] 0]),.j 3,.j n1] b c d e (λa b c d e=>zC E [.var
 [.str b0,.j 0,.bool false]]/\uP e (Q a b c d))) (rB 62 [.str (bytes [114,117,110,32])] b c d e (λa b c d e=>Br
 a (rA 9 100 [.dg 9 (D.ag [D.j 12,D.t b0,D.t b0,D.j 0,D.j 0,D.sl none 2 [] 0,D.j 0,D.sl none 2 [] 0,D.sl none 9 [] 0]),.j 1,.j n1] b c d
 e (λa b c d e=>zC E [.var [.str b0,.j 0,.bool false]]/\uP e (Q a b c d))) (rB 62 [.str (bytes [108,105,102,116,32])]
 b c d e (λa b c d e=>Br a (rA 9 100 [.dg 9 (D.ag [D.j 13,D.t b0,D.t b0,D.j 0,D.j 0,D.sl none 2 [] 0,D.j 0,D.sl none 2 []
 0,D.sl none 9 [] 0]),.j 1,.j n1] b c d e (λa b c d e=>zC E [.var [.str b0,.j 0,.bool false]]/\uP e (Q a b c
 d))) (rB 62 [.str (bytes [33])] b c d e (λa b c d e=>Br a (rA 9 100 [.dg 9 (D.ag [D.j 4,D.t (bytes [33]),D.t b0,D.j 0,
 D.j 0,D.sl none 2 [] 0,D.j 0,D.sl none 2 [] 0,D.sl none 9 [] 0]),.j 1,.j n1] b c d e (λa b c d e=>zC E [.var [.str b0,.j
 0,.bool false]]/\uP e (Q a b c d))) (rA 9 30 [.j n1] b c d e (λa b c d e=>rA 9 102 [.dg 9 a,.j n1] b c d
 e (λa b c d e=>zC E [.var [.str b0,.j 0,.bool false]]/\uP e (Q a b c d)))))))))))))))))):BCalls prog 65 [(Sh.ag 9),Sh.str,(Sh.int IntKind.i64),Sh.bool] [.pb 0 0 0 0,.int .i64 n1] [.var [.str I,.int .i64 J,.bool O]] N Q:=
  bE CK h
theorem rT (N:Nat) (sB0_0:ByteArray) (nB0_1:Int) (bB0_2:Bool) (Q:QT [(Sh.ag 9),Sh.str,(Sh.int IntKind.i64),Sh.bool]) (h:∀ E:Env,
rS 67 [] sB0_0 nB0_1 bB0_2 N (fun s a n b c=>kIB 103 [.str s] c (fun c d e=>Br b (kA 9 104 [.j c] e (fun x b=>zC E [.var
 [.str b0,.j 0,.bool false]]/\uP b (Q x a n true))) (kA 9 104 [.j c] e (fun b c=>zC E [.var [.str b0,.j 0,.bool false]]/\uP c (Q b a n
 (!d))))))):BCalls prog 66 [(Sh.ag 9),Sh.str,(Sh.int IntKind.i64),Sh.bool] [.pb 0 0 0 0] [.var [.str sB0_0,.int .i64 nB0_1,.bool bB0_2]] N Q:=
  bE H0 h
theorem pG (N:Nat) (J:ByteArray) (I:Int) (O:Bool) (Q:QT [Sh.str,Sh.str,(Sh.int IntKind.i64),Sh.bool]) (h:∀ E:Env,
zj E Q N I J I O N):BCalls prog 67 [Sh.str,Sh.str,(Sh.int IntKind.i64),Sh.bool] [.pb 0 0 0 0] [.var [.str J,.int .i64 I,.bool O]] N Q:=
 bE sI h
theorem vn (N:Nat) (n1:Int) (I:ByteArray) (J:Int) (O:Bool) (Q:QT [(Sh.ag 2),Sh.str,(Sh.int IntKind.i64),Sh.bool]) (h:∀ E:Env,
Br O (zC E [.var [.str b0,.j 0,.bool false]]/\uP N (Q (D.ag [D.j 0,D.sl none 2 [] 0]) I J true)) (Br (decide (n1>8)) (zC E
 [.var [.str b0,.j 0,.bool false]]/\uP N (Q (D.ag [D.j 0,D.sl none 2 [] 0]) I J (decide (n1>8)))) (rB 62 [.str (bytes [73])] I J (decide
 (n1>8)) N (λb s n c d=>Br b (kA 2 72 [] d (λx a=>zC E [.var [.str b0,.j 0,.bool false]]/\uP a (Q x s n c))) (rB 62 [.str (bytes [66])]
 s n c d (λb c d e f=>Br b (kA 2 131 [] f (λa b=>zC E [.var [.str b0,.j 0,.bool false]]/\uP b (Q a c d e))) (rB 62
 [.str (bytes [60])] c d e f (λb c d e f=>Br b (rA 2 99 [.j (IntKind.i64.wrap (n1+1))] c d e f (λb c d e f=>rU
 64 [.str (bytes [62])] c d e f (λc d e f=>w5 (1=([b]).length/\1=1) (∀ a g,f<=g->Fresh N g a [D.ag [b]]->zC E [.var
 [.str b0,.j 0,.bool false]]/\uP g (Q (D.ag [D.j 4,D.sl a 2 [b] 1]) c d e))))) (rU 64 [.str (bytes [40])] c d e f (λa b c d=>
 Br c (zC E [.var [.str b0,.j 0,.bool false]]/\uP d (Q (D.ag [D.j 0,D.sl none 2 [] 0]) a b c)) (rA 2 99 [.j (IntKind.i64.wrap (n1+1))] a b
 c d (λa b c d e=>rU 64 [.str (bytes [62])] b c d e (λb c d e=>Br d (zC E [.var [.str b0,.j 0,.bool false]]/\uP
 e (Q (D.ag [D.j 0,D.sl none 2 [] 0]) b c d)) (rA 2 99 [.j (IntKind.i64.wrap (n1+1))] b c d e (λb c d e f=>rU 64 [.str
 (bytes [41])] c d e f (λc d e f=>w3 (2=([a,b]).length/\2=2) (∀ g h,f<=h->Fresh N h g [D.ag [a,b]]->zC E
 [.var [.str b0,.j 0,.bool false]]/\uP h (Q (D.ag [D.j 3,D.sl g 2 [a,b] 2]) c d e)))))))))))))))))):BCalls prog 99 [(Sh.ag 2),Sh.str,(Sh.int IntKind.i64),Sh.bool] [.pb 0 0 0 0,.int .i64 n1] [.var [.str I,.int .i64 J,.bool O]] N Q:=
  bE H0 h
theorem vo (N:Nat) (U:D) (n2 V:Int) (I:ByteArray) (J:Int) (O:Bool) (Q:QT [(Sh.ag 9),Sh.str,(Sh.int IntKind.i64),Sh.bool]) (h:∀ E:Env,
Bel N U->v7 E Q N n2 V 0 I J O U 0 b0 b0 0 0 none [] 0 0 none [] 0 none [] 0 N):BCalls prog 100 [(Sh.ag 9),Sh.str,(Sh.int IntKind.i64),Sh.bool] [.pb 0 0 0 0,.dg 9 U,.int .i64 n2,.int .i64 V] [.var [.str I,.int .i64 J,.bool O]] N Q:=
 bE vO h
theorem A3 (N:Nat) (n1:Int) (I:ByteArray) (J:Int) (O:Bool) (Q:QT [(Sh.ag 9),Sh.str,(Sh.int IntKind.i64),Sh.bool]) (h:∀ E:Env,
rS 67 [] I J O N (λs a n b c=>rU 64 [.str (bytes [32])] a n b c (λa b c d=>rS 67 [] a b c d (λa
 b c d e=>rU 64 [.str (bytes [58])] b c d e (λb c d e=>rA 2 99 [.j 1] b c d e (λx b c d e=>rU 64 [.str (bytes
 [62])] b c d e (λb c d e=>rA 2 99 [.j 1] b c d e (λb c d e f=>rU 64 [.str (bytes [46])] c d e f (λc d
 e f=>rA 9 100 [.dg 9 (D.ag [D.j 9,D.t s,D.t a,D.j 0,(x.cell 0),(x.cell 1),(b.cell 0),(b.cell 1),D.sl none 9 [] 0]),.j 1,.j n1] c d e
 f (λa b c d e=>zC E [.var [.str b0,.j 0,.bool false]]/\uP e (Q a b c d))))))))))):BCalls prog 101 [(Sh.ag 9),Sh.str,(Sh.int IntKind.i64),Sh.bool] [.pb 0 0 0 0,.int .i64 n1] [.var [.str I,.int .i64 J,.bool O]] N Q:=
  bE DP h
theorem pK (N:Nat) (I:D) (n2:Int) (J:ByteArray) (O:Int) (U:Bool) (Q:QT [(Sh.ag 9),Sh.str,(Sh.int IntKind.i64),Sh.bool]) (h:∀ E:Env,
Bel N I->rB 62 [.str (bytes [32])] J O U N (λb s n c d=>Br b (w4 (1=([I]).length/\1=1) (∀ a b,d<=b->Fresh N b
 a [D.ag [I]]->rA 9 100 [.dg 9 (D.ag [D.j 7,D.t b0,D.t b0,D.j 0,D.j 0,D.sl none 2 [] 0,D.j 0,D.sl none 2 [] 0,D.sl a 9 [I] 1]),.j 1,.j n2] s n c
 b (λx a b c d=>zC E [.var [.str b0,.j 0,.bool false]]/\uP d (Q x a b c)))) (Br c (w5 (1=([I]).length/\1=1) (∀ a b,d<=b ->
 Fresh N b a [D.ag [I],D.sl none 2 [] 0,D.sl none 2 [] 0]->zC E [.var [.str b0,.j 0,.bool false]]/\∀ c,b<=c->Q (D.ag [D.j 7,D.t b0,D.t b0,
 D.j 0,D.j 0,D.sl none 2 [] 0,D.j 0,D.sl none 2 [] 0,D.sl a 9 [I] 1]) s n true c)) (Br (decide (n≥(s.size:Int))) (w5 (1=([I]).length/\1=1) (∀
 a b,d<=b->Fresh N b a [D.ag [I],D.sl none 2 [] 0,D.sl none 2 [] 0]->zC E [.var [.str b0,.j 0,.bool false]]/\∀ c,b<=c->Q (D.ag [D.j
 7,D.t b0,D.t b0,D.j 0,D.j 0,D.sl none 2 [] 0,D.j 0,D.sl none 2 [] 0,D.sl a 9 [I] 1]) s n true c)) ((0<=n/\n<=IntKind.i64.wrap (n+1) /\
 IntKind.i64.wrap (n+1)<=(s.size:Int))/\kI 95 [.str (ByteArray.extract s n.toNat (IntKind.i64.wrap (n+1)).toNat)] d (λa b=>Br (bne a 2) (w5
 (1=([I]).length/\1=1) (∀ a c,b<=c->Fresh N c a [D.ag [I],D.sl none 2 [] 0,D.sl none 2 [] 0]->zC E [.var [.str b0,.j 0,.bool false]]
 /\ ∀ b,c<=b->Q (D.ag [D.j 7,D.t b0,D.t b0,D.j 0,D.j 0,D.sl none 2 [] 0,D.j 0,D.sl none 2 [] 0,D.sl a 9 [I] 1]) s n true b)) ((0<=n/\n <=
 IntKind.i64.wrap (n+1)/\IntKind.i64.wrap (n+1)<=(s.size:Int))/\w4 (1=([I]).length/\1=1) (∀ a c,b<=c->Fresh N c a [D.ag [I]]->rA
 9 100 [.dg 9 (D.ag [D.j 4,D.t (ByteArray.extract s n.toNat (IntKind.i64.wrap (n+1)).toNat),D.t b0,D.j 0,D.j 0,D.sl none 2 [] 0,D.j 0,D.sl none 2 [] 0,
 D.sl a 9 [I] 1]),.j 1,.j n2] s (IntKind.i64.wrap (n+1)) (decide (n≥(s.size:Int))) c (λa b c d e=>zC E [.var [.str b0,.j 0,.bool
 false]]/\uP e (Q a b c d)))))))))):BCalls prog 102 [(Sh.ag 9),Sh.str,(Sh.int IntKind.i64),Sh.bool] [.pb 0 0 0 0,.dg 9 I,.int .i64 n2] [.var [.str J,.int .i64 O,.bool U]] N Q:=
  bE CL h
theorem uR (E:Env) (Q:QT [Sh.str,Sh.str,(Sh.int IntKind.i64),Sh.bool]) (N0:Nat) (n3:Int) (s0_0:ByteArray) (n0_1:Int) (b0_2:Bool) (N:Nat) (h :
Br (decide (n0_1<(s0_0.size:Int))) ((0<=n0_1/\n0_1<(s0_0.size:Int))/\Br (decide ((UInt8.toNat (Array.getD (ByteArray.data s0_0) n0_1.toNat
 (OfNat.ofNat 0)):Int)≥48)) ((0<=n0_1/\n0_1<(s0_0.size:Int))/\Br (decide ((UInt8.toNat (Array.getD (ByteArray.data s0_0) n0_1.toNat (OfNat.ofNat 0)) :
 Int)<=57)) (zj E Q N0 n3 s0_0 (IntKind.i64.wrap (n0_1+1)) b0_2 N) ((0<=n0_1/\n0_1<(s0_0.size:Int))/\Br (decide ((UInt8.toNat (Array.getD
 (ByteArray.data s0_0) n0_1.toNat (OfNat.ofNat 0)):Int)≥97)) ((0<=n0_1/\n0_1<(s0_0.size:Int))/\Br (decide ((UInt8.toNat (Array.getD (ByteArray.data
 s0_0) n0_1.toNat (OfNat.ofNat 0)):Int)<=122)) (zj E Q N0 n3 s0_0 (IntKind.i64.wrap (n0_1+1)) b0_2 N) ((0<=n3/\n3<=n0_1/\n0_1<=(s0_0.size
 : Int))/\zC E [.var [.str b0,.j 0,.bool false]]/\uP N (Q (ByteArray.extract s0_0 n3.toNat n0_1.toNat) s0_0 n0_1 b0_2))) ((0<=n3/\n3<=n0_1/\n0_1 <=
 (s0_0.size:Int))/\zC E [.var [.str b0,.j 0,.bool false]]/\uP N (Q (ByteArray.extract s0_0 n3.toNat n0_1.toNat) s0_0 n0_1 b0_2)))) ((0<=n0_1/\n0_1 <
 (s0_0.size:Int))/\Br (decide ((UInt8.toNat (Array.getD (ByteArray.data s0_0) n0_1.toNat (OfNat.ofNat 0)):Int)≥97)) ((0<=n0_1/\n0_1<(s0_0.size:Int))
 /\ Br (decide ((UInt8.toNat (Array.getD (ByteArray.data s0_0) n0_1.toNat (OfNat.ofNat 0)):Int)<=122)) (zj E Q N0 n3 s0_0 (IntKind.i64.wrap (n0_1
 + 1)) b0_2 N) ((0<=n3/\n3<=n0_1/\n0_1<=(s0_0.size:Int))/\zC E [.var [.str b0,.j 0,.bool false]]/\uP N (Q (ByteArray.extract s0_0 n3.toNat
 n0_1.toNat) s0_0 n0_1 b0_2))) ((0<=n3/\n3<=n0_1/\n0_1<=(s0_0.size:Int))/\zC E [.var [.str b0,.j 0,.bool false]]/\uP N (Q (ByteArray.extract s0_0
 n3.toNat n0_1.toNat) s0_0 n0_1 b0_2)))) ((0<=n3/\n3<=n0_1/\n0_1<=(s0_0.size:Int))/\zC E [.var [.str b0,.j 0,.bool false]]/\uP N (Q
 (ByteArray.extract s0_0 n3.toNat n0_1.toNat) s0_0 n0_1 b0_2))):zj E Q N0 n3 s0_0 n0_1 b0_2 N:=
  hE sI h
theorem uU (E:Env) (Q:QT [(Sh.ag 9),Sh.str,(Sh.int IntKind.i64),Sh.bool]) (N0:Nat) (n2 n3 n9:Int) (O:ByteArray) (U:Int) (J:Bool) (I:D) (V:Int) (Y Z:ByteArray) (aa ab:Int) (ac:Option Addr) (ae:List D) (ah:Nat) (ai:Int) (aj:Option Addr) (ak:List D) (al:Nat) (ao:Option Addr) (aq:List D) (au:Nat) (N:Nat) (h :
Br (decide (n9<n2)) (Br (!J) (Br (decide (n9>0)) (rU 64 [.str (bytes [32])] O U J N (λs n b d=>∃ a e,∃ c:Nat,(I.cell 8)=D.sl
 a 9 e c/\rA 9 30 [.j n3] s n b d (λx b d f g=>KT a e c [x]/\zA e [x] 136/\∀(a:Nat),zO E Q N0 n2 n3
 (IntKind.i64.wrap (n9+1)) b d f (I.cell 0) (I.cell 1) (I.cell 2) (I.cell 3) (I.cell 4) (I.cell 5) (I.cell 6) (I.cell 7) (e++[x]).length a
 V Y Z aa ab ac ae ah ai aj ak al ao aq au (e++[x]) a g))) (∃ a b,∃ c:Nat,(I.cell 8)=D.sl a 9 b c /\
 rA 9 30 [.j n3] O U J N (λd e f g h=>KT a b c [d]/\zA b [d] 136/\∀(a:Nat),zO E Q N0 n2 n3
 (IntKind.i64.wrap (n9+1)) e f g (I.cell 0) (I.cell 1) (I.cell 2) (I.cell 3) (I.cell 4) (I.cell 5) (I.cell 6) (I.cell 7) (b++[d]).length
 a V Y Z aa ab ac ae ah ai aj ak al ao aq au (b++[d]) a h))) (rU 64 [.str (bytes [41])] O U J N (λa
 b c d=>zC E [.var [.str b0,.j 0,.bool false]]/\uP d (Q I a b c)))) (rU 64 [.str (bytes [41])] O U J N (λa b c d=>zC
 E [.var [.str b0,.j 0,.bool false]]/\uP d (Q I a b c)))):v7 E Q N0 n2 n3 n9 O U J I V Y Z aa ab ac ae ah ai aj ak al ao aq au N:=
  hE vO h
theorem xT (E:Env) (Q:QT [(Sh.ag 9),Sh.str,(Sh.int IntKind.i64),Sh.bool]) (N0:Nat) (n2 n3 n9:Int) (s0_0:ByteArray) (n0_1:Int) (b0_2:Bool) (x1_0 x1_1 x1_2 x1_3 x1_4 x1_5 x1_6 x1_7:D) (m1_8 c1_8:Nat) (n2_0:Int) (s2_1 s2_2:ByteArray) (n2_3 n2_4:Int) (a2_5:Option Addr) (e2_5:List D) (c2_5:Nat) (n2_6:Int) (a2_7:Option Addr) (e2_7:List D) (c2_7:Nat) (a2_8:Option Addr) (e2_8:List D) (c2_8:Nat) (r3:List D) (q3:Nat) (N:Nat) (h :
Br (decide (n9<n2)) (Br (!b0_2) (Br (decide (n9>0)) (rU 64 [.str (bytes [32])] s0_0 n0_1 b0_2 N (fun s n b a=>rA 9 30 [.j n3] s n b a (fun x a
 b d e=>(m1_8=r3.length/\c1_8=q3)/\zA r3 [x] 136/\∀(c:Nat),zO E Q N0 n2 n3 (IntKind.i64.wrap (n9+1)) a b d x1_0
 x1_1 x1_2 x1_3 x1_4 x1_5 x1_6 x1_7 (r3++[x]).length c n2_0 s2_1 s2_2 n2_3 n2_4 a2_5 e2_5 c2_5 n2_6 a2_7 e2_7 c2_7 a2_8 e2_8 c2_8 (r3++[x]) c e))) (rA 9 30
 [.j n3] s0_0 n0_1 b0_2 N (fun a b c d e=>(m1_8=r3.length/\c1_8=q3)/\zA r3 [a] 136/\∀(f:Nat),zO E Q N0 n2 n3
 (IntKind.i64.wrap (n9+1)) b c d x1_0 x1_1 x1_2 x1_3 x1_4 x1_5 x1_6 x1_7 (r3++[a]).length f n2_0 s2_1 s2_2 n2_3 n2_4 a2_5 e2_5 c2_5 n2_6 a2_7 e2_7
 c2_7 a2_8 e2_8 c2_8 (r3++[a]) f e))) (rU 64 [.str (bytes [41])] s0_0 n0_1 b0_2 N (fun b c d e=>w3 (m1_8=r3.length/\c1_8=q3) (∀ a f,e <=
 f->Fresh N0 f a [D.ag r3,x1_0,x1_1,x1_2,x1_3,x1_4,x1_5,x1_6,x1_7]->zC E [.var [.str b0,.j 0,.bool false]]/\uP f (Q (D.ag [x1_0,x1_1,x1_2,
 x1_3,x1_4,x1_5,x1_6,x1_7,D.sl a 9 r3 q3]) b c d))))) (rU 64 [.str (bytes [41])] s0_0 n0_1 b0_2 N (fun a b c d=>w3 (m1_8=r3.length/\c1_8
 = q3) (∀ e f,d<=f->Fresh N0 f e [D.ag r3,x1_0,x1_1,x1_2,x1_3,x1_4,x1_5,x1_6,x1_7]->zC E [.var [.str b0,.j 0,.bool false]]/\uP f
 (Q (D.ag [x1_0,x1_1,x1_2,x1_3,x1_4,x1_5,x1_6,x1_7,D.sl e 9 r3 q3]) a b c))))):zO E Q N0 n2 n3 n9 s0_0 n0_1 b0_2 x1_0 x1_1 x1_2 x1_3 x1_4 x1_5 x1_6 x1_7 m1_8 c1_8 n2_0 s2_1 s2_2 n2_3 n2_4 a2_5 e2_5 c2_5 n2_6 a2_7 e2_7 c2_7 a2_8 e2_8 c2_8 r3 q3 N:=
  hE vO h
end Go.Proofs.YtidiofobanefmaaGreatDoor
