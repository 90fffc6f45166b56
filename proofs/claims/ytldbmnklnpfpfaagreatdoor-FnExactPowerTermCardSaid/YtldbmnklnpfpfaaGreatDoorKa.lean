/- Printed by gen.py: what the functions come to. -/
import Derived.Test.YtldbmnklnpfpfaaGreatDoorJh
set_option linter.unusedVariables false
set_option maxRecDepth 100000
namespace Go.Proofs.YtldbmnklnpfpfaaGreatDoor
open Go Go.Proofs Go.Proofs.Tryz
def ve:Hint:=⟨[hc 2 [0,1,5]],[],[(7,[en 0,en 1,en 2,en 3,en 4,en 5,eh 6,en 7]),(10,[en 0,en 1,en 2,en 3,en 4,en 5,eh 6,en 7])]⟩
def pP:Hint:=⟨[],[],[(1,hs 5 [ec 3 [6]]),(4,hs 5 [ec 3 [12]])]⟩
def yR (Q:QT [.int .i64])(N0:Nat)(a0:Option Addr)(e0:List D)(c0:Nat)(n1 I:Int)(N:Nat):Prop:=AT prog 22 [.int .i64] Q N0 .ord (za prog 22 2) ⟨.sv a0 9 e0 c0::.int .i64 n1::an 3 (.int .i64 I::an 94 []),[],N,none⟩
theorem qv (N:Nat) (a0:Option Addr) (e0:List D) (c0:Nat) (n1:Int) (Q:QT [.int .i64]) (h :
Bel N (D.sl a0 9 e0 c0)->yR Q N a0 e0 c0 n1 0 N):ACalls prog 22 [.int .i64] [PV.sv a0 9 e0 c0,PV.int .i64 n1] N Q:=
 eE ve h
theorem Aw (N:Nat) (I:D) (n1:Int) (Q:QT [.int .i64]) (h :
Bel N I->kI 21 [.dg 2 (D.sub I 4 2),.j n1] N (λn b=>Br (decide (n<0)) (uP b (Q (-1))) (kI 21 [.dg 2 (D.sub I 6 2),.j n] b (λb d=>Br
 (decide (b<0)) (uP d (Q (-1))) (∃ a e,∃ c:Nat,(I.cell 8)=D.sl a 9 e c/\kI 22 [.sv a 9 e c,.j b] d (λa b=>Br (decide (a<0)) (uP
 b (Q (-1))) (uP b (Q a)))))))):ACalls prog 9 [.int .i64] [PV.dg 9 I,PV.int .i64 n1] N Q:=
  eE pP h
theorem wk {Q:QT [.int .i64]} {N0:Nat} {a0:Option Addr} {e0:List D} {c0:Nat} {n1 n5:Int} {N:Nat} (h :
Br (decide (n5<(e0.length:Int))) ((0<=n5/\n5<(e0.length:Int))/\∃ n:Int,(if 0=0 then D.cell (List.getD e0 n5.toNat default) 0 else D.sub
 (List.getD e0 n5.toNat default) 0 0)=D.j n/\Br (bne n n1) (uP N (Q (-1))) ((0<=n5/\n5<(e0.length:Int))/\∃ s,(if 0=0 then D.cell (List.getD e0
 n5.toNat default) 1 else D.sub (List.getD e0 n5.toNat default) 1 0)=D.t s/\kS 53 [.j (IntKind.i64.wrap (n1+1))] N (fun b d=>Br (!(ByteArray.toList s
 == ByteArray.toList b)) (uP d (Q (-1))) ((0<=n5/\n5<(e0.length:Int))/\∃ b,(if 0=0 then D.cell (List.getD e0 n5.toNat default) 2 else D.sub
 (List.getD e0 n5.toNat default) 2 0)=D.t b/\kS 53 [.j (IntKind.i64.wrap (IntKind.i64.wrap (n1+1)+1))] d (fun d e=>Br (!(ByteArray.toList b ==
 ByteArray.toList d)) (uP e (Q (-1))) ((0<=n5/\n5<(e0.length:Int))/\∃ b:Int,(if 0=0 then D.cell (List.getD e0 n5.toNat default) 3 else D.sub
 (List.getD e0 n5.toNat default) 3 0)=D.j b/\Br (bne b (IntKind.i64.wrap (IntKind.i64.wrap (IntKind.i64.wrap (n1+1)+1)+1))) (uP e (Q (-1))) ((0 <=
 n5/\n5<(e0.length:Int))/\∃ b:Int,(if 0=0 then D.cell (if 2=0 then D.cell (List.getD e0 n5.toNat default) 4 else D.sub (List.getD e0 n5.toNat
 default) 4 2) 0 else D.sub (if 2=0 then D.cell (List.getD e0 n5.toNat default) 4 else D.sub (List.getD e0 n5.toNat default) 4 2) 0 0)=D.j b/\Br (bne b
 (IntKind.i64.wrap (IntKind.i64.wrap (IntKind.i64.wrap (IntKind.i64.wrap (n1+1)+1)+1)+1))) (uP e (Q (-1))) ((0<=n5/\n5<(e0.length:Int))/\∃ a b,
 ∃ c:Nat,(if 0=0 then D.cell (if 2=0 then D.cell (List.getD e0 n5.toNat default) 4 else D.sub (List.getD e0 n5.toNat default) 4 2) 1 else D.sub (if 2=0
 then D.cell (List.getD e0 n5.toNat default) 4 else D.sub (List.getD e0 n5.toNat default) 4 2) 1 0)=D.sl a 2 b c/\kI 54 [.sv a 2 b c,.j (IntKind.i64.wrap
 (IntKind.i64.wrap (IntKind.i64.wrap (IntKind.i64.wrap (IntKind.i64.wrap (n1+1)+1)+1)+1)+1))] e (fun a b=>Br (decide (a<0)) (uP b (Q
 (-1))) ((0<=n5/\n5<(e0.length:Int))/\∃ c:Int,(if 0=0 then D.cell (if 2=0 then D.cell (List.getD e0 n5.toNat default) 6 else D.sub (List.getD e0
 n5.toNat default) 6 2) 0 else D.sub (if 2=0 then D.cell (List.getD e0 n5.toNat default) 6 else D.sub (List.getD e0 n5.toNat default) 6 2) 0 0)=D.j c/\Br
 (bne c a) (uP b (Q (-1))) ((0<=n5/\n5<(e0.length:Int))/\∃ c d,∃ e:Nat,(if 0=0 then D.cell (if 2=0 then D.cell (List.getD e0 n5.toNat
 default) 6 else D.sub (List.getD e0 n5.toNat default) 6 2) 1 else D.sub (if 2=0 then D.cell (List.getD e0 n5.toNat default) 6 else D.sub (List.getD e0
 n5.toNat default) 6 2) 1 0)=D.sl c 2 d e/\kI 54 [.sv c 2 d e,.j (IntKind.i64.wrap (a+1))] b (fun a b=>Br (decide (a<0)) (uP
 b (Q (-1))) ((0<=n5/\n5<(e0.length:Int))/\∃ c d,∃ e:Nat,(if 0=0 then D.cell (List.getD e0 n5.toNat default) 8 else D.sub (List.getD e0
 n5.toNat default) 8 0)=D.sl c 9 d e/\kI 22 [.sv c 9 d e,.j a] b (fun a b=>Br (decide (a<0)) (uP b (Q (-1)))
 (yR Q N0 a0 e0 c0 a (IntKind.i64.wrap (n5+1)) b))))))))))))))) (uP N (Q n1))):yR Q N0 a0 e0 c0 n1 n5 N:=
  hE ve h
end Go.Proofs.YtldbmnklnpfpfaaGreatDoor
set_option maxRecDepth 100000
namespace Go.Proofs.YtldbmnklnpfpfaaGreatDoor
open Go Go.Proofs Go.Proofs.Tryz
def t6:Hint:=⟨[hc 2 [0,3]],[],[]⟩
def sD:Hint:=⟨[hc 3 [1,2,5]],[],[(5,hs 8 [ec 6 [23]])]⟩
def wa:Hint:=⟨[hc 3 [1,3,4]],[],[(5,hs 9 [ec 6 [17]])]⟩
def sC:Hint:=⟨[hc 2 [1,3]],[],[(4,hs 7 [ec 5 [15]])]⟩
def sA:Hint:=⟨[],[],[(1,hs 13 [ec 1 [3],ec 5 [7],ec 10 [12]])]⟩
def pU:Hint:=⟨[],[],[(2,hs 15 [ec 3 [15],ec 11 [23]]),(4,[en 0,en 1,en 2,en 3,en 4,ec 5 [32],en 6,en 7,en 8,en 9,en 10,en 11,en 12,en 13,ec 14 [41],en 15,en 16,en 17]),(12,hs 9 [ec 6 [57]])]⟩
def t7:Hint:=⟨[hc 2 [1,3]],[],[(4,hs 7 [ec 5 [15]]),(6,[en 0,ec 1 [18],en 2,en 3,en 4,en 5,en 6,ec 7 [24],en 8,en 9,en 10])]⟩
def yF (Q:QT [.bool])(N0:Nat)(I:ByteArray)(J:Int)(N:Nat):Prop:=AT prog 150 [.bool] Q N0 .ord (za prog 150 2) ⟨.str I::an 2 (.int .i64 J::an 58 []),[],N,none⟩
def xI (Q:QT [.int .i64])(N0:Nat)(n1 I:Int)(J:D)(N:Nat):Prop:=AT prog 147 [.int .i64] Q N0 .ord (za prog 147 3) ⟨an 1 (.int .i64 n1::.pb 0 0 0 0::an 2 (.int .i64 I::an 21 [])),[.vd J 2],N,none⟩
def yB (Q:QT [.int .i64])(N0:Nat)(I n4:Int)(J:D)(N:Nat):Prop:=AT prog 148 [.int .i64] Q N0 .ord (za prog 148 3) ⟨an 1 (.pb 0 0 0 0::an 1 (.int .i64 I::.int .i64 n4::an 17 [])),[.vd J 2],N,none⟩
def xH (Q:QT [.bool])(N0:Nat)(I:Int)(J:D)(N:Nat):Prop:=AT prog 149 [.bool] Q N0 .ord (za prog 149 2) ⟨an 1 (.pb 0 0 0 0::an 1 (.int .i64 I::an 35 [])),[.vd J 2],N,none⟩
def xF (Q:QT [.bool])(N0:Nat)(I:Int)(J:D)(N:Nat):Prop:=AT prog 70 [.bool] Q N0 .ord (za prog 70 2) ⟨an 1 (.pb 0 0 0 0::an 1 (.int .i64 I::an 24 [])),[.vd J 9],N,none⟩
theorem FJ (N:Nat) (n0 n1 n2:Int) (Q:QT [.bool]) (h :
Br (decide (n0≥n1)) (uP N (Q (decide (n0<=n2)))) (uP N (Q false))):ACalls prog 23 [.bool] [PV.int .i64 n0,PV.int .i64 n1,PV.int .i64 n2] N Q:=
 eE H0 h
theorem C5 (N:Nat) (I:ByteArray) (Q:QT [.bool]) (h :
yF Q N I 0 N):ACalls prog 150 [.bool] [PV.str I] N Q:=
 eE t6 h
theorem DA (N:Nat) (I:D) (n1:Int) (Q:QT [.int .i64]) (h :
Bel N I->xI Q N (IntKind.i64.wrap (n1 - 1)) 0 I N):ACalls prog 147 [.int .i64] [PV.dg 2 I,PV.int .i64 n1] N Q:=
 eE sD h
theorem EM (N:Nat) (n0 n1:Int) (Q:QT [.int .i64]) (h :
Br (decide (n0>n1)) (uP N (Q n0)) (uP N (Q n1))):ACalls prog 97 [.int .i64] [PV.int .i64 n0,PV.int .i64 n1] N Q:=
 eE H0 h
theorem rH (N:Nat) (I:D) (Q:QT [.int .i64]) (h :
Bel N I->yB Q N 0 0 I N):ACalls prog 148 [.int .i64] [PV.dg 2 I] N Q:=
 eE wa h
theorem C9 (N:Nat) (I:D) (Q:QT [.bool]) (h :
Bel N I->xH Q N 0 I N):ACalls prog 149 [.bool] [PV.dg 2 I] N Q:=
 eE sC h
theorem rJ (N:Nat) (x0:D) (Q:QT [.bool]) (h :
Bel N x0->kI 147 [.dg 2 x0,.j 30] N (fun n a=>Br (decide (n≥0)) (kI 148 [.dg 2 x0] a (fun a c=>Br (decide (a<=8)) (kB 149 [.dg 2 x0] c
 (fun b a=>uP a (Q b))) (uP c (Q false)))) (uP a (Q false)))):ACalls prog 122 [.bool] [PV.dg 2 x0] N Q:=
  eE sA h
theorem DC (N:Nat) (I:D) (Q:QT [.bool]) (h :
Bel N I->∃ n:Int,(I.cell 0)=D.j n/\Br (n==0) (∃ a b,∃ c:Nat,(I.cell 1)=D.sl a 2 b c/\uP N (Q ((b.length:Int)==0))) (uP N (Q
 false))):ACalls prog 123 [.bool] [PV.dg 2 I] N Q:=
  eE H0 h
theorem BR (N:Nat) (I:ByteArray) (Q:QT [.int .i64]) (h :
Br (ByteArray.toList I==ByteArray.toList (bytes [43])) (uP N (Q 2)) (Br (ByteArray.toList I==ByteArray.toList (bytes [45])) (uP N (Q 2)) (Br
 (ByteArray.toList I==ByteArray.toList (bytes [42])) (uP N (Q 2)) (Br (ByteArray.toList I==ByteArray.toList (bytes [61])) (uP N (Q 2)) (Br
 (ByteArray.toList I==ByteArray.toList (bytes [60])) (uP N (Q 2)) (Br (ByteArray.toList I==ByteArray.toList (bytes [38])) (uP N (Q 2)) (Br
 (ByteArray.toList I==ByteArray.toList (bytes [124])) (uP N (Q 2)) (Br (ByteArray.toList I==ByteArray.toList (bytes [33])) (uP N (Q 1)) (uP N (Q
 0)))))))))):ACalls prog 95 [.int .i64] [PV.str I] N Q:=
  eE H0 h
theorem BT (N:Nat) (x0:D) (Q:QT [.bool]) (h :
Bel N x0->∃ n:Int,(x0.cell 0)=D.j n/\Br (n==4) (∃ s,(x0.cell 1)=D.t s/\kI 95 [.str s] N (fun a b=>Br (decide (a>0)) (∃ a,(x0.cell
 2)=D.t a/\uP b (Q (ByteArray.toList a==ByteArray.toList b0))) (uP b (Q false)))) (Br (n==1) (∃ a,(x0.cell 1)=D.t a/\kB 150 [.str a] N
 (fun b a=>Br b (∃ b,(x0.cell 2)=D.t b/\uP a (Q (ByteArray.toList b==ByteArray.toList b0))) (uP a (Q false)))) (Br (n==6) (∃ a,(x0.cell 1)
 = D.t a/\kB 150 [.str a] N (fun a b=>Br a (∃ a,(x0.cell 2)=D.t a/\uP b (Q (ByteArray.toList a==ByteArray.toList b0))) (uP b (Q
 false)))) (Br (n==8) (∃ a,(x0.cell 1)=D.t a/\kB 150 [.str a] N (fun a b=>Br a (∃ a,(x0.cell 2)=D.t a/\uP b (Q (ByteArray.toList
 a==ByteArray.toList b0))) (uP b (Q false)))) (Br (n==9) (∃ a,(x0.cell 1)=D.t a/\kB 150 [.str a] N (fun a b=>Br a (∃ a,(x0.cell 2) =
 D.t a/\kB 150 [.str a] b (fun a b=>Br a (∃ a,(x0.cell 1)=D.t a/\∃ c,(x0.cell 2)=D.t c/\uP b (Q (!(ByteArray.toList a ==
 ByteArray.toList c)))) (uP b (Q false)))) (uP b (Q false)))) (∃ a,(x0.cell 1)=D.t a/\Br (ByteArray.toList a==ByteArray.toList b0) (∃ a,
 (x0.cell 2)=D.t a/\uP N (Q (ByteArray.toList a==ByteArray.toList b0))) (uP N (Q false)))))))):ACalls prog 124 [.bool] [PV.dg 9 x0] N Q:=
  eE H0 h
theorem Az (N:Nat) (I:D) (Q:QT [.bool]) (h :
Bel N I->∃ n:Int,(I.cell 0)=D.j n/\Br (n==6) (kB 122 [.dg 2 (D.sub I 4 2)] N (λb a=>Br (!(true==b)) (uP a (Q false)) (∃ b:Int,
 (I.cell 0)=D.j b/\kB 122 [.dg 2 (D.sub I 6 2)] a (λa c=>Br (!((b==9)==a)) (uP c (Q false)) (∃ a:Int,(I.cell 0)=D.j a/\Br
 (bne a 9) (kB 123 [.dg 2 (D.sub I 6 2)] c (λa b=>Br (!a) (uP b (Q false)) (∃ a:Int,(I.cell 0)=D.j a/\Br (a==2) (∃ a:Int,
 (I.cell 3)=D.j a/\kB 23 [.j a,.j 0,.j 10006] b (λa b=>Br a (kB 124 [.dg 9 I] b (λa b=>uP b (Q a))) (uP b (Q false))))
 (Br (a==3) (∃ a:Int,(I.cell 3)=D.j a/\kB 23 [.j a,.j 0,.j 1] b (λa b=>Br a (kB 124 [.dg 9 I] b (λa b=>uP b (Q
 a))) (uP b (Q false)))) (∃ a:Int,(I.cell 3)=D.j a/\kB 23 [.j a,.j 0,.j 0] b (λa b=>Br a (kB 124 [.dg 9 I] b (λa b=>uP
 b (Q a))) (uP b (Q false)))))))) (∃ a:Int,(I.cell 0)=D.j a/\Br (a==2) (∃ a:Int,(I.cell 3)=D.j a/\kB 23 [.j a,.j 0,.j 10006]
 c (λa b=>Br a (kB 124 [.dg 9 I] b (λa b=>uP b (Q a))) (uP b (Q false)))) (Br (a==3) (∃ a:Int,(I.cell 3)=D.j a/\kB
 23 [.j a,.j 0,.j 1] c (λa b=>Br a (kB 124 [.dg 9 I] b (λa b=>uP b (Q a))) (uP b (Q false)))) (∃ a:Int,(I.cell 3) =
 D.j a/\kB 23 [.j a,.j 0,.j 0] c (λa b=>Br a (kB 124 [.dg 9 I] b (λa b=>uP b (Q a))) (uP b (Q false))))))))))) (∃ a
 : Int,(I.cell 0)=D.j a/\kB 122 [.dg 2 (D.sub I 4 2)] N (λb c=>Br (!((a==9)==b)) (uP c (Q false)) (Br (!(a==9)) (kB 123 [.dg
 2 (D.sub I 4 2)] c (λa b=>Br (!a) (uP b (Q false)) (∃ a:Int,(I.cell 0)=D.j a/\kB 122 [.dg 2 (D.sub I 6 2)] b (λb c=>
 Br (!((a==9)==b)) (uP c (Q false)) (∃ a:Int,(I.cell 0)=D.j a/\Br (bne a 9) (kB 123 [.dg 2 (D.sub I 6 2)] c (λa b=>Br
 (!a) (uP b (Q false)) (∃ a:Int,(I.cell 0)=D.j a/\Br (a==2) (∃ a:Int,(I.cell 3)=D.j a/\kB 23 [.j a,.j 0,.j 10006] b
 (λa b=>Br a (kB 124 [.dg 9 I] b (λa b=>uP b (Q a))) (uP b (Q false)))) (Br (a==3) (∃ a:Int,(I.cell 3)=D.j a /\
 kB 23 [.j a,.j 0,.j 1] b (λa b=>Br a (kB 124 [.dg 9 I] b (λa b=>uP b (Q a))) (uP b (Q false)))) (∃ a:Int,(I.cell
 3)=D.j a/\kB 23 [.j a,.j 0,.j 0] b (λa b=>Br a (kB 124 [.dg 9 I] b (λa b=>uP b (Q a))) (uP b (Q false)))))))) (∃
 a:Int,(I.cell 0)=D.j a/\Br (a==2) (∃ a:Int,(I.cell 3)=D.j a/\kB 23 [.j a,.j 0,.j 10006] c (λa b=>Br a (kB 124
 [.dg 9 I] b (λa b=>uP b (Q a))) (uP b (Q false)))) (Br (a==3) (∃ a:Int,(I.cell 3)=D.j a/\kB 23 [.j a,.j 0,.j 1] c
 (λa b=>Br a (kB 124 [.dg 9 I] b (λa b=>uP b (Q a))) (uP b (Q false)))) (∃ a:Int,(I.cell 3)=D.j a/\kB 23 [.j a,
 .j 0,.j 0] c (λa b=>Br a (kB 124 [.dg 9 I] b (λa b=>uP b (Q a))) (uP b (Q false))))))))))) (∃ a:Int,(I.cell 0)=D.j
 a/\kB 122 [.dg 2 (D.sub I 6 2)] c (λb c=>Br (!((a==9)==b)) (uP c (Q false)) (∃ a:Int,(I.cell 0)=D.j a/\Br (bne a 9)
 (kB 123 [.dg 2 (D.sub I 6 2)] c (λa b=>Br (!a) (uP b (Q false)) (∃ a:Int,(I.cell 0)=D.j a/\Br (a==2) (∃ a:Int,(I.cell
 3)=D.j a/\kB 23 [.j a,.j 0,.j 10006] b (λa b=>Br a (kB 124 [.dg 9 I] b (λa b=>uP b (Q a))) (uP b (Q false))))
 (Br (a==3) (∃ a:Int,(I.cell 3)=D.j a/\kB 23 [.j a,.j 0,.j 1] b (λa b=>Br a (kB 124 [.dg 9 I] b (λa b=>uP
 b (Q a))) (uP b (Q false)))) (∃ a:Int,(I.cell 3)=D.j a/\kB 23 [.j a,.j 0,.j 0] b (λa b=>Br a (kB 124 [.dg 9 I] b
 (λa b=>uP b (Q a))) (uP b (Q false)))))))) (∃ a:Int,(I.cell 0)=D.j a/\Br (a==2) (∃ a:Int,(I.cell 3)=D.j a/\kB
 23 [.j a,.j 0,.j 10006] c (λa b=>Br a (kB 124 [.dg 9 I] b (λa b=>uP b (Q a))) (uP b (Q false)))) (Br (a==3) (∃
 a:Int,(I.cell 3)=D.j a/\kB 23 [.j a,.j 0,.j 1] c (λa b=>Br a (kB 124 [.dg 9 I] b (λa b=>uP b (Q a))) (uP
 b (Q false)))) (∃ a:Int,(I.cell 3)=D.j a/\kB 23 [.j a,.j 0,.j 0] c (λa b=>Br a (kB 124 [.dg 9 I] b (λa b=>uP
 b (Q a))) (uP b (Q false)))))))))))) ):ACalls prog 98 [.bool] [PV.dg 9 I] N Q:=
  eE pU h
theorem BS (N:Nat) (x0:D) (Q:QT [.int .i64]) (h :
Bel N x0->∃ n:Int,(x0.cell 0)=D.j n/\Br (n==1) (uP N (Q 0)) (Br (n==2) (uP N (Q 0)) (Br (n==3) (uP N (Q 0)) (Br (n==4) (∃ s,(x0.cell 1) =
 D.t s/\kI 95 [.str s] N (fun a b=>uP b (Q a))) (Br (n==6) (uP N (Q 1)) (Br (n==9) (uP N (Q 1)) (Br (n==10) (uP N (Q 1)) (Br (n==11) (uP N (Q
 1)) (Br (n==12) (uP N (Q 1)) (Br (n==13) (uP N (Q 1)) (Br (n==7) (uP N (Q 2)) (Br (n==8) (uP N (Q 2)) (Br (n==5) (uP N (Q 3)) (uP N (Q
 (-1)))))))))))))))):ACalls prog 99 [.int .i64] [PV.dg 9 x0] N Q:=
  eE H0 h
theorem C6 (N:Nat) (I:D) (Q:QT [.bool]) (h :
Bel N I->xF Q N 0 I N):ACalls prog 70 [.bool] [PV.dg 9 I] N Q:=
 eE t7 h
theorem EN (N:Nat)  (Q:QT [.ag 2]) (h :
uP N (Q (D.ag [D.j 1,D.sl none 2 [] 0]))):ACalls prog 93 [.ag 2] [] N Q:=
 eE H0 h
theorem C8 (N:Nat)  (Q:QT [.ag 2]) (h :
uP N (Q (D.ag [D.j 2,D.sl none 2 [] 0]))):ACalls prog 94 [.ag 2] [] N Q:=
 eE H0 h
theorem uN {Q:QT [.bool]} {N0:Nat} {J:ByteArray} {I:Int} {N:Nat} (h :
Br (decide (I<(J.size:Int))) ((0<=I/\I<(J.size:Int))/\Br (decide ((UInt8.toNat (Array.getD (ByteArray.data J) I.toNat (OfNat.ofNat 0)) :
 Int)≥97)) ((0<=I/\I<(J.size:Int))/\Br (!(decide ((UInt8.toNat (Array.getD (ByteArray.data J) I.toNat (OfNat.ofNat 0)):Int)<=122))) (Br (I ==
 0) (uP N (Q false)) ((0<=I/\I<(J.size:Int))/\Br (decide ((UInt8.toNat (Array.getD (ByteArray.data J) I.toNat (OfNat.ofNat 0)):Int)<48)) (uP N (Q
 false)) ((0<=I/\I<(J.size:Int))/\Br (decide ((UInt8.toNat (Array.getD (ByteArray.data J) I.toNat (OfNat.ofNat 0)):Int)>57)) (uP N (Q false))
 (yF Q N0 J (IntKind.i64.wrap (I+1)) N)))) (yF Q N0 J (IntKind.i64.wrap (I+1)) N)) (Br (I==0) (uP N (Q false)) ((0<=I/\I
 < (J.size:Int))/\Br (decide ((UInt8.toNat (Array.getD (ByteArray.data J) I.toNat (OfNat.ofNat 0)):Int)<48)) (uP N (Q false)) ((0<=I/\I<(J.size
 : Int))/\Br (decide ((UInt8.toNat (Array.getD (ByteArray.data J) I.toNat (OfNat.ofNat 0)):Int)>57)) (uP N (Q false)) (yF Q N0 J
 (IntKind.i64.wrap (I+1)) N))))) (kB 23 [.j (J.size:Int),.j 1,.j 4] N (λb a=>Br b (Br (!(ByteArray.toList J==ByteArray.toList (bytes [105,
 102]))) (Br (!(ByteArray.toList J==ByteArray.toList (bytes [108,101,116]))) (Br (!(ByteArray.toList J==ByteArray.toList (bytes [114,101,99]))) (Br
 (!(ByteArray.toList J==ByteArray.toList (bytes [114,117,110]))) (∀ b,a<=b->Q (!(ByteArray.toList J==ByteArray.toList (bytes [108,105,102,
 116]))) b) (uP a (Q false))) (uP a (Q false))) (uP a (Q false))) (uP a (Q false))) (uP a (Q false))))):yF Q N0 J I N:=
  hE t6 h
theorem uS {Q:QT [.int .i64]} {N0:Nat} {n1 n5:Int} {y0:D} {N:Nat} (h :
∃ a b,∃ c:Nat,(y0.cell 1)=D.sl a 2 b c/\Br (decide (n5<(b.length:Int))) (Br (decide (n1≥0)) (∃ a b,∃ c:Nat,(y0.cell 1)=D.sl
 a 2 b c/\(0<=n5/\n5<(b.length:Int))/\kI 147 [.dg 2 (List.getD b n5.toNat default),.j n1] N (fun n a=>xI Q N0 n
 (IntKind.i64.wrap (n5+1)) y0 a)) (uP N (Q n1))) (uP N (Q n1))):xI Q N0 n1 n5 y0 N:=
  hE sD h
theorem x9 {Q:QT [.int .i64]} {N0:Nat} {J n4:Int} {I:D} {N:Nat} (h :
∃ a b,∃ c:Nat,(I.cell 1)=D.sl a 2 b c/\Br (decide (n4<(b.length:Int))) (∃ a b,∃ c:Nat,(I.cell 1)=D.sl a 2 b c/\(0<=n4
 /\ n4<(b.length:Int))/\kI 148 [.dg 2 (List.getD b n4.toNat default)] N (λn a=>kI 97 [.j J,.j n] a (λa b=>yB Q N0
 a (IntKind.i64.wrap (n4+1)) I b))) (uP N (Q (IntKind.i64.wrap (J+1))))):yB Q N0 J n4 I N:=
  hE wa h
theorem uR {Q:QT [.bool]} {N0:Nat} {n3:Int} {y0:D} {N:Nat} (h :
∃ a d,∃ c:Nat,(y0.cell 1)=D.sl a 2 d c/\Br (decide (n3<(d.length:Int))) (∃ a c,∃ d:Nat,(y0.cell 1)=D.sl a 2 c d/\(0<=n3
 /\ n3<(c.length:Int))/\kB 149 [.dg 2 (List.getD c n3.toNat default)] N (fun b a=>Br (!b) (uP a (Q false)) (xH Q N0 (IntKind.i64.wrap
 (n3+1)) y0 a))) (∃ n:Int,(y0.cell 0)=D.j n/\Br (n==1) (∃ a b,∃ c:Nat,(y0.cell 1)=D.sl a 2 b c/\uP N (Q ((b.length:Int) ==
 0))) (Br (n==2) (∃ a b,∃ c:Nat,(y0.cell 1)=D.sl a 2 b c/\uP N (Q ((b.length:Int)==0))) (Br (n==3) (∃ a b,∃ c:Nat,
 (y0.cell 1)=D.sl a 2 b c/\uP N (Q ((b.length:Int)==2))) (Br (n==4) (∃ a b,∃ c:Nat,(y0.cell 1)=D.sl a 2 b c/\uP N (Q
 ((b.length:Int)==1))) (uP N (Q false))))))):xH Q N0 n3 y0 N:=
  hE sC h
theorem uO {Q:QT [.bool]} {N0:Nat} {J:Int} {I:D} {N:Nat} (h :
∃ a d,∃ c:Nat,(I.cell 8)=D.sl a 9 d c/\Br (decide (J<(d.length:Int))) (∃ a c,∃ d:Nat,(I.cell 8)=D.sl a 9 c d/\(0<=J
 /\ J<(c.length:Int))/\kB 70 [.dg 9 (List.getD c J.toNat default)] N (λb a=>Br (!b) (uP a (Q false)) (xF Q N0 (IntKind.i64.wrap
 (J+1)) I a))) (kB 98 [.dg 9 I] N (λa b=>Br a (∃ a c,∃ d:Nat,(I.cell 8)=D.sl a 9 c d/\kI 99 [.dg 9 I] b (λn a=>uP
 a (Q ((c.length:Int)==n)))) (uP b (Q false))))):xF Q N0 J I N:=
  hE t7 h
end Go.Proofs.YtldbmnklnpfpfaaGreatDoor
set_option maxRecDepth 100000
namespace Go.Proofs.YtldbmnklnpfpfaaGreatDoor
open Go Go.Proofs Go.Proofs.Tryz
def wL:Hint:=⟨[hc 2 [0,1,7,8]],[],[]⟩
def tu:Hint:=⟨[hc 2 [0,6,7]],[],[]⟩
def w8:Hint:=⟨[hc 3 [3,7,8,9]],[],[(5,hs 5 [ec 2 [14]])]⟩
def wZ:Hint:=⟨[hc 3 [3,7,8,9]],[],[(5,hs 5 [ec 2 [14]])]⟩
def tE:Hint:=⟨[],[],[(1,[en 0,en 1,eh 2,en 3,en 4,en 5,en 6,en 7,en 8,en 9,en 10,en 11,en 12,en 13,en 14,en 15])]⟩
def rT:Hint:=⟨[],[],[(1,hs 5 [ec 2 [4]])]⟩
def xD:Hint:=⟨[hc 2 [0,1,7,8]],[],[(4,hs 6 [ec 5 [15]])]⟩
def pO:Hint:=⟨[],[],[(1,hs 11 [ec 2 [6]])]⟩
def tw:Hint:=⟨[],[],[(1,hs 13 [ec 1 [3],ec 5 [7],ec 10 [12]])]⟩
def A4:Hint:=⟨[],[],[(12,hs 9 [ec 6 [34]]),(14,hs 26 [ec 18 [56],ec 23 [61]])]⟩
def xB:Hint:=⟨[hc 4 [1,2,15,16,17]],[],[(7,hs 5 [ec 3 [27,28]])]⟩
def CC:Hint:=⟨[],[],[(1,[en 0,en 1,en 2,en 3,ec 4 [7],en 5]),(14,[en 0,en 1,en 2,en 3,en 4,eh 5,en 6,eh 7]),(16,[en 0,en 1,en 2,en 3,en 4,en 5,en 6,en 7,en 8,eh 9,en 10,eh 11,en 12,eh 13,en 14,eh 15]),(17,hs 38 [ec 1 [54],ec 28 [79,81],ec 35 [86,88]])]⟩
def rR:Hint:=⟨[],[],[(1,hs 5 [ec 2 [4]])]⟩
def xC:Hint:=⟨[hc 2 [0,1,7,8]],[],[(4,hs 6 [ec 5 [15]])]⟩
def pN:Hint:=⟨[],[],[(1,hs 11 [ec 2 [6]])]⟩
def CB:Hint:=⟨[],[],[(1,hs 3 [ec 1 [3]])]⟩
def wK:Hint:=⟨[hc 3 [2,3,10,11,12]],[],[(5,[en 0,en 1,en 2,ec 3 [18],en 4,eh 5,en 6,eh 7])]⟩
def DM:Hint:=⟨[],[],[(1,[en 0,en 2,ec 1 [5],ec 3 [7],en 4,en 5,eh 6])]⟩
def CD:Hint:=⟨[],[],[(1,hs 5 [ec 1 [3]])]⟩
def zr (Q:QT [.int .i64])(N0:Nat)(a0:Option Addr)(e0:List D)(c0:Nat)(I:ByteArray)(J O:Int)(N:Nat):Prop:=AT prog 177 [.int .i64] Q N0 .ord (za prog 177 2) ⟨.sv a0 0 e0 c0::.str I::an 5 (.int .i64 J::.int .i64 O::an 10 []),[],N,none⟩
def yD (Q:QT [.bool])(N0:Nat)(I:ByteArray)(J O:Int)(N:Nat):Prop:=AT prog 158 [.bool] Q N0 .ord (za prog 158 2) ⟨.str I::an 5 (.int .i64 J::.int .i64 O::an 40 []),[],N,none⟩
def yI (Q:QT [.int .i64])(N0:Nat)(I:Int)(J:Option Addr)(O:List D)(U:Nat)(V Y:Int)(N:Nat):Prop:=AT prog 136 [.int .i64] Q N0 .ord (za prog 136 3) ⟨an 3 (.int .i64 I::an 3 (.sv J 2 O U::.int .i64 V::.int .i64 Y::an 9 [])),[],N,none⟩
def z8 (Q:QT [.int .i64])(N0:Nat)(I:Int)(J:Option Addr)(O:List D)(U:Nat)(V Y:Int)(N:Nat):Prop:=AT prog 137 [.int .i64] Q N0 .ord (za prog 137 3) ⟨an 3 (.int .i64 I::an 3 (.sv J 2 O U::.int .i64 V::.int .i64 Y::an 10 [])),[],N,none⟩
def xd (Q:QT [.ag 2])(N0:Nat)(ab:Option Addr)(ac:List D)(ae:Nat)(ah ai I:Int)(J:Option Addr)(O:List D)(U:Nat)(V:Int)(Y:Option Addr)(Z:List D)(aa:Nat)(N:Nat):Prop:=AT prog 151 [.ag 2] Q N0 .ord (za prog 151 3) ⟨an 2 (.pb 0 0 0 0::.pb 1 0 0 0::an 6 (.sv ab 2 ac ae::.int .i64 ah::.int .i64 ai::an 12 [])),[.var [.int .i64 I,.sv J 2 O U],.var [.int .i64 V,.sv Y 2 Z aa]],N,none⟩
def zN (Q:QT [.bool])(N0:Nat)(Y:Option Addr)(e1:List D)(Z:Nat)(I:Option Addr)(J:List D)(O:Nat)(U V:Int)(N:Nat):Prop:=AT prog 160 [.bool] Q N0 .ord (za prog 160 4) ⟨an 1 (.sv Y 2 e1 Z::.fn 135 []::an 12 (.sv I 2 J O::.int .i64 U::.int .i64 V::an 14 [])),[],N,none⟩
def yA (Q:QT [.ag 2])(N0:Nat)(aa:Option Addr)(ab:List D)(ac:Nat)(ae ah I:Int)(J:Option Addr)(O:List D)(U:Nat)(V:Int)(Y Z:Nat)(r2:List D)(q2:Nat)(N:Nat):Prop:=AT prog 151 [.ag 2] Q N0 .ord (za prog 151 3) ⟨an 2 (.pb 0 0 0 0::.pb 1 0 0 0::an 6 (.sv aa 2 ab ac::.int .i64 ae::.int .i64 ah::an 12 [])),[.var [.int .i64 I,.sv J 2 O U],.var [.int .i64 V,.sb 2 2 0 Y Z],.arr 24 2 r2 q2],N,none⟩
def zf (Q:QT [.int .i64])(N0:Nat)(a0:Option Addr)(e0:List D)(c0:Nat)(I:Addr)(J O:Int)(N:Nat):Prop:=AT prog 172 [.int .i64] Q N0 .ord (za prog 172 2) ⟨.sv a0 2 e0 c0::.fn 162 [.pd I 0 (.fn 139 [])]::an 5 (.int .i64 J::.int .i64 O::an 10 []),[],N,none⟩
def ze (Q:QT [.int .i64])(N0:Nat)(a0:Option Addr)(e0:List D)(c0:Nat)(I:Addr)(J O:Int)(N:Nat):Prop:=AT prog 157 [.int .i64] Q N0 .ord (za prog 157 2) ⟨.sv a0 9 e0 c0::.fn 133 [.pd I 0 (.fn 107 [])]::an 5 (.int .i64 J::.int .i64 O::an 10 []),[],N,none⟩
theorem C2 (N:Nat) (n0 n1 n2:Int) (Q:QT [.bool]) (h :
Br (decide (n1<=n0)) (uP N (Q (decide (n0<=n2)))) (uP N (Q false))):ACalls prog 25 [.bool] [PV.int .i64 n0,PV.int .i64 n1,PV.int .i64 n2] N Q:=
 eE H0 h
theorem tm (N:Nat) (a0:Option Addr) (e0:List D) (c0:Nat) (I:ByteArray) (Q:QT [.int .i64]) (h :
Bel N (D.sl a0 0 e0 c0)->zr Q N a0 e0 c0 I (e0.length:Int) 0 N):ACalls prog 177 [.int .i64] [PV.sv a0 0 e0 c0,PV.str I] N Q:=
 eE wL h
theorem v8 (N:Nat) (a0:Option Addr) (e0:List D) (c0:Nat) (I:ByteArray) (Q:QT [.bool]) (h :
Bel N (D.sl a0 0 e0 c0)->kI 177 [.sv a0 0 e0 c0,.str I] N (λn a=>uP a (Q (decide (n≥0))))):ACalls prog 171 [.bool] [PV.sv a0 0 e0 c0,PV.str I] N Q:=
 eE H0 h
theorem Cw (N:Nat) (I:ByteArray) (Q:QT [.bool]) (h :
yD Q N I (I.size:Int) 0 N):ACalls prog 158 [.bool] [PV.str I] N Q:=
 eE tu h
theorem qM (N:Nat) (I:D) (Q:QT [.int .i64]) (h :
Bel N I->∃ a b,∃ c:Nat,(I.cell 1)=D.sl a 2 b c/\yI Q N 1 a b c (b.length:Int) 0 N):ACalls prog 136 [.int .i64] [PV.dg 2 I] N Q:=
 eE w8 h
theorem s9 (N:Nat) (I:D) (Q:QT [.int .i64]) (h :
Bel N I->∃ a b,∃ c:Nat,(I.cell 1)=D.sl a 2 b c/\z8 Q N 0 a b c (b.length:Int) 0 N):ACalls prog 137 [.int .i64] [PV.dg 2 I] N Q:=
 eE wZ h
theorem tJ (N:Nat) (I:D) (Q:QT [.bool]) (h :
Bel N I->∃ n:Int,(I.cell 0)=D.j n/\kB 25 [.j n,.j 1,.j 4] N (λb d=>Br b (∃ a b,∃ c:Nat,(I.cell 1)=D.sl a 2 b c/\∃ a:Int,
 (I.cell 0)=D.j a/\(0<=IntKind.i64.wrap (a - 1)/\IntKind.i64.wrap (a - 1)<4/\(0+(IntKind.i64.wrap (a - 1)).toNat:Nat)<4)/\(0 +
 (IntKind.i64.wrap (a - 1)).toNat:Nat)<4/\∃ c:Int,List.getD [D.j 0,D.j 0,D.j 2,D.j 1] (0+(IntKind.i64.wrap (a - 1)).toNat:Nat) default=D.j
 c/\uP d (Q ((b.length:Int)==c))) (uP d (Q false)))):ACalls prog 139 [.bool] [PV.dg 2 I] N Q:=
  eE tE h
theorem rD (N:Nat) (I:D) (Q:QT [.bool]) (h :
Bel N I->kI 136 [.dg 2 I] N (λn a=>Br (decide (n<=30)) (kI 137 [.dg 2 I] a (λa c=>Br (decide (a<=8)) (kB 138 [.dg 2 I,.fn 139 []]
 c (λb a=>uP a (Q b))) (uP c (Q false)))) (uP a (Q false)))):ACalls prog 109 [.bool] [PV.dg 2 I] N Q:=
  eE tw h
theorem BM (N:Nat) (I:ByteArray) (Q:QT [.int .i64]) (h :
Br (ByteArray.toList I==ByteArray.toList (bytes [43])) (uP N (Q 2)) (Br (ByteArray.toList I==ByteArray.toList (bytes [45])) (uP N (Q 2)) (Br
 (ByteArray.toList I==ByteArray.toList (bytes [42])) (uP N (Q 2)) (Br (ByteArray.toList I==ByteArray.toList (bytes [61])) (uP N (Q 2)) (Br
 (ByteArray.toList I==ByteArray.toList (bytes [60])) (uP N (Q 2)) (Br (ByteArray.toList I==ByteArray.toList (bytes [38])) (uP N (Q 2)) (Br
 (ByteArray.toList I==ByteArray.toList (bytes [124])) (uP N (Q 2)) (Br (ByteArray.toList I==ByteArray.toList (bytes [33])) (uP N (Q 1)) (uP N (Q
 0)))))))))):ACalls prog 103 [.int .i64] [PV.str I] N Q:=
  eE H0 h
theorem EH (N:Nat) (I:D) (Q:QT [.int .i64]) (h :
Bel N I->∃ n:Int,(I.cell 0)=D.j n/\Br (n==4) (∃ s,(I.cell 1)=D.t s/\kI 103 [.str s] N (λa b=>uP b (Q a))) (Br (n==5) (uP N (Q
 3)) (Br (n==7) (uP N (Q 2)) (Br (n==8) (uP N (Q 2)) (Br (n==6) (uP N (Q 1)) (Br (n==9) (uP N (Q 1)) (Br (n==10) (uP N (Q 1)) (Br (n==11) (uP N (Q
 1)) (Br (n==12) (uP N (Q 1)) (Br (n==13) (uP N (Q 1)) (uP N (Q 0)))))))))))):ACalls prog 74 [.int .i64] [PV.dg 9 I] N Q:=
  eE H0 h
theorem Av (N:Nat) (n0:Int) (Q:QT [.bool]) (h :
kB 25 [.j n0,.j 0,.j 10006] N (λb a=>uP a (Q b))):ACalls prog 159 [.bool] [PV.int .i64 n0] N Q:=
 eE H0 h
theorem BN (N:Nat) (I:D) (Q:QT [.bool]) (h :
Bel N I->∃ n:Int,(I.cell 0)=D.j n/\Br (n==1) (∃ s,(I.cell 1)=D.t s/\kB 158 [.str s] N (λb a=>uP a (Q b))) (Br (n==8) (∃ a,
 (I.cell 1)=D.t a/\kB 158 [.str a] N (λa b=>uP b (Q a))) (Br (n==2) (∃ a:Int,(I.cell 3)=D.j a/\kB 159 [.j a] N (λa b=>
 uP b (Q a))) (Br (n==3) (∃ a:Int,(I.cell 3)=D.j a/\kB 25 [.j a,.j 0,.j 1] N (λa b=>uP b (Q a))) (Br (n==4) (∃ a,(I.cell
 1)=D.t a/\kI 103 [.str a] N (λa b=>uP b (Q (decide (a>0))))) (Br (n==6) (∃ a,(I.cell 1)=D.t a/\kB 158 [.str a] N (λa b
 => Br a (kB 109 [.dg 2 (D.sub I 4 2)] b (λa b=>uP b (Q a))) (uP b (Q false)))) (Br (n==9) (∃ a,(I.cell 1)=D.t a/\kB 158 [.str
 a] N (λa b=>Br a (∃ a,(I.cell 2)=D.t a/\kB 158 [.str a] b (λa b=>Br a (∃ a,(I.cell 1)=D.t a/\∃ c,(I.cell 2) =
 D.t c/\Br (!(ByteArray.toList a==ByteArray.toList c)) (kB 109 [.dg 2 (D.sub I 4 2)] b (λa b=>Br a (kB 109 [.dg 2 (D.sub I 6 2)] b (fun
 a b=>uP b (Q a))) (uP b (Q false)))) (uP b (Q false))) (uP b (Q false)))) (uP b (Q false)))) (∃ a:Int,(I.cell 0)=D.j a/\kB 25 [.j
 a,.j 1,.j 13] N (λa b=>uP b (Q a)))))))))):ACalls prog 134 [.bool] [PV.dg 9 I] N Q:=
  eE A4 h
theorem qp (N:Nat) (I J:D) (Q:QT [.bool]) (h :
Bel N I->Bel N J->∃ n:Int,(I.cell 0)=D.j n/\∃ d:Int,(J.cell 0)=D.j d/\Br (n==d) (∃ a d,∃ c:Nat,(I.cell 1)=D.sl a 2 d c /\
 ∃ e f,∃ g:Nat,(J.cell 1)=D.sl e 2 f g/\kB 160 [.sv a 2 d c,.sv e 2 f g,.fn 135 []] N (λb a=>uP a (Q b))) (uP N (Q
 false))):ACalls prog 135 [.bool] [PV.dg 2 I,PV.dg 2 J] N Q:=
  eE H0 h
theorem Cz (N:Nat) (I:D) (Q:QT [.bool]) (h :
Bel N I->∃ a d,∃ c:Nat,(I.cell 8)=D.sl a 9 d c/\kI 74 [.dg 9 I] N (λn a=>Br (bne (d.length:Int) n) (uP a (Q false)) (∃ c:Int,
 (I.cell 0)=D.j c/\∃ c:Int,(I.cell 0)=D.j c/\Br (c==1) (∃ s,(I.cell 1)=D.t s/\kB 134 [.dg 9 I] a (λb a=>Br b (∃ b,(I.cell
 1)=D.t b/\Br (ByteArray.toList b==ByteArray.toList s) (∃ b,(I.cell 2)=D.t b/\Br (ByteArray.toList b==ByteArray.toList b0) (∃ b:Int,
 (I.cell 3)=D.j b/\Br (b==0) (kB 135 [.dg 2 (D.sub I 4 2),.dg 2 (D.ag [D.j 0,D.sl none 2 [] 0])] a (λa b=>Br a (kB 135 [.dg 2 (D.sub I 6
 2),.dg 2 (D.ag [D.j 0,D.sl none 2 [] 0])] b (λa b=>uP b (Q a))) (uP b (Q false)))) (uP a (Q false))) (uP a (Q false))) (uP a (Q false))) (uP
 a (Q false)))) (Br (c==8) (∃ b,(I.cell 1)=D.t b/\kB 134 [.dg 9 I] a (λa c=>Br a (∃ a,(I.cell 1)=D.t a/\Br (ByteArray.toList
 a==ByteArray.toList b) (∃ a,(I.cell 2)=D.t a/\Br (ByteArray.toList a==ByteArray.toList b0) (∃ a:Int,(I.cell 3)=D.j a/\Br (a ==
 0) (kB 135 [.dg 2 (D.sub I 4 2),.dg 2 (D.ag [D.j 0,D.sl none 2 [] 0])] c (λa b=>Br a (kB 135 [.dg 2 (D.sub I 6 2),.dg 2 (D.ag [D.j 0,D.sl
 none 2 [] 0])] b (λa b=>uP b (Q a))) (uP b (Q false)))) (uP c (Q false))) (uP c (Q false))) (uP c (Q false))) (uP c (Q false)))) (Br
 (c==2) (∃ b:Int,(I.cell 3)=D.j b/\kB 134 [.dg 9 I] a (λa c=>Br a (∃ a,(I.cell 1)=D.t a/\Br (ByteArray.toList a ==
 ByteArray.toList b0) (∃ a,(I.cell 2)=D.t a/\Br (ByteArray.toList a==ByteArray.toList b0) (∃ a:Int,(I.cell 3)=D.j a/\Br (a==b) (kB
 135 [.dg 2 (D.sub I 4 2),.dg 2 (D.ag [D.j 0,D.sl none 2 [] 0])] c (λa b=>Br a (kB 135 [.dg 2 (D.sub I 6 2),.dg 2 (D.ag [D.j 0,D.sl none 2 []
 0])] b (λa b=>uP b (Q a))) (uP b (Q false)))) (uP c (Q false))) (uP c (Q false))) (uP c (Q false))) (uP c (Q false)))) (Br (c==3)
 (∃ b:Int,(I.cell 3)=D.j b/\kB 134 [.dg 9 I] a (λa c=>Br a (∃ a,(I.cell 1)=D.t a/\Br (ByteArray.toList a==ByteArray.toList
 b0) (∃ a,(I.cell 2)=D.t a/\Br (ByteArray.toList a==ByteArray.toList b0) (∃ a:Int,(I.cell 3)=D.j a/\Br (a==b) (kB 135 [.dg 2 (D.sub
 I 4 2),.dg 2 (D.ag [D.j 0,D.sl none 2 [] 0])] c (λa b=>Br a (kB 135 [.dg 2 (D.sub I 6 2),.dg 2 (D.ag [D.j 0,D.sl none 2 [] 0])] b (fun
 a b=>uP b (Q a))) (uP b (Q false)))) (uP c (Q false))) (uP c (Q false))) (uP c (Q false))) (uP c (Q false)))) (Br (c==4) (∃ b,
 (I.cell 1)=D.t b/\kB 134 [.dg 9 I] a (λa c=>Br a (∃ a,(I.cell 1)=D.t a/\Br (ByteArray.toList a==ByteArray.toList b) (∃
 a,(I.cell 2)=D.t a/\Br (ByteArray.toList a==ByteArray.toList b0) (∃ a:Int,(I.cell 3)=D.j a/\Br (a==0) (kB 135 [.dg 2 (D.sub I 4
 2),.dg 2 (D.ag [D.j 0,D.sl none 2 [] 0])] c (λa b=>Br a (kB 135 [.dg 2 (D.sub I 6 2),.dg 2 (D.ag [D.j 0,D.sl none 2 [] 0])] b (λa
 b=>uP b (Q a))) (uP b (Q false)))) (uP c (Q false))) (uP c (Q false))) (uP c (Q false))) (uP c (Q false)))) (Br (c==6) (∃ b,(I.cell
 1)=D.t b/\kB 134 [.dg 9 I] a (λa c=>Br a (∃ a,(I.cell 1)=D.t a/\Br (ByteArray.toList a==ByteArray.toList b) (∃ a,
 (I.cell 2)=D.t a/\Br (ByteArray.toList a==ByteArray.toList b0) (∃ a:Int,(I.cell 3)=D.j a/\Br (a==0) (kB 135 [.dg 2 (D.sub I 4 2),
 .dg 2 (D.ag [D.cell (D.sub I 4 2) 0,D.cell (D.sub I 4 2) 1])] c (λa b=>Br a (kB 135 [.dg 2 (D.sub I 6 2),.dg 2 (D.ag [D.j 0,D.sl none 2 []
 0])] b (λa b=>uP b (Q a))) (uP b (Q false)))) (uP c (Q false))) (uP c (Q false))) (uP c (Q false))) (uP c (Q false)))) (Br (c==9)
 (∃ b,(I.cell 1)=D.t b/\∃ c,(I.cell 2)=D.t c/\kB 134 [.dg 9 I] a (λa d=>Br a (∃ a,(I.cell 1)=D.t a/\Br
 (ByteArray.toList a==ByteArray.toList b) (∃ a,(I.cell 2)=D.t a/\Br (ByteArray.toList a==ByteArray.toList c) (∃ a:Int,(I.cell
 3)=D.j a/\Br (a==0) (kB 135 [.dg 2 (D.sub I 4 2),.dg 2 (D.ag [D.cell (D.sub I 4 2) 0,D.cell (D.sub I 4 2) 1])] d (λa b=>Br a (kB
 135 [.dg 2 (D.sub I 6 2),.dg 2 (D.ag [D.cell (D.sub I 6 2) 0,D.cell (D.sub I 6 2) 1])] b (λa b=>uP b (Q a))) (uP b (Q false)))) (uP d
 (Q false))) (uP d (Q false))) (uP d (Q false))) (uP d (Q false)))) (kB 134 [.dg 9 I] a (λa b=>Br a (∃ a,(I.cell 1)=D.t a/\Br
 (ByteArray.toList a==ByteArray.toList b0) (∃ a,(I.cell 2)=D.t a/\Br (ByteArray.toList a==ByteArray.toList b0) (∃ a:Int,(I.cell 3) =
 D.j a/\Br (a==0) (kB 135 [.dg 2 (D.sub I 4 2),.dg 2 (D.ag [D.j 0,D.sl none 2 [] 0])] b (λa b=>Br a (kB 135 [.dg 2 (D.sub I 6 2),.dg
 2 (D.ag [D.j 0,D.sl none 2 [] 0])] b (λa b=>uP b (Q a))) (uP b (Q false)))) (uP b (Q false))) (uP b (Q false))) (uP b (Q false))) (uP
 b (Q false))))))))))))):ACalls prog 107 [.bool] [PV.dg 9 I] N Q:=
  eE CC h
theorem Cx (N:Nat) (I:D) (Q:QT [.bool]) (h :
Bel N I->kB 106 [.dg 9 I,.fn 107 []] N (λb a=>uP a (Q b))):ACalls prog 78 [.bool] [PV.dg 9 I] N Q:=
 eE CB h
theorem Au (N:Nat) (I:D) (Q:QT [.ag 2]) (h :
Bel N I->∃ n:Int,(I.cell 0)=D.j n/\∃ a b,∃ c:Nat,(I.cell 1)=D.sl a 2 b c/\xd Q N a b c (b.length:Int) 0 0 none [] 0 n
 none [] 0 N):ACalls prog 151 [.ag 2] [PV.dg 2 I] N Q:=
  eE wK h
theorem EL (N:Nat)  (Q:QT [.ag 2]) (h :
uP N (Q (D.ag [D.j 1,D.sl none 2 [] 0]))):ACalls prog 126 [.ag 2] [] N Q:=
 eE H0 h
theorem C0 (N:Nat)  (Q:QT [.ag 2]) (h :
uP N (Q (D.ag [D.j 2,D.sl none 2 [] 0]))):ACalls prog 127 [.ag 2] [] N Q:=
 eE H0 h
theorem EK (N:Nat) (I J:D) (Q:QT [.ag 2]) (h :
Bel N I->Bel N J->kA 2 151 [.dg 2 I] N (λx b=>kA 2 151 [.dg 2 J] b (λb c=>w3 (2=([x,b]).length/\2=2) (∀ a d,c<=d->Fresh
 N d a [D.ag [x,b]]->uP d (Q (D.ag [D.j 3,D.sl a 2 [x,b] 2])))))):ACalls prog 128 [.ag 2] [PV.dg 2 I,PV.dg 2 J] N Q:=
  eE DM h
theorem C1 (N:Nat) (I:D) (Q:QT [.ag 2]) (h :
Bel N I->kA 2 151 [.dg 2 I] N (λx b=>w3 (1=([x]).length/\1=1) (∀ a c,b<=c->Fresh N c a [D.ag [x]]->uP c (Q (D.ag [D.j 4,D.sl a 2
 [x] 1]))))):ACalls prog 129 [.ag 2] [PV.dg 2 I] N Q:=
  eE CD h
theorem xo {Q:QT [.int .i64]} {N0:Nat} {a0:Option Addr} {e0:List D} {c0:Nat} {J:ByteArray} {O I:Int} {N:Nat} (h :
Br (decide (I<O)) ((0<=I/\I<(e0.length:Int))/\∃ s,List.getD e0 I.toNat default=D.t s/\Br (ByteArray.toList J==ByteArray.toList s) (uP
 N (Q I)) (zr Q N0 a0 e0 c0 J O (IntKind.i64.wrap (I+1)) N)) (uP N (Q (-1)))):zr Q N0 a0 e0 c0 J O I N:=
  hE wL h
theorem uL {Q:QT [.bool]} {N0:Nat} {J:ByteArray} {O I:Int} {N:Nat} (h :
Br (decide (I<O)) ((0<=I/\I<(J.size:Int))/\Br (decide ((UInt8.toNat (Array.getD (ByteArray.data J) I.toNat (OfNat.ofNat 0)):Int)≥97))
 ((0<=I/\I<(J.size:Int))/\Br (!(decide ((UInt8.toNat (Array.getD (ByteArray.data J) I.toNat (OfNat.ofNat 0)):Int)<=122))) (Br (I==0) (uP N (Q
 false)) ((0<=I/\I<(J.size:Int))/\Br (decide ((UInt8.toNat (Array.getD (ByteArray.data J) I.toNat (OfNat.ofNat 0)):Int)<48)) (uP N (Q false)) ((0
 <= I/\I<(J.size:Int))/\Br (decide ((UInt8.toNat (Array.getD (ByteArray.data J) I.toNat (OfNat.ofNat 0)):Int)>57)) (uP N (Q false))
 (yD Q N0 J O (IntKind.i64.wrap (I+1)) N)))) (yD Q N0 J O (IntKind.i64.wrap (I+1)) N)) (Br (I==0) (uP N (Q false)) ((0 <=
 I/\I<(J.size:Int))/\Br (decide ((UInt8.toNat (Array.getD (ByteArray.data J) I.toNat (OfNat.ofNat 0)):Int)<48)) (uP N (Q false)) ((0<=I/\I <
 (J.size:Int))/\Br (decide ((UInt8.toNat (Array.getD (ByteArray.data J) I.toNat (OfNat.ofNat 0)):Int)>57)) (uP N (Q false)) (yD Q N0 J O
 (IntKind.i64.wrap (I+1)) N))))) (kB 25 [.j (J.size:Int),.j 1,.j 4] N (λb c=>Br b ((5=5/\5=5)/\∀ a,ApA a [D.t (bytes [105,102]),D.t (bytes
 [108,101,116]),D.t (bytes [108,105,102,116]),D.t (bytes [114,101,99]),D.t (bytes [114,117,110])]->∀ b,c<=b->Ii b [a]->ACalls prog 171
 [.bool] [.sv a 0 [D.t (bytes [105,102]),D.t (bytes [108,101,116]),D.t (bytes [108,105,102,116]),D.t (bytes [114,101,99]),D.t (bytes [114,117,
 110])] 5,.str J] b (λa c=>b<=c->uP c (Q (!a)))) (uP c (Q false))))):yD Q N0 J O I N:=
  hE tu h
theorem wN {Q:QT [.int .i64]} {N0:Nat} {n3:Int} {a7:Option Addr} {e7:List D} {c7:Nat} {n8 n9:Int} {N:Nat} (h :
Br (decide (n9<n8)) ((0<=n9/\n9<(e7.length:Int))/\kI 136 [.dg 2 (List.getD e7 n9.toNat default)] N (fun n a=>yI Q N0
 (IntKind.i64.wrap (n3+n)) a7 e7 c7 n8 (IntKind.i64.wrap (n9+1)) a)) (uP N (Q n3))):yI Q N0 n3 a7 e7 c7 n8 n9 N:=
  hE w8 h
theorem x5 {Q:QT [.int .i64]} {N0:Nat} {J:Int} {V:Option Addr} {O:List D} {Y:Nat} {U I:Int} {N:Nat} (h :
Br (decide (I<U)) ((0<=I/\I<(O.length:Int))/\kI 137 [.dg 2 (List.getD O I.toNat default)] N (λn a=>z8 Q N0 (if n >
 J then n else J) V O Y U (IntKind.i64.wrap (I+1)) a)) (uP N (Q (IntKind.i64.wrap (J+1)))) ):z8 Q N0 J V O Y U I N:=
  hE wZ h
theorem rG (N:Nat) (x0:D) (Q:QT [.bool]) (h :
Bel N x0->kB 139 [.dg 2 x0] N (fun b d=>Br b (∃ a b,∃ c:Nat,(x0.cell 1)=D.sl a 2 b c/\∀ e,ApA (Option.some e) [D.fn (OfNat.ofNat 139) []] ->
 Off [Option.some e] (D.sl a 2 b c)->∀ f,d<=f->Ii f [Option.some e]->ACalls prog 161 [.bool] [.sv a 2 b c,.fn 162 [.pd e 0 (.fn 139 [])]] f
 (fun a b=>f<=b->uP b (Q (!a)))) (uP d (Q false)))):ACalls prog 138 [.bool] [.dg 2 x0,.fn 139 []] N Q:=
  eE pO h
theorem wW (N:Nat) (a0:Option Addr) (e0:List D) (c0:Nat) (I:Option Addr) (e1:List D) (J:Nat) (Q:QT [.bool]) (h :
Bel N (D.sl a0 2 e0 c0)->Bel N (D.sl I 2 e1 J)->Br (bne (e0.length:Int) (e1.length:Int)) (uP N (Q false)) (zN Q N I e1 J
 a0 e0 c0 (e0.length:Int) 0 N)):ACalls prog 160 [.bool] [.sv a0 2 e0 c0,.sv I 2 e1 J,.fn 135 []] N Q:=
  eE xB h
theorem rF (N:Nat) (x0:D) (Q:QT [.bool]) (h :
Bel N x0->kB 107 [.dg 9 x0] N (fun b d=>Br b (∃ a b,∃ c:Nat,(x0.cell 8)=D.sl a 9 b c/\∀ e,ApA (Option.some e) [D.fn (OfNat.ofNat 107) []] ->
 Off [Option.some e] (D.sl a 9 b c)->∀ f,d<=f->Ii f [Option.some e]->ACalls prog 132 [.bool] [.sv a 9 b c,.fn 133 [.pd e 0 (.fn 107 [])]] f
 (fun a b=>f<=b->uP b (Q (!a)))) (uP d (Q false)))):ACalls prog 106 [.bool] [.dg 9 x0,.fn 107 []] N Q:=
  eE pN h
theorem vD {Q:QT [.ag 2]} {N0:Nat} {ah:Option Addr} {Y:List D} {ai:Nat} {ae J Z:Int} {aa:Option Addr} {ab:List D} {ac:Nat} {O:Int} {U:Option Addr} {I:List D} {V:Nat} {N:Nat} (h :
Br (decide (J<ae)) ((0<=J/\J<(Y.length:Int))/\kA 2 151 [.dg 2 (List.getD Y J.toNat default)] N (λx a=>Lt U I V [x] /\
 zK I [x] 32/\∀(c:Nat),yA Q N0 ah Y ai ae (IntKind.i64.wrap (J+1)) Z aa ab ac O (I++[x]).length c (I
 ++ [x]) c a)) (uP N (Q (D.ag [D.j O,D.sl U 2 I V])))):xd Q N0 ah Y ai ae J Z aa ab ac O U I V N:=
  hE wK h
theorem xz (N:Nat) (a0:Option Addr) (e0:List D) (c0:Nat) (I:Addr) (Q:QT [.bool]) (h :
Bel N (D.sl a0 2 e0 c0)->kI 172 [.sv a0 2 e0 c0,.fn 162 [.pd I 0 (.fn 139 [])]] N (λn a=>uP a (Q (decide (n≥0))))):ACalls prog 161 [.bool] [.sv a0 2 e0 c0,.fn 162 [.pd I 0 (.fn 139 [])]] N Q:=
 eE H0 h
theorem yd {Q:QT [.bool]} {N0:Nat} {Y:Option Addr} {e1:List D} {Z:Nat} {U:Option Addr} {J:List D} {V:Nat} {O I:Int} {N:Nat} (h :
Br (decide (I<O)) ((0<=I/\I<(J.length:Int))/\(0<=I/\I<(e1.length:Int))/\kB 135 [.dg 2 (List.getD J I.toNat default),.dg
 2 (List.getD e1 I.toNat default)] N (λb a=>Br (!b) (uP a (Q false)) (zN Q N0 Y e1 Z U J V O (IntKind.i64.wrap (I +
 1)) a))) (uP N (Q true))):zN Q N0 Y e1 Z U J V O I N:=
  hE xB h
theorem xy (N:Nat) (a0:Option Addr) (e0:List D) (c0:Nat) (I:Addr) (Q:QT [.bool]) (h :
Bel N (D.sl a0 9 e0 c0)->kI 157 [.sv a0 9 e0 c0,.fn 133 [.pd I 0 (.fn 107 [])]] N (λn a=>uP a (Q (decide (n≥0))))):ACalls prog 132 [.bool] [.sv a0 9 e0 c0,.fn 133 [.pd I 0 (.fn 107 [])]] N Q:=
 eE H0 h
theorem x7 {Q:QT [.ag 2]} {N0:Nat} {a10:Option Addr} {e10:List D} {c10:Nat} {n11 n12 n0_0:Int} {a0_1:Option Addr} {e0_1:List D} {c0_1:Nat} {n1_0:Int} {m1_1 c1_1:Nat} {r2:List D} {q2:Nat} {N:Nat} (h :
Br (decide (n12<n11)) ((0<=n12/\n12<(e10.length:Int))/\kA 2 151 [.dg 2 (List.getD e10 n12.toNat default)] N (fun x a=>(m1_1=r2.length/\c1_1
 = q2)/\zK r2 [x] 32/\∀(c:Nat),yA Q N0 a10 e10 c10 n11 (IntKind.i64.wrap (n12+1)) n0_0 a0_1 e0_1 c0_1 n1_0 (r2++[x]).length c
 (r2++[x]) c a)) (w3 (m1_1=r2.length/\c1_1=q2) (∀ a b,N<=b->Fresh N0 b a [D.ag r2]->uP b (Q (D.ag [D.j n1_0,D.sl a 2 r2 q2]))))):yA Q N0 a10 e10 c10 n11 n12 n0_0 a0_1 e0_1 c0_1 n1_0 m1_1 c1_1 r2 q2 N:=
  hE wK h
theorem wY (N:Nat) (a0:Option Addr) (e0:List D) (c0:Nat) (I:Addr) (Q:QT [.int .i64]) (h :
Bel N (D.sl a0 2 e0 c0)->zf Q N a0 e0 c0 I (e0.length:Int) 0 N):ACalls prog 172 [.int .i64] [.sv a0 2 e0 c0,.fn 162 [.pd I 0 (.fn 139 [])]] N Q:=
 eE xD h
theorem wX (N:Nat) (a0:Option Addr) (e0:List D) (c0:Nat) (I:Addr) (Q:QT [.int .i64]) (h :
Bel N (D.sl a0 9 e0 c0)->ze Q N a0 e0 c0 I (e0.length:Int) 0 N):ACalls prog 157 [.int .i64] [.sv a0 9 e0 c0,.fn 133 [.pd I 0 (.fn 107 [])]] N Q:=
 eE xC h
theorem yf {Q:QT [.int .i64]} {N0:Nat} {a0:Option Addr} {e0:List D} {c0:Nat} {I:Addr} {O J:Int} {N:Nat} (h :
Br (decide (J<O)) ((0<=J/\J<(e0.length:Int))/\kB 162 [.dg 2 (List.getD e0 J.toNat default),.pd I 0 (.fn 139 [])] N (λb a=>Br b (uP
 a (Q J)) (zf Q N0 a0 e0 c0 I O (IntKind.i64.wrap (J+1)) a))) (uP N (Q (-1)))):zf Q N0 a0 e0 c0 I O J N:=
  hE xD h
theorem ye {Q:QT [.int .i64]} {N0:Nat} {a0:Option Addr} {e0:List D} {c0:Nat} {I:Addr} {O J:Int} {N:Nat} (h :
Br (decide (J<O)) ((0<=J/\J<(e0.length:Int))/\kB 133 [.dg 9 (List.getD e0 J.toNat default),.pd I 0 (.fn 107 [])] N (λb a=>Br b (uP
 a (Q J)) (ze Q N0 a0 e0 c0 I O (IntKind.i64.wrap (J+1)) a))) (uP N (Q (-1)))):ze Q N0 a0 e0 c0 I O J N:=
  hE xC h
theorem tL (N:Nat) (I:D) (J:Addr) (Q:QT [.bool]) (h :
Bel N I->kB 138 [.dg 2 I,.fn 139 []] N (λb a=>uP a (Q (!b)))):ACalls prog 162 [.bool] [.dg 2 I,.pd J 0 (.fn 139 [])] N Q:=
 eE rT h
theorem tK (N:Nat) (I:D) (J:Addr) (Q:QT [.bool]) (h :
Bel N I->kB 106 [.dg 9 I,.fn 107 []] N (λb a=>uP a (Q (!b)))):ACalls prog 133 [.bool] [.dg 9 I,.pd J 0 (.fn 107 [])] N Q:=
 eE rR h
end Go.Proofs.YtldbmnklnpfpfaaGreatDoor
set_option maxRecDepth 100000
namespace Go.Proofs.YtldbmnklnpfpfaaGreatDoor
open Go Go.Proofs Go.Proofs.Tryz
def tN:Hint:=⟨[hc 3 [3,7,8,9]],[],[(5,hs 5 [ec 2 [14]])]⟩
def tv:Hint:=⟨[],[],[(1,hs 13 [ec 1 [3],ec 4 [6],ec 9 [11]])]⟩
def tz:Hint:=⟨[hc 3 [3,7,8,9]],[],[(5,hs 5 [ec 2 [14]])]⟩
def tQ:Hint:=⟨[hc 3 [1,3,4]],[],[(5,hs 9 [ec 6 [17]])]⟩
def t8:Hint:=⟨[],[],[(1,hs 13 [ec 1 [3],ec 5 [7],ec 10 [12]])]⟩
def sF:Hint:=⟨[hc 3 [1,2,5]],[],[(5,hs 8 [ec 6 [23]])]⟩
def yn (Q:QT [.int .i64])(N0:Nat)(I:Int)(J:Option Addr)(O:List D)(U:Nat)(V Y:Int)(N:Nat):Prop:=AT prog 80 [.int .i64] Q N0 .ord (za prog 80 3) ⟨an 3 (.int .i64 I::an 3 (.sv J 9 O U::.int .i64 V::.int .i64 Y::an 10 [])),[],N,none⟩
def xE (Q:QT [.int .i64])(N0:Nat)(I:Int)(J:Option Addr)(O:List D)(U:Nat)(V Y:Int)(N:Nat):Prop:=AT prog 79 [.int .i64] Q N0 .ord (za prog 79 3) ⟨an 3 (.int .i64 I::an 3 (.sv J 9 O U::.int .i64 V::.int .i64 Y::an 9 [])),[],N,none⟩
def yq (Q:QT [.int .i64])(N0:Nat)(I n4:Int)(J:D)(N:Nat):Prop:=AT prog 69 [.int .i64] Q N0 .ord (za prog 69 3) ⟨an 1 (.pb 0 0 0 0::an 1 (.int .i64 I::.int .i64 n4::an 17 [])),[.vd J 9],N,none⟩
def xJ (Q:QT [.int .i64])(N0:Nat)(n1 I:Int)(J:D)(N:Nat):Prop:=AT prog 68 [.int .i64] Q N0 .ord (za prog 68 3) ⟨an 1 (.int .i64 n1::.pb 0 0 0 0::an 2 (.int .i64 I::an 21 [])),[.vd J 9],N,none⟩
theorem BL (N:Nat) (I:D) (Q:QT [.int .i64]) (h :
Bel N I->∃ a b,∃ c:Nat,(I.cell 8)=D.sl a 9 b c/\yn Q N 0 a b c (b.length:Int) 0 N):ACalls prog 80 [.int .i64] [PV.dg 9 I] N Q:=
 eE tN h
theorem rC (N:Nat) (I:D) (Q:QT [.bool]) (h :
Bel N I->kB 78 [.dg 9 I] N (λb a=>Br b (∀ b,a<=b->ACalls prog 79 [.i] [.dg 9 I] b (λn a=>b<=a->Br (decide (n<=80)) (kI 80 [.dg
 9 I] a (λa b=>uP b (Q (decide (a<=20))))) (uP a (Q false)))) (uP a (Q false)))):ACalls prog 46 [.bool] [PV.dg 9 I] N Q:=
  eE tv h
theorem Cy (N:Nat) (I:D) (Q:QT [.int .i64]) (h :
Bel N I->∃ a b,∃ c:Nat,(I.cell 8)=D.sl a 9 b c/\xE Q N 1 a b c (b.length:Int) 0 N):ACalls prog 79 [.int .i64] [PV.dg 9 I] N Q:=
 eE tz h
theorem BQ (N:Nat) (I:D) (Q:QT [.int .i64]) (h :
Bel N I->yq Q N 0 0 I N):ACalls prog 69 [.int .i64] [PV.dg 9 I] N Q:=
 eE tQ h
theorem rI (N:Nat) (I:D) (Q:QT [.bool]) (h :
Bel N I->kI 68 [.dg 9 I,.j 80] N (λn a=>Br (decide (n≥0)) (kI 69 [.dg 9 I] a (λa c=>Br (decide (a<=20)) (kB 70 [.dg 9 I] c (fun
 b a=>uP a (Q b))) (uP c (Q false)))) (uP a (Q false)))):ACalls prog 35 [.bool] [PV.dg 9 I] N Q:=
  eE t8 h
theorem DB (N:Nat) (I:D) (n1:Int) (Q:QT [.int .i64]) (h :
Bel N I->xJ Q N (IntKind.i64.wrap (n1 - 1)) 0 I N):ACalls prog 68 [.int .i64] [PV.dg 9 I,PV.int .i64 n1] N Q:=
 eE sF h
theorem vi {Q:QT [.int .i64]} {N0:Nat} {J:Int} {V:Option Addr} {O:List D} {Y:Nat} {U I:Int} {N:Nat} (h :
Br (decide (I<U)) ((0<=I/\I<(O.length:Int))/\kI 80 [.dg 9 (List.getD O I.toNat default)] N (λn a=>yn Q N0 (if n>J
 then n else J) V O Y U (IntKind.i64.wrap (I+1)) a)) (uP N (Q (IntKind.i64.wrap (J+1))))):yn Q N0 J V O Y U I N:=
  hE tN h
theorem uM {Q:QT [.int .i64]} {N0:Nat} {O:Int} {V:Option Addr} {J:List D} {Y:Nat} {U I:Int} {N:Nat} (h :
Br (decide (I<U)) ((0<=I/\I<(J.length:Int))/\∀ a,N<=a->ACalls prog 79 [.i] [.dg 9 (List.getD J I.toNat default)] a (λn b=>a <=
 b->xE Q N0 (IntKind.i64.wrap (O+n)) V J Y U (IntKind.i64.wrap (I+1)) b)) (uP N (Q O))):xE Q N0 O V J Y U I N:=
  hE tz h
theorem vm {Q:QT [.int .i64]} {N0:Nat} {n3 n4:Int} {y0:D} {N:Nat} (h :
∃ a b,∃ c:Nat,(y0.cell 8)=D.sl a 9 b c/\Br (decide (n4<(b.length:Int))) (∃ a b,∃ c:Nat,(y0.cell 8)=D.sl a 9 b c/\(0<=n4
 /\ n4<(b.length:Int))/\kI 69 [.dg 9 (List.getD b n4.toNat default)] N (fun n a=>kI 97 [.j n3,.j n] a (fun a b=>yq Q N0 a
 (IntKind.i64.wrap (n4+1)) y0 b))) (uP N (Q (IntKind.i64.wrap (n3+1))))):yq Q N0 n3 n4 y0 N:=
  hE tQ h
theorem uU {Q:QT [.int .i64]} {N0:Nat} {n1 n5:Int} {y0:D} {N:Nat} (h :
∃ a b,∃ c:Nat,(y0.cell 8)=D.sl a 9 b c/\Br (decide (n5<(b.length:Int))) (Br (decide (n1≥0)) (∃ a b,∃ c:Nat,(y0.cell 8)=D.sl
 a 9 b c/\(0<=n5/\n5<(b.length:Int))/\kI 68 [.dg 9 (List.getD b n5.toNat default),.j n1] N (fun n a=>xJ Q N0 n
 (IntKind.i64.wrap (n5+1)) y0 a)) (uP N (Q n1))) (uP N (Q n1))):xJ Q N0 n1 n5 y0 N:=
  hE sF h
end Go.Proofs.YtldbmnklnpfpfaaGreatDoor
set_option maxRecDepth 100000
namespace Go.Proofs.YtldbmnklnpfpfaaGreatDoor
open Go Go.Proofs Go.Proofs.Tryz
def vg:Hint:=⟨[hc 5 [0,3,4]],[],[]⟩
def zS (Q:QT [.str])(N0:Nat)(n0:Int)(I:Bool)(J:ByteArray)(N:Nat):Prop:=AT prog 24 [.str] Q N0 .ord (za prog 24 5) ⟨.int .i64 n0::an 2 (.bool I::.str J::an 26 []),[],N,none⟩
theorem qq (N:Nat) (n0:Int) (Q:QT [.str]) (h :
kS 61 [.j n0] N (λs a=>uP a (Q s))):ACalls prog 27 [.str] [PV.int .i64 n0] N Q:=
 eE H0 h
theorem vo (N:Nat) (n0:Int) (Q:QT [.str]) (h :
Br (n0==0) (uP N (Q (bytes [48]))) (zS Q N n0 (decide (n0<0)) b0 N)):ACalls prog 24 [.str] [PV.int .i64 n0] N Q:=
 eE vg h
theorem EO (N:Nat) (I:ByteArray) (Q:QT [.ag 9]) (h :
∀ a,N<=a->Q (D.ag [D.j 1,D.t I,D.t b0,D.j 0,D.j 0,D.sl none 2 [] 0,D.j 0,D.sl none 2 [] 0,D.sl none 9 [] 0]) a):ACalls prog 33 [.ag 9] [PV.str I] N Q:=
  eE H0 h
theorem qW (N:Nat) (n0:Int) (Q:QT [.ag 9]) (h :
∀ a,N<=a->Q (D.ag [D.j 2,D.t b0,D.t b0,D.j n0,D.j 0,D.sl none 2 [] 0,D.j 0,D.sl none 2 [] 0,D.sl none 9 [] 0]) a):ACalls prog 67 [.ag 9] [PV.int .i64 n0] N Q:=
  eE H0 h
theorem rL (N:Nat) (n0:Int) (Q:QT [.ag 9]) (h :
∀ a,N<=a->Q (D.ag [D.j 3,D.t b0,D.t b0,D.j n0,D.j 0,D.sl none 2 [] 0,D.j 0,D.sl none 2 [] 0,D.sl none 9 [] 0]) a):ACalls prog 29 [.ag 9] [PV.int .i64 n0] N Q:=
  eE H0 h
theorem xR {Q:QT [.str]} {N0:Nat} {n0:Int} {J:Bool} {I:ByteArray} {N:Nat} (h :
Br (bne n0 0) ((10:Int)≠(0:Int)/\Br (decide (Int.tmod n0 10<0)) (1<=([D.lit (.int IntKind.u8 (IntKind.u8.wrap (IntKind.i64.wrap (48 +
 IntKind.i64.wrap (0 - Int.tmod n0 10)))))]).length/\∃ a:List Int,List.take 1 [D.lit (.int IntKind.u8 (IntKind.u8.wrap (IntKind.i64.wrap (48 +
 IntKind.i64.wrap (0 - Int.tmod n0 10)))))]=List.map (λn=>D.lit (.int IntKind.u8 n)) a/\(ByteArray.size (zX a)+I.size:Nat) <=
 9223372036854775807/\(10:Int)≠(0:Int)/\zS Q N0 (IntKind.i64.wrap (Int.tdiv n0 10)) J (zX a++I) N) (1<=([D.lit (.int
 IntKind.u8 (IntKind.u8.wrap (IntKind.i64.wrap (48+Int.tmod n0 10))))]).length/\∃ a:List Int,List.take 1 [D.lit (.int IntKind.u8 (IntKind.u8.wrap
 (IntKind.i64.wrap (48+Int.tmod n0 10))))]=List.map (λa=>D.lit (.int IntKind.u8 a)) a/\(ByteArray.size (zX a)+I.size:Nat) <=
 9223372036854775807/\(10:Int)≠(0:Int)/\zS Q N0 (IntKind.i64.wrap (Int.tdiv n0 10)) J (zX a++I) N)) (Br J ((1+I.size :
 Nat)<=9223372036854775807/\uP N (Q (bytes [45]++I))) (uP N (Q I)))):zS Q N0 n0 J I N:=
  hE vg h
end Go.Proofs.YtldbmnklnpfpfaaGreatDoor
set_option maxRecDepth 100000
namespace Go.Proofs.YtldbmnklnpfpfaaGreatDoor
open Go Go.Proofs Go.Proofs.Tryz
def qa:Hint:=⟨[],[],[(7,[en 0,en 1,en 2,en 3,en 7,en 8,en 9,en 10,ec 4 [14],en 5,en 6,ec 11 [21],en 12,en 13,en 14]),(8,hs 8 [ec 4 [28]])]⟩
def rQ:Hint:=⟨[],[],[(1,hs 3 [ec 1 [3]]),(3,hs 3 [ec 1 [6]])]⟩
def vc:Hint:=⟨[hc 3 [1,3,8,9,10] [(3,9,0)]],[],[(5,hs 6 [ec 2 [15]]),(17,[en 0,en 1,en 2,en 3,en 4,en 5,en 6,en 7,en 8,en 9,en 10,en 11,en 12]),(21,[en 0,en 1,en 2,en 3,en 4,en 5,en 9,en 10,en 11,ec 6 [75],en 7,en 8,en 12,en 13,en 14]),(25,[en 0,en 1,en 2,en 3,en 4,eh 5,en 6,en 7,en 8]),(27,[en 0,en 1,en 2,en 3,en 4,en 5,en 6,en 7,en 8,en 9,en 13,en 14,en 18,en 19,en 20,ec 10 [111],en 11,en 12,ec 15 [116],en 16,en 17,en 21,en 22,en 23])]⟩
def rP:Hint:=⟨[],[],[(1,hs 3 [ec 1 [3]]),(3,hs 3 [ec 1 [6]])]⟩
def yQ (Q:QT [.str])(N0:Nat)(J c3:Nat)(O:Option Addr)(U:List D)(V:Nat)(Y I:Int)(Z:D)(r1:List D)(q1:Nat)(N:Nat):Prop:=AT prog 47 [.str] Q N0 .ord (za prog 47 3) ⟨an 1 (.pb 0 0 0 0::an 1 (.sb 1 0 0 J c3::an 4 (.sv O 9 U V::.int .i64 Y::.int .i64 I::an 139 []))),[.vd Z 9,.arr 9 0 r1 q1],N,none⟩
theorem FH (N:Nat) (a0:Option Addr) (e0:List D) (c0:Nat) (I:ByteArray) (Q:QT [.str]) (h :
Bel N (D.sl a0 0 e0 c0)->kS 108 [.sv a0 0 e0 c0,.str I] N (λs a=>uP a (Q s))):ACalls prog 81 [.str] [PV.sv a0 0 e0 c0,PV.str I] N Q:=
 eE H0 h
theorem yv (N:Nat) (I:D) (Q:QT [.str]) (h :
Bel N I->∃ n:Int,(I.cell 0)=D.j n/\Br (n==1) (uP N (Q (bytes [73]))) (Br (n==2) (uP N (Q (bytes [66]))) (Br (n==3) (∃ a b,∃ c:Nat,
 (I.cell 1)=D.sl a 2 b c/\((0:Int)<=(0:Int)/\0<(b.length:Int))/\∃ a c,∃ d:Nat,(I.cell 1)=D.sl a 2 c d/\((0:Int)<=(1 :
 Int)/\1<(c.length:Int))/\kS 110 [.dg 2 (List.getD b 0 default)] N (λs a=>(1+s.size:Nat)<=9223372036854775807/\(ByteArray.size (bytes [40]
 ++ s)+1:Nat)<=9223372036854775807/\kS 110 [.dg 2 (List.getD c 1 default)] a (λa b=>(ByteArray.size (bytes [40]++s++bytes [62])+a.size
 : Nat)<=9223372036854775807/\(ByteArray.size (bytes [40]++s++bytes [62]++a)+1:Nat)<=9223372036854775807/\uP b (Q (bytes [40]++s++bytes [62]
 ++ a++bytes [41]))))) (∃ a b,∃ c:Nat,(I.cell 1)=D.sl a 2 b c/\((0:Int)<=(0:Int)/\0<(b.length:Int))/\kS 110 [.dg 2
 (List.getD b 0 default)] N (λa b=>(1+a.size:Nat)<=9223372036854775807/\(ByteArray.size (bytes [60]++a)+1:Nat)<=9223372036854775807 /\
 uP b (Q (bytes [60]++a++bytes [62]))))))):ACalls prog 110 [.str] [PV.dg 2 I] N Q:=
  eE qa h
theorem qL (N:Nat) (I:D) (Q:QT [.str]) (h :
Bel N I->kB 109 [.dg 2 I] N (λb a=>Br (!b) (uP a (Q b0)) (kS 110 [.dg 2 I] a (λs a=>uP a (Q s))))):ACalls prog 82 [.str] [PV.dg 2 I] N Q:=
 eE rQ h
theorem qu (N:Nat) (I:D) (Q:QT [.str]) (h :
Bel N I->∃ a b,∃ c:Nat,(I.cell 8)=D.sl a 9 b c/\yQ Q N 0 0 a b c (b.length:Int) 0 I [] 0 N):ACalls prog 47 [.str] [PV.dg 9 I] N Q:=
 eE vc h
theorem qK (N:Nat) (I:D) (Q:QT [.str]) (h :
Bel N I->kB 46 [.dg 9 I] N (λb a=>Br (!b) (uP a (Q b0)) (kS 47 [.dg 9 I] a (λs a=>uP a (Q s))))):ACalls prog 15 [.str] [PV.dg 9 I] N Q:=
 eE rP h
theorem wj {Q:QT [.str]} {N0:Nat} {I c3:Nat} {Z:Option Addr} {V:List D} {c8:Nat} {Y O:Int} {J:D} {r1:List D} {U:Nat} {N:Nat} (h :
Br (decide (O<Y)) ((0<=O/\O<(V.length:Int))/\kS 47 [.dg 9 (List.getD V O.toNat default)] N (λs a=>(I=r1.length/\c3=U) /\
 zK r1 [D.t s] 16/\∀(c:Nat),yQ Q N0 (r1++[D.t s]).length c Z V c8 Y (IntKind.i64.wrap (O+1)) J (r1++[D.t s]) c a)) (∃ n :
 Int,(J.cell 0)=D.j n/\Br (n==1) (∃ a,(J.cell 1)=D.t a/\uP N (Q a)) (Br (n==2) (∃ a:Int,(J.cell 3)=D.j a/\kS 27 [.j a] N (fun
 a b=>uP b (Q a))) (Br (n==3) (∃ a:Int,(J.cell 3)=D.j a/\∃ b:Int,(J.cell 3)=D.j b/\(0<=a/\a<=IntKind.i64.wrap (b+1) /\
 IntKind.i64.wrap (b+1)<=2)/\(1+ByteArray.size (ByteArray.extract (bytes [102,116]) a.toNat (IntKind.i64.wrap (b+1)).toNat):Nat) <=
 9223372036854775807/\∀ c,N<=c->Q (bytes [35]++ByteArray.extract (bytes [102,116]) a.toNat (IntKind.i64.wrap (b+1)).toNat) c) (Br (n==4) (Br
 ((I:Int)==1) (((0:Int)<=(0:Int)/\0<(I:Int)/\0<r1.length)/\0<r1.length/\∃ a,List.getD r1 0 default=D.t a/\(2+a.size:Nat) <=
 9223372036854775807/\(ByteArray.size (bytes [40,33]++a)+1:Nat)<=9223372036854775807/\uP N (Q (bytes [40,33]++a++bytes [41]))) (((0:Int) <=
 (0:Int)/\0<(I:Int)/\0<r1.length)/\0<r1.length/\∃ a,List.getD r1 0 default=D.t a/\(1+a.size:Nat)<=9223372036854775807/\∃ b,
 (J.cell 1)=D.t b/\(ByteArray.size (bytes [40]++a)+b.size:Nat)<=9223372036854775807/\((0:Int)<=(1:Int)/\1<(I:Int)/\1<r1.length) /\
 1<r1.length/\∃ c,List.getD r1 1 default=D.t c/\(ByteArray.size (bytes [40]++a++b)+c.size:Nat)<=9223372036854775807/\(ByteArray.size
 (bytes [40]++a++b++c)+1:Nat)<=9223372036854775807/\uP N (Q (bytes [40]++a++b++c++bytes [41])))) (Br (n==5) ((I=r1.length /\
 c3=U)/\∀ a,ApA a r1->∀ b,N<=b->Ii b [a]->ACalls prog 81 [.str] [.sv a 0 r1 c3,.str (bytes [32])] b (λa c=>b<=c->(4 +
 a.size:Nat)<=9223372036854775807/\(ByteArray.size (bytes [40,105,102,32]++a)+1:Nat)<=9223372036854775807/\uP c (Q (bytes [40,105,102,32]
 ++ a++bytes [41])))) (Br (n==6) (∃ a,(J.cell 1)=D.t a/\(2+a.size:Nat)<=9223372036854775807/\(ByteArray.size (bytes [40,92]++a)+1 :
 Nat)<=9223372036854775807/\((0:Int)<=(0:Int)/\0<(I:Int)/\0<r1.length)/\0<r1.length/\∃ b,List.getD r1 0 default=D.t b/\kS 82 [.dg 2
 (D.sub J 4 2)] N (λc d=>(ByteArray.size (bytes [40,92]++a++bytes [58])+c.size:Nat)<=9223372036854775807/\(ByteArray.size (bytes [40,
 92]++a++bytes [58]++c)+1:Nat)<=9223372036854775807/\(ByteArray.size (bytes [40,92]++a++bytes [58]++c++bytes [46])+b.size :
 Nat)<=9223372036854775807/\(ByteArray.size (bytes [40,92]++a++bytes [58]++c++bytes [46]++b)+1:Nat)<=9223372036854775807/\uP d (Q
 (bytes [40,92]++a++bytes [58]++c++bytes [46]++b++bytes [41])))) (Br (n==7) ((I=r1.length/\c3=U)/\∀ a,ApA a r1->∀ b,N <=
 b->Ii b [a]->ACalls prog 81 [.str] [.sv a 0 r1 c3,.str (bytes [32])] b (λa c=>b<=c->(1+a.size:Nat)<=9223372036854775807 /\
 (ByteArray.size (bytes [40]++a)+1:Nat)<=9223372036854775807/\uP c (Q (bytes [40]++a++bytes [41])))) (Br (n==8) (∃ a,(J.cell 1)=D.t
 a/\(5+a.size:Nat)<=9223372036854775807/\(ByteArray.size (bytes [40,108,101,116,32]++a)+1:Nat)<=9223372036854775807/\(I=r1.length
 /\ c3=U)/\∀ b,ApA b r1->∀ c,N<=c->Ii c [b]->ACalls prog 81 [.str] [.sv b 0 r1 c3,.str (bytes [32])] c (λb d=>c<=d ->
 (ByteArray.size (bytes [40,108,101,116,32]++a++bytes [61])+b.size:Nat)<=9223372036854775807/\(ByteArray.size (bytes [40,108,101,116,32]
 ++ a++bytes [61]++b)+1:Nat)<=9223372036854775807/\uP d (Q (bytes [40,108,101,116,32]++a++bytes [61]++b++bytes [41])))) (Br
 (n==9) (∃ a,(J.cell 1)=D.t a/\(5+a.size:Nat)<=9223372036854775807/\(ByteArray.size (bytes [40,114,101,99,32]++a)+1:Nat) <=
 9223372036854775807/\∃ b,(J.cell 2)=D.t b/\(ByteArray.size (bytes [40,114,101,99,32]++a++bytes [32])+b.size:Nat) <=
 9223372036854775807/\(ByteArray.size (bytes [40,114,101,99,32]++a++bytes [32]++b)+1:Nat)<=9223372036854775807/\((0:Int)<=(0:Int)/\0
 < (I:Int)/\0<r1.length)/\0<r1.length/\∃ c,List.getD r1 0 default=D.t c/\kS 82 [.dg 2 (D.sub J 4 2)] N (λd e=>(ByteArray.size
 (bytes [40,114,101,99,32]++a++bytes [32]++b++bytes [58])+d.size:Nat)<=9223372036854775807/\(ByteArray.size (bytes [40,114,101,99,
 32]++a++bytes [32]++b++bytes [58]++d)+1:Nat)<=9223372036854775807/\kS 82 [.dg 2 (D.sub J 6 2)] e (λe f=>(ByteArray.size
 (bytes [40,114,101,99,32]++a++bytes [32]++b++bytes [58]++d++bytes [62])+e.size:Nat)<=9223372036854775807/\(ByteArray.size
 (bytes [40,114,101,99,32]++a++bytes [32]++b++bytes [58]++d++bytes [62]++e)+1:Nat)<=9223372036854775807/\(ByteArray.size
 (bytes [40,114,101,99,32]++a++bytes [32]++b++bytes [58]++d++bytes [62]++e++bytes [46])+c.size:Nat)<=9223372036854775807
 /\ (ByteArray.size (bytes [40,114,101,99,32]++a++bytes [32]++b++bytes [58]++d++bytes [62]++e++bytes [46]++c)+1:Nat) <=
 9223372036854775807/\uP f (Q (bytes [40,114,101,99,32]++a++bytes [32]++b++bytes [58]++d++bytes [62]++e++bytes [46]++c ++
 bytes [41]))))) (Br (n==10) (((0:Int)<=(0:Int)/\0<(I:Int)/\0<r1.length)/\0<r1.length/\∃ a,List.getD r1 0 default=D.t a/\(1 +
 a.size:Nat)<=9223372036854775807/\(ByteArray.size (bytes [60]++a)+1:Nat)<=9223372036854775807/\uP N (Q (bytes [60]++a++bytes [62])))
 (Br (n==11) (((0:Int)<=(0:Int)/\0<(I:Int)/\0<r1.length)/\0<r1.length/\∃ a,List.getD r1 0 default=D.t a/\(1+a.size:Nat) <=
 9223372036854775807/\uP N (Q (bytes [126]++a))) (Br (n==12) (((0:Int)<=(0:Int)/\0<(I:Int)/\0<r1.length)/\0<r1.length/\∃ a,
 List.getD r1 0 default=D.t a/\(5+a.size:Nat)<=9223372036854775807/\(ByteArray.size (bytes [40,114,117,110,32]++a)+1:Nat) <=
 9223372036854775807/\uP N (Q (bytes [40,114,117,110,32]++a++bytes [41]))) (((0:Int)<=(0:Int)/\0<(I:Int)/\0<r1.length)/\0<r1.length
 /\ ∃ a,List.getD r1 0 default=D.t a/\(6+a.size:Nat)<=9223372036854775807/\(ByteArray.size (bytes [40,108,105,102,116,32]++a)+1 :
 Nat)<=9223372036854775807/\uP N (Q (bytes [40,108,105,102,116,32]++a++bytes [41])))))))))))))))):yQ Q N0 I c3 Z V c8 Y O J r1 U N:=
  hE vc h
end Go.Proofs.YtldbmnklnpfpfaaGreatDoor
set_option maxRecDepth 100000
namespace Go.Proofs.YtldbmnklnpfpfaaGreatDoor
open Go Go.Proofs Go.Proofs.Tryz
def pT:Hint:=⟨[hc 3 [0,1,5,6] [(5,5,0)]],[],[]⟩
def CG:Hint:=⟨[],[],[(7,[en 0,en 1,en 2,en 3,en 7,en 8,en 9,en 10,ec 4 [14],en 5,en 6,ec 11 [21],en 12,en 13,en 14]),(8,hs 8 [ec 4 [28]])]⟩
def CH:Hint:=⟨[],[],[(5,[en 0,en 1,en 2,en 3,en 4,en 5,en 9,en 10,en 11,ec 6 [20],en 7,en 8,en 12,en 13,en 14]),(9,[en 0,en 1,en 2,en 3,en 4,eh 5,en 6,en 7,en 8]),(11,[en 0,en 1,en 2,en 3,en 4,en 5,en 6,en 7,en 8,en 9,en 13,en 14,en 18,en 19,en 20,ec 10 [56],en 11,en 12,ec 15 [61],en 16,en 17,en 21,en 22,en 23])]⟩
def sG:Hint:=⟨[hc 3 [1,3,4] [(3,9,0)]],[],[(5,hs 10 [ec 6 [18]]),(16,[en 0,en 1,en 2,en 3,en 4,en 5,en 6,en 7,en 8,en 9,en 10,en 11,en 12]),(21,hs 4 [ec 2 [77]])]⟩
def rV:Hint:=⟨[],[],[(1,hs 3 [ec 1 [3]]),(3,hs 3 [ec 1 [6]])]⟩
def sB:Hint:=⟨[hc 9 [0,6,7,8,9]],[],[]⟩
def CF:Hint:=⟨[],[],[(1,[en 0,en 1,en 2,en 3,en 4,en 5,en 6,en 7,en 8,en 9,en 10,en 11,en 12,en 13,en 14,en 15,en 16,en 17,en 18,en 19,en 20,en 21,en 22,en 23,en 24,en 25,en 26,en 27,en 28,en 29,en 30,en 31,en 32,en 33,en 34,en 35,en 36,en 37,en 38])]⟩
def sE:Hint:=⟨[hc 2 [0,3]],[],[(2,[en 0,en 1,en 2,en 3,en 4,en 5,en 6,en 7,en 8,en 9,en 10,en 11,en 12,en 13,en 14,en 15,en 16,en 17,en 18,en 19,en 20,en 21,en 22,en 23,en 24,en 25,en 26,en 27,en 28,en 29,en 30,en 31,en 32,en 33,en 34,en 35,en 36,en 37,en 38,en 39,en 40,en 41,en 42,en 43,en 44,en 45,en 46,en 47,en 48,en 49,en 50,en 51,en 52,en 53,en 54,en 55,en 56,en 57]),(4,[en 0,en 1,en 2,en 3,en 4,en 5,en 6,en 7,en 8,en 9,en 10])]⟩
def vK:Hint:=⟨[hc 2 [0,2,3,5,8,9]],[],[(6,[en 0,en 1,en 2,en 3,eh 4,en 5,eh 6,en 7,eh 8])]⟩
def DN:Hint:=⟨[],[],[(9,hs 5 [ec 3 [27]])]⟩
def CJ:Hint:=⟨[],[],[(3,hs 5 [ec 3 [14]]),(4,[en 0,en 1,en 2,en 3,en 4,en 5,en 6,en 7,en 8,en 9,en 10,en 11,en 12,en 13,en 14,en 15,en 16,en 17,en 18,eh 19]),(5,[en 0,en 1,en 2,en 3,en 4,en 5,en 6,en 7,en 8,en 9,en 10,en 11,en 12,en 13,en 14,en 15,en 16,en 17,en 18,eh 19,en 20,en 21]),(9,[en 0,en 1,en 2,en 3,en 4,en 5,en 6,en 7,en 8,en 9,en 10,en 11,en 12,en 13,en 14,eh 15]),(11,hs 5 [ec 3 [87]])]⟩
def CI:Hint:=⟨[],[],[(7,hs 5 [ec 3 [21]]),(11,hs 5 [ec 3 [33]]),(15,hs 5 [ec 3 [46]]),(17,hs 5 [ec 3 [53]]),(19,hs 5 [ec 3 [60]]),(21,hs 5 [ec 3 [67]]),(22,hs 7 [ec 5 [73]])]⟩
def CK:Hint:=⟨[],[],[(1,[en 0,en 1,en 2,en 3,en 4,en 5,en 6,en 7,en 8,en 9,en 10,en 11,en 12,en 13,en 14,en 15,en 16,en 17,en 18,en 19,en 20,en 21,en 22,eh 23]),(16,[en 0,en 1,en 2,en 3,en 4,en 5,en 6,en 7,en 8,en 9,en 10,en 11,en 12,en 13,en 14,en 15,en 16,en 17,en 18,en 19,en 20,en 21,en 22])]⟩
def qb:Hint:=⟨[],[],[(3,hs 19 [ec 15 [25]])]⟩
def xG (Q:QT [.str])(N0:Nat)(a0:Option Addr)(e0:List D)(c0:Nat)(I:ByteArray)(J c5:Nat)(O:Int)(r0:List D)(U:Nat)(N:Nat):Prop:=AT prog 100 [.str] Q N0 .ord (za prog 100 3) ⟨.sv a0 0 e0 c0::.str I::an 3 (.sb 0 0 0 J c5::.int .i64 O::an 20 []),[.arr 5 0 r0 U],N,none⟩
def xK (Q:QT [.str])(N0:Nat)(I c3:Nat)(n4:Int)(J:D)(r1:List D)(O:Nat)(N:Nat):Prop:=AT prog 36 [.str] Q N0 .ord (za prog 36 3) ⟨an 1 (.pb 0 0 0 0::an 1 (.sb 1 0 0 I c3::.int .i64 n4::an 75 [])),[.vd J 9,.arr 9 0 r1 O],N,none⟩
def zl (Q:QT [.int .i64,.bool])(N0:Nat)(I:ByteArray)(b6:Bool)(J:ByteArray)(O U:Int)(N:Nat):Prop:=AT prog 96 [.int .i64,.bool] Q N0 .ord (za prog 96 9) ⟨.str I::an 5 (.bool b6::.str J::.int .i64 O::.int .i64 U::an 53 []),[],N,none⟩
def zm (E:Env)(Q:QT [.str,.str,.i,.bool])(N0:Nat)(U:Int)(I:ByteArray)(J:Int)(O:Bool)(N:Nat):Prop:=AT prog 34 [.str,.str,.i,.bool] Q N0 (.io E [.var [.str b0,.int .i64 0,.bool false]]) (za prog 34 2) ⟨.pb 0 0 0 0::an 2 (.int .i64 U::an 80 []),[.var [.str I,.int .i64 J,.bool O]],N,some (xT E 0 [.var [.str b0,.int .i64 0,.bool false]],[])⟩
def uC (E:Env)(Q:QT [.ag 9,.str,.i,.bool])(N0:Nat)(n2 n3 n9:Int)(I:ByteArray)(J:Int)(O:Bool)(y1:D)(U:Int)(V Y:ByteArray)(Z aa:Int)(ab:Option Addr)(ac:List D)(ae:Nat)(ah:Int)(ai:Option Addr)(aj:List D)(ak:Nat)(al:Option Addr)(ao:List D)(aq:Nat)(N:Nat):Prop:=AT prog 63 [.ag 9,.str,.i,.bool] Q N0 (.io E [.var [.str b0,.int .i64 0,.bool false]]) (za prog 63 2) ⟨.pb 0 0 0 0::an 1 (.int .i64 n2::.int .i64 n3::an 1 (.pb 1 0 0 0::an 2 (.pb 2 0 0 0::.int .i64 n9::an 27 []))),[.var [.str I,.int .i64 J,.bool O],.vd y1 9,.var [.int .i64 U,.str V,.str Y,.int .i64 Z,.int .i64 aa,.sv ab 2 ac ae,.int .i64 ah,.sv ai 2 aj ak,.sv al 9 ao aq]],N,some (xT E 0 [.var [.str b0,.int .i64 0,.bool false]],[])⟩
def zT (E:Env)(Q:QT [.ag 9,.str,.i,.bool])(N0:Nat)(n2 n3 n9:Int)(I:ByteArray)(J:Int)(O:Bool)(U V Y Z aa ab ac ae:D)(ah ai:Nat)(aj:Int)(ak al:ByteArray)(ao aq:Int)(au:Option Addr)(aw:List D)(ax:Nat)(ay:Int)(az:Option Addr)(a1:List D)(a6:Nat)(a7:Option Addr)(a8:List D)(ba:Nat)(r3:List D)(q3:Nat)(N:Nat):Prop:=AT prog 63 [.ag 9,.str,.i,.bool] Q N0 (.io E [.var [.str b0,.int .i64 0,.bool false]]) (za prog 63 2) ⟨.pb 0 0 0 0::an 1 (.int .i64 n2::.int .i64 n3::an 1 (.pb 1 0 0 0::an 2 (.pb 2 0 0 0::.int .i64 n9::an 27 []))),[.var [.str I,.int .i64 J,.bool O],.var [.dc U,.dc V,.dc Y,.dc Z,.dc aa,.dc ab,.dc ac,.dc ae,.sb 3 9 0 ah ai],.var [.int .i64 aj,.str ak,.str al,.int .i64 ao,.int .i64 aq,.sv au 2 aw ax,.int .i64 ay,.sv az 2 a1 a6,.sv a7 9 a8 ba],.arr 27 9 r3 q3],N,some (xT E 0 [.var [.str b0,.int .i64 0,.bool false]],[])⟩
theorem FI (N:Nat) (a0:Option Addr) (e0:List D) (c0:Nat) (I:ByteArray) (Q:QT [.str]) (h :
Bel N (D.sl a0 0 e0 c0)->xG Q N a0 e0 c0 I 0 0 0 [] 0 N):ACalls prog 100 [.str] [PV.sv a0 0 e0 c0,PV.str I] N Q:=
 eE pT h
theorem wF (N:Nat) (I:D) (Q:QT [.str]) (h :
Bel N I->∃ n:Int,(I.cell 0)=D.j n/\Br (n==1) (uP N (Q (bytes [73]))) (Br (n==2) (uP N (Q (bytes [66]))) (Br (n==3) (∃ a b,∃ c:Nat,
 (I.cell 1)=D.sl a 2 b c/\((0:Int)<=(0:Int)/\0<(b.length:Int))/\∃ a c,∃ d:Nat,(I.cell 1)=D.sl a 2 c d/\((0:Int)<=(1 :
 Int)/\1<(c.length:Int))/\kS 101 [.dg 2 (List.getD b 0 default)] N (λs a=>(1+s.size:Nat)<=9223372036854775807/\(ByteArray.size (bytes [40]
 ++ s)+1:Nat)<=9223372036854775807/\kS 101 [.dg 2 (List.getD c 1 default)] a (λa b=>(ByteArray.size (bytes [40]++s++bytes [62])+a.size
 : Nat)<=9223372036854775807/\(ByteArray.size (bytes [40]++s++bytes [62]++a)+1:Nat)<=9223372036854775807/\uP b (Q (bytes [40]++s++bytes [62]
 ++ a++bytes [41]))))) (∃ a b,∃ c:Nat,(I.cell 1)=D.sl a 2 b c/\((0:Int)<=(0:Int)/\0<(b.length:Int))/\kS 101 [.dg 2
 (List.getD b 0 default)] N (λa b=>(1+a.size:Nat)<=9223372036854775807/\(ByteArray.size (bytes [60]++a)+1:Nat)<=9223372036854775807 /\
 uP b (Q (bytes [60]++a++bytes [62]))))))):ACalls prog 101 [.str] [PV.dg 2 I] N Q:=
  eE CG h
theorem DD (N:Nat) (I:D) (J:Option Addr) (e1:List D) (O:Nat) (Q:QT [.str]) (h :
Bel N I->Bel N (D.sl J 0 e1 O)->∃ n:Int,(I.cell 0)=D.j n/\Br (n==5) (kS 100 [.sv J 0 e1 O,.str (bytes [32])] N (λs a=>(4+s.size :
 Nat)<=9223372036854775807/\(ByteArray.size (bytes [40,105,102,32]++s)+1:Nat)<=9223372036854775807/\uP a (Q (bytes [40,105,102,32]++s++bytes
 [41])))) (Br (n==6) (∃ a,(I.cell 1)=D.t a/\(2+a.size:Nat)<=9223372036854775807/\(ByteArray.size (bytes [40,92]++a)+1:Nat) <=
 9223372036854775807/\((0:Int)<=(0:Int)/\0<(e1.length:Int))/\∃ b,List.getD e1 0 default=D.t b/\kS 101 [.dg 2 (D.sub I 4 2)] N (λc d=>
 (ByteArray.size (bytes [40,92]++a++bytes [58])+c.size:Nat)<=9223372036854775807/\(ByteArray.size (bytes [40,92]++a++bytes [58]++c)+1
 : Nat)<=9223372036854775807/\(ByteArray.size (bytes [40,92]++a++bytes [58]++c++bytes [46])+b.size:Nat)<=9223372036854775807 /\
 (ByteArray.size (bytes [40,92]++a++bytes [58]++c++bytes [46]++b)+1:Nat)<=9223372036854775807/\uP d (Q (bytes [40,92]++a++bytes
 [58]++c++bytes [46]++b++bytes [41])))) (Br (n==7) (kS 100 [.sv J 0 e1 O,.str (bytes [32])] N (λa b=>(1+a.size:Nat) <=
 9223372036854775807/\(ByteArray.size (bytes [40]++a)+1:Nat)<=9223372036854775807/\uP b (Q (bytes [40]++a++bytes [41])))) (Br (n==8) (∃ a,
 (I.cell 1)=D.t a/\(5+a.size:Nat)<=9223372036854775807/\(ByteArray.size (bytes [40,108,101,116,32]++a)+1:Nat)<=9223372036854775807 /\
 kS 100 [.sv J 0 e1 O,.str (bytes [32])] N (λb c=>(ByteArray.size (bytes [40,108,101,116,32]++a++bytes [61])+b.size:Nat) <=
 9223372036854775807/\(ByteArray.size (bytes [40,108,101,116,32]++a++bytes [61]++b)+1:Nat)<=9223372036854775807/\uP c (Q (bytes [40,108,
 101,116,32]++a++bytes [61]++b++bytes [41])))) (Br (n==9) (∃ a,(I.cell 1)=D.t a/\(5+a.size:Nat)<=9223372036854775807 /\
 (ByteArray.size (bytes [40,114,101,99,32]++a)+1:Nat)<=9223372036854775807/\∃ b,(I.cell 2)=D.t b/\(ByteArray.size (bytes [40,114,101,
 99,32]++a++bytes [32])+b.size:Nat)<=9223372036854775807/\(ByteArray.size (bytes [40,114,101,99,32]++a++bytes [32]++b)+1:Nat) <=
 9223372036854775807/\((0:Int)<=(0:Int)/\0<(e1.length:Int))/\∃ c,List.getD e1 0 default=D.t c/\kS 101 [.dg 2 (D.sub I 4 2)] N (λd e
 => (ByteArray.size (bytes [40,114,101,99,32]++a++bytes [32]++b++bytes [58])+d.size:Nat)<=9223372036854775807/\(ByteArray.size (bytes
 [40,114,101,99,32]++a++bytes [32]++b++bytes [58]++d)+1:Nat)<=9223372036854775807/\kS 101 [.dg 2 (D.sub I 6 2)] e (λe f=>
 (ByteArray.size (bytes [40,114,101,99,32]++a++bytes [32]++b++bytes [58]++d++bytes [62])+e.size:Nat)<=9223372036854775807 /\
 (ByteArray.size (bytes [40,114,101,99,32]++a++bytes [32]++b++bytes [58]++d++bytes [62]++e)+1:Nat)<=9223372036854775807 /\
 (ByteArray.size (bytes [40,114,101,99,32]++a++bytes [32]++b++bytes [58]++d++bytes [62]++e++bytes [46])+c.size:Nat) <=
 9223372036854775807/\(ByteArray.size (bytes [40,114,101,99,32]++a++bytes [32]++b++bytes [58]++d++bytes [62]++e++bytes [46] ++
 c)+1:Nat)<=9223372036854775807/\uP f (Q (bytes [40,114,101,99,32]++a++bytes [32]++b++bytes [58]++d++bytes [62]++e++bytes
 [46]++c++bytes [41]))))) (Br (n==12) (((0:Int)<=(0:Int)/\0<(e1.length:Int))/\∃ a,List.getD e1 0 default=D.t a/\(5+a.size :
 Nat)<=9223372036854775807/\(ByteArray.size (bytes [40,114,117,110,32]++a)+1:Nat)<=9223372036854775807/\uP N (Q (bytes [40,114,117,110,32]
 ++ a++bytes [41]))) (((0:Int)<=(0:Int)/\0<(e1.length:Int))/\∃ a,List.getD e1 0 default=D.t a/\(6+a.size:Nat) <=
 9223372036854775807/\(ByteArray.size (bytes [40,108,105,102,116,32]++a)+1:Nat)<=9223372036854775807/\uP N (Q (bytes [40,108,105,102,116,
 32]++a++bytes [41]))))))))):ACalls prog 71 [.str] [PV.dg 9 I,PV.sv J 0 e1 O] N Q:=
  eE CH h
theorem DE (N:Nat) (I:D) (Q:QT [.str]) (h :
Bel N I->xK Q N 0 0 0 I [] 0 N):ACalls prog 36 [.str] [PV.dg 9 I] N Q:=
 eE sG h
theorem qN (N:Nat) (I:D) (Q:QT [.str]) (h :
Bel N I->kB 35 [.dg 9 I] N (λb a=>Br (!b) (uP a (Q b0)) (kS 36 [.dg 9 I] a (λs a=>uP a (Q s))))):ACalls prog 13 [.str] [PV.dg 9 I] N Q:=
 eE rV h
theorem C7 (N:Nat) (I:ByteArray) (n1:Int) (Q:QT [.int .i64,.bool]) (h :
Br (decide ((I.size:Int)>0)) (((0:Int)<=(0:Int)/\0<(I.size:Int))/\Br ((UInt8.toNat (Array.getD (ByteArray.data I) 0 (OfNat.ofNat 0)) :
 Int)==45) (((0:Int)<=(1:Int)/\1<=(I.size:Int)/\(I.size:Int)<=(I.size:Int))/\Br (decide ((ByteArray.size (ByteArray.extract I 1 ((I.size :
 Int)).toNat):Int)<1)) (uP N (Q 0 false)) (Br (decide ((ByteArray.size (ByteArray.extract I 1 ((I.size:Int)).toNat):Int)>n1)) (uP N (Q 0 false))
 (zl Q N I ((UInt8.toNat (Array.getD (ByteArray.data I) 0 (OfNat.ofNat 0)):Int)==45) (ByteArray.extract I 1 ((I.size:Int)).toNat) 0 0 N)))
 (Br (decide ((I.size:Int)<1)) (uP N (Q 0 false)) (Br (decide ((I.size:Int)>n1)) (uP N (Q 0 false)) (zl Q N I ((UInt8.toNat (Array.getD
 (ByteArray.data I) 0 (OfNat.ofNat 0)):Int)==45) I 0 0 N)))) (Br (decide ((I.size:Int)<1)) (uP N (Q 0 false)) (Br (decide ((I.size:Int)>n1)) (uP
 N (Q 0 false)) (zl Q N I false I 0 0 N)))):ACalls prog 96 [.int .i64,.bool] [PV.str I,PV.int .i64 n1] N Q:=
  eE sB h
theorem rK (N:Nat) (I:ByteArray) (Q:QT [.int .i64,.bool]) (h :
kIB 96 [.str I,.j 6] N (λn b a=>Br (!b) (uP a (Q 0 false)) (Br (decide (n<0)) (uP a (Q 0 false)) (uP a (Q n true))))):ACalls prog 66 [.int .i64,.bool] [PV.str I] N Q:=
 eE H0 h
theorem qz (N:Nat) (I:ByteArray) (Q:QT [.ag 9,.bool]) (h :
rA 9 12 [.j 1] I 0 false N (λx _ n b a=>Br b (∀ b,a<=b->Q (D.ag [D.j 0,D.t b0,D.t b0,D.j 0,D.j 0,D.sl none 2 [] 0,D.j 0,D.sl none 2 []
 0,D.sl none 9 [] 0]) false b) (Br (bne n (I.size:Int)) (∀ b,a<=b->Q (D.ag [D.j 0,D.t b0,D.t b0,D.j 0,D.j 0,D.sl none 2 [] 0,D.j 0,D.sl none 2
 [] 0,D.sl none 9 [] 0]) false b) (kS 13 [.dg 9 x] a (λa b=>Br (!(ByteArray.toList a==ByteArray.toList I)) (∀ a,b<=a->Q (D.ag [D.j 0,D.t
 b0,D.t b0,D.j 0,D.j 0,D.sl none 2 [] 0,D.j 0,D.sl none 2 [] 0,D.sl none 9 [] 0]) false a) (uP b (Q x true))))))):ACalls prog 5 [.ag 9,.bool] [PV.str I] N Q:=
  eE qb h
theorem sd {Q:QT [.str]} {N0:Nat} {a0:Option Addr} {e0:List D} {c0:Nat} {J:ByteArray} {O c5:Nat} {I:Int} {r0:List D} {U:Nat} {N:Nat} (h :
Br (decide (I<(e0.length:Int))) (Br (decide (I>0)) ((O=r0.length/\c5=U)/\zK r0 (zw J) 1/\∀(c:Nat),(0<=I/\I<(e0.length
 : Int))/\∃ s,List.getD e0 I.toNat default=D.t s/\((r0++zw J).length=(r0++zw J).length/\c=c)/\zK (r0++zw J) (zw s) 1 /\
 ∀(a:Nat),xG Q N0 a0 e0 c0 J (r0++zw J++zw s).length a (IntKind.i64.wrap (I+1)) (r0++zw J++zw s) a N) ((0<=I
 /\ I<(e0.length:Int))/\∃ a,List.getD e0 I.toNat default=D.t a/\(O=r0.length/\c5=U)/\zK r0 (zw a) 1/\∀(b:Nat),
 xG Q N0 a0 e0 c0 J (r0++zw a).length b (IntKind.i64.wrap (I+1)) (r0++zw a) b N)) (O<=r0.length/\∃ a:List Int,List.take
 O r0=List.map (λn=>D.lit (.int IntKind.u8 n)) a/\uP N (Q (zX a)))):xG Q N0 a0 e0 c0 J O c5 I r0 U N:=
  hE pT h
theorem uW {Q:QT [.str]} {N0:Nat} {J c3:Nat} {n4:Int} {I:D} {r1:List D} {O:Nat} {N:Nat} (h :
∃ a b,∃ c:Nat,(I.cell 8)=D.sl a 9 b c/\Br (decide (n4<(b.length:Int))) (∃ a b,∃ c:Nat,(I.cell 8)=D.sl a 9 b c/\(0<=n4
 /\ n4<(b.length:Int))/\kS 36 [.dg 9 (List.getD b n4.toNat default)] N (λs a=>(J=r1.length/\c3=O)/\zK r1 [D.t s] 16/\∀(b:Nat),
 xK Q N0 (r1++[D.t s]).length b (IntKind.i64.wrap (n4+1)) I (r1++[D.t s]) b a)) (∃ n:Int,(I.cell 0)=D.j n/\Br (n==1) (∃ a,
 (I.cell 1)=D.t a/\uP N (Q a)) (Br (n==2) (∃ a:Int,(I.cell 3)=D.j a/\kS 24 [.j a] N (λa b=>uP b (Q a))) (Br (n==3) (∃ a :
 Int,(I.cell 3)=D.j a/\∃ b:Int,(I.cell 3)=D.j b/\(0<=a/\a<=IntKind.i64.wrap (b+1)/\IntKind.i64.wrap (b+1)<=2)/\(1 +
 ByteArray.size (ByteArray.extract (bytes [102,116]) a.toNat (IntKind.i64.wrap (b+1)).toNat):Nat)<=9223372036854775807/\∀ c,N<=c->Q (bytes [35]
 ++ ByteArray.extract (bytes [102,116]) a.toNat (IntKind.i64.wrap (b+1)).toNat) c) (Br (n==4) (Br ((J:Int)==1) (((0:Int)<=(0:Int)/\0<(J :
 Int)/\0<r1.length)/\0<r1.length/\∃ a,List.getD r1 0 default=D.t a/\(2+a.size:Nat)<=9223372036854775807/\(ByteArray.size (bytes [40,33]
 ++ a)+1:Nat)<=9223372036854775807/\uP N (Q (bytes [40,33]++a++bytes [41]))) (((0:Int)<=(0:Int)/\0<(J:Int)/\0<r1.length)/\0 <
 r1.length/\∃ a,List.getD r1 0 default=D.t a/\(1+a.size:Nat)<=9223372036854775807/\∃ b,(I.cell 1)=D.t b/\(ByteArray.size (bytes [40] ++
 a)+b.size:Nat)<=9223372036854775807/\((0:Int)<=(1:Int)/\1<(J:Int)/\1<r1.length)/\1<r1.length/\∃ c,List.getD r1 1 default=D.t
 c/\(ByteArray.size (bytes [40]++a++b)+c.size:Nat)<=9223372036854775807/\(ByteArray.size (bytes [40]++a++b++c)+1:Nat) <=
 9223372036854775807/\uP N (Q (bytes [40]++a++b++c++bytes [41])))) (Br (n==10) (((0:Int)<=(0:Int)/\0<(J:Int)/\0<r1.length)/\0 <
 r1.length/\∃ a,List.getD r1 0 default=D.t a/\(1+a.size:Nat)<=9223372036854775807/\(ByteArray.size (bytes [60]++a)+1:Nat) <=
 9223372036854775807/\uP N (Q (bytes [60]++a++bytes [62]))) (Br (n==11) (((0:Int)<=(0:Int)/\0<(J:Int)/\0<r1.length)/\0<r1.length/\∃
 a,List.getD r1 0 default=D.t a/\(1+a.size:Nat)<=9223372036854775807/\uP N (Q (bytes [126]++a))) ((J=r1.length/\c3=O)/\∀ a,ApA a
 r1->Off [a] I->∀ b,N<=b->Ii b [a]->ACalls prog 71 [.str] [.dg 9 I,.sv a 0 r1 c3] b (λa c=>b<=c->uP c (Q a)))))))))):xK Q N0 J c3 n4 I r1 O N:=
  hE sG h
theorem uQ {Q:QT [.int .i64,.bool]} {N0:Nat} {s0:ByteArray} {b6:Bool} {s7:ByteArray} {n8 n9:Int} {N:Nat} (h :
Br (decide (n9<(s7.size:Int))) ((0<=n9/\n9<(s7.size:Int))/\Br (decide ((UInt8.toNat (Array.getD (ByteArray.data s7) n9.toNat (OfNat.ofNat 0)) :
 Int)<48)) (uP N (Q 0 false)) ((0<=n9/\n9<(s7.size:Int))/\Br (decide ((UInt8.toNat (Array.getD (ByteArray.data s7) n9.toNat (OfNat.ofNat 0)):Int) >
 57)) (uP N (Q 0 false)) ((0<=n9/\n9<(s7.size:Int))/\zl Q N0 s0 b6 s7 (IntKind.i64.wrap (IntKind.i64.wrap (10*n8)+IntKind.i64.wrap
 (IntKind.u8.wrap ((UInt8.toNat (Array.getD (ByteArray.data s7) n9.toNat (OfNat.ofNat 0)):Int) - 48)))) (IntKind.i64.wrap (n9+1)) N))) (Br b6 (kS 24 [.j
 (IntKind.i64.wrap (0 - n8))] N (fun s a=>Br (!(ByteArray.toList s==ByteArray.toList s0)) (uP a (Q 0 false)) (uP a (Q (IntKind.i64.wrap (0 - n8)) true))))
 (kS 24 [.j n8] N (fun a b=>Br (!(ByteArray.toList a==ByteArray.toList s0)) (uP b (Q 0 false)) (uP b (Q n8 true)))))):zl Q N0 s0 b6 s7 n8 n9 N:=
  hE sB h
theorem vu (N:Nat) (n1:Int) (I:ByteArray) (J:Int) (O:Bool) (Q:QT [(Sh.ag 9),Sh.str,(Sh.int IntKind.i64),Sh.bool]) (h:∀ E:Env,
Br O (zO E [.var [.str b0,.j 0,.bool false]]/\∀ a,N<=a->Q (D.ag [D.j 0,D.t b0,D.t b0,D.j 0,D.j 0,D.sl none 2 [] 0,D.j 0,
 D.sl none 2 [] 0,D.sl none 9 [] 0]) I J true a) (Br (decide (n1>20)) (zO E [.var [.str b0,.j 0,.bool false]]/\∀ a,N<=a->Q (D.ag [D.j 0,
 D.t b0,D.t b0,D.j 0,D.j 0,D.sl none 2 [] 0,D.j 0,D.sl none 2 [] 0,D.sl none 9 [] 0]) I J true a) (Br (decide (J≥(I.size:Int))) (zO
 E [.var [.str b0,.j 0,.bool false]]/\∀ a,N<=a->Q (D.ag [D.j 0,D.t b0,D.t b0,D.j 0,D.j 0,D.sl none 2 [] 0,D.j 0,D.sl none 2 [] 0,D.sl none 9 []
 0]) I J (decide (J≥(I.size:Int))) a) (rB 28 [.str (bytes [35,116])] I J (decide (J≥(I.size:Int))) N (λb s n c d
 => Br b (kA 9 29 [.j 1] d (λx a=>zO E [.var [.str b0,.j 0,.bool false]]/\uP a (Q x s n c))) (rB 28 [.str (bytes [35,102])] s n c d (λb
 c d e f=>Br b (kA 9 29 [.j 0] f (λa b=>zO E [.var [.str b0,.j 0,.bool false]]/\uP b (Q a c d e))) (rB 28 [.str (bytes
 [126])] c d e f (λb c d e f=>Br b (rA 9 12 [.j (IntKind.i64.wrap (n1+1))] c d e f (λb c d e f=>w3 (1 =
 ([b]).length/\1=1) (∀ a g,f<=g->Fresh N g a [D.ag [b],D.sl none 2 [] 0,D.sl none 2 [] 0]->zO E [.var [.str b0,.j 0,.bool false]]/\∀
 f,g<=f->Q (D.ag [D.j 11,D.t b0,D.t b0,D.j 0,D.j 0,D.sl none 2 [] 0,D.j 0,D.sl none 2 [] 0,D.sl a 9 [b] 1]) c d e f))) (rB 28 [.str
 (bytes [60])] c d e f (λa b c d e=>Br a (rA 9 12 [.j (IntKind.i64.wrap (n1+1))] b c d e (λa b c d e=>rU 30
 [.str (bytes [62])] b c d e (λb c d e=>w5 (1=([a]).length/\1=1) (∀ f g,e<=g->Fresh N g f [D.ag [a],D.sl none 2 []
 0,D.sl none 2 [] 0]->zO E [.var [.str b0,.j 0,.bool false]]/\∀ e,g<=e->Q (D.ag [D.j 10,D.t b0,D.t b0,D.j 0,D.j 0,D.sl none 2 [] 0,D.j 0,
 D.sl none 2 [] 0,D.sl f 9 [a] 1]) b c d e)))) (rB 28 [.str (bytes [40])] b c d e (λa b c d e=>Br a (rA 9 31 [.j
 (IntKind.i64.wrap (n1+1))] b c d e (λa b c d e=>zO E [.var [.str b0,.j 0,.bool false]]/\uP e (Q a b c d))) ((0<=c
 /\ c<(b.size:Int))/\Br (decide ((UInt8.toNat (Array.getD (ByteArray.data b) c.toNat (OfNat.ofNat 0)):Int)≥48)) ((0<=c/\c<(b.size :
 Int))/\Br (decide ((UInt8.toNat (Array.getD (ByteArray.data b) c.toNat (OfNat.ofNat 0)):Int)<=57)) (rA 9 32 [] b c d e (λa b c d
 e=>zO E [.var [.str b0,.j 0,.bool false]]/\uP e (Q a b c d))) (rS 34 [] b c d e (λa b c d e=>kA 9 33 [.str a]
 e (λa e=>zO E [.var [.str b0,.j 0,.bool false]]/\uP e (Q a b c d))))) (rS 34 [] b c d e (λa b c d e=>kA
 9 33 [.str a] e (λa e=>zO E [.var [.str b0,.j 0,.bool false]]/\uP e (Q a b c d)))))))))))))))))):BCalls prog 12 [(Sh.ag 9),Sh.str,(Sh.int IntKind.i64),Sh.bool] [.pb 0 0 0 0,.int .i64 n1] [.var [.str I,.int .i64 J,.bool O]] N Q:=
  bE CK h
theorem pA (N:Nat) (U J:ByteArray) (I:Int) (O:Bool) (Q:QT [Sh.bool,Sh.str,(Sh.int IntKind.i64),Sh.bool]) (h:∀ E:Env,
Br O (zO E [.var [.str b0,.j 0,.bool false]]/\uP N (Q false J I O)) (Br (decide (IntKind.i64.wrap (I+(U.size:Int))
 > (J.size:Int))) (zO E [.var [.str b0,.j 0,.bool false]]/\uP N (Q false J I O)) ((0<=I/\I<=IntKind.i64.wrap (I+(U.size
 : Int))/\IntKind.i64.wrap (I+(U.size:Int))<=(J.size:Int))/\Br (!(ByteArray.toList (ByteArray.extract J I.toNat (IntKind.i64.wrap
 (I+(U.size:Int))).toNat)==ByteArray.toList U)) (zO E [.var [.str b0,.j 0,.bool false]]/\uP N (Q false J I O)) (zO E [.var [.str
 b0,.j 0,.bool false]]/\∀ a,N<=a->Q true J (IntKind.i64.wrap (I+(U.size:Int))) O a)))):BCalls prog 28 [Sh.bool,Sh.str,(Sh.int IntKind.i64),Sh.bool] [.pb 0 0 0 0,.str U] [.var [.str J,.int .i64 I,.bool O]] N Q:=
  bE CF h
theorem q9 (N:Nat) (U I:ByteArray) (J:Int) (O:Bool) (Q:QT [Sh.str,(Sh.int IntKind.i64),Sh.bool]) (h:∀ E:Env,
Br O (zO E [.var [.str b0,.j 0,.bool false]]/\uP N (Q I J true)) (rB 28 [.str U] I J O N (λb s n _ a=>zO
 E [.var [.str b0,.j 0,.bool false]]/\uP a (Q s n (!b))))):BCalls prog 30 [Sh.str,(Sh.int IntKind.i64),Sh.bool] [.pb 0 0 0 0,.str U] [.var [.str I,.int .i64 J,.bool O]] N Q:=
  bE H0 h
theorem pD (N:Nat) (n1:Int) (I:ByteArray) (J:Int) (O:Bool) (Q:QT [(Sh.ag 9),Sh.str,(Sh.int IntKind.i64),Sh.bool]) (h:∀ E:Env,
rB 28 [.str (bytes [92])] I J O N (λb s n a c=>Br b (rS 34 [] s n a c (λa b c d e=>rU 30 [.str (bytes
 [58])] b c d e (λb c d e=>rA 2 62 [.j 1] b c d e (λx b c d e=>rU 30 [.str (bytes [46])] b c d e (λb c d
 e=>rA 9 63 [.dg 9 (D.ag [D.j 6,D.t a,D.t b0,D.j 0,(x.cell 0),(x.cell 1),D.j 0,D.sl none 2 [] 0,D.sl none 9 [] 0]),.j 1,.j n1] b c d e
 (λa b c d e=>zO E [.var [.str b0,.j 0,.bool false]]/\uP e (Q a b c d))))))) (rB 28 [.str (bytes [108,101,116,32])] s n a c
 (λa b c d e=>Br a (rS 34 [] b c d e (λa b c d e=>rU 30 [.str (bytes [61])] b c d e (λb c d e=>rA
 9 63 [.dg 9 (D.ag [D.j 8,D.t a,D.t b0,D.j 0,D.j 0,D.sl none 2 [] 0,D.j 0,D.sl none 2 [] 0,D.sl none 9 [] 0]),.j 2,.j n1] b c d e (λa
 b c d e=>zO E [.var [.str b0,.j 0,.bool false]]/\uP e (Q a b c d))))) (rB 28 [.str (bytes [114,101,99,32])] b c d e (fun
 a b c d e=>Br a (rA 9 64 [.j n1] b c d e (λa b c d e=>zO E [.var [.str b0,.j 0,.bool false]]/\uP e (Q a
 b c d))) (rB 28 [.str (bytes [105,102,32])] b c d e (λa b c d e=>Br a (rA 9 63 [.dg 9 (D.ag [D.j 5,D.t b0,D.t b0,
 D.j 0,D.j 0,D.sl none 2 [] 0,D.j 0,D.sl none 2 [] 0,D.sl none 9 [] 0]),.j 3,.j n1] b c d e (λa b c d e=>zO E [.var [.str
 b0,.j 0,.bool false]]/\uP e (Q a b c d))) (rB 28 [.str (bytes [114,117,110,32])] b c d e (λa b c d e=>Br a
 (rA 9 63 [.dg 9 (D.ag [D.j 12,D.t b0,D.t b0,D.j 0,D.j 0,D.sl none 2 [] 0,D.j 0,D.sl none 2 [] 0,D.sl none 9 [] 0]),.j 1,.j n1] b c d e (fun
 a b c d e=>zO E [.var [.str b0,.j 0,.bool false]]/\uP e (Q a b c d))) (rB 28 [.str (bytes [108,105,102,116,32])] b c
 d e (λa b c d e=>Br a (rA 9 63 [.dg 9 (D.ag [D.j 13,D.t b0,D.t b0,D.j 0,D.j 0,D.sl none 2 [] 0,D.j 0,D.sl none 2 [] 0,D.sl
 none 9 [] 0]),.j 1,.j n1] b c d e (λa b c d e=>zO E [.var [.str b0,.j 0,.bool false]]/\uP e (Q a b c d))) (rB
 28 [.str (bytes [33])] b c d e (λa b c d e=>Br a (rA 9 63 [.dg 9 (D.ag [D.j 4,D.t (bytes [33]),D.t b0,D.j 0,D.j 0,D.sl
 none 2 [] 0,D.j 0,D.sl none 2 [] 0,D.sl none 9 [] 0]),.j 1,.j n1] b c d e (λa b c d e=>zO E [.var [.str b0,.j 0,.bool
 false]]/\uP e (Q a b c d))) (rA 9 12 [.j n1] b c d e (λa b c d e=>rA 9 65 [.dg 9 a,.j n1] b c d e (fun
 a b c d e=>zO E [.var [.str b0,.j 0,.bool false]]/\uP e (Q a b c d)))))))))))))))))):BCalls prog 31 [(Sh.ag 9),Sh.str,(Sh.int IntKind.i64),Sh.bool] [.pb 0 0 0 0,.int .i64 n1] [.var [.str I,.int .i64 J,.bool O]] N Q:=
  bE CI h
theorem rM (N:Nat) (sB0_0:ByteArray) (nB0_1:Int) (bB0_2:Bool) (Q:QT [(Sh.ag 9),Sh.str,(Sh.int IntKind.i64),Sh.bool]) (h:∀ E:Env,
rS 34 [] sB0_0 nB0_1 bB0_2 N (fun s a n b c=>kIB 66 [.str s] c (fun c d e=>Br b (kA 9 67 [.j c] e (fun x b=>zO E [.var
 [.str b0,.j 0,.bool false]]/\uP b (Q x a n true))) (kA 9 67 [.j c] e (fun b c=>zO E [.var [.str b0,.j 0,.bool false]]/\uP c (Q b a n
 (!d))))))):BCalls prog 32 [(Sh.ag 9),Sh.str,(Sh.int IntKind.i64),Sh.bool] [.pb 0 0 0 0] [.var [.str sB0_0,.int .i64 nB0_1,.bool bB0_2]] N Q:=
  bE H0 h
theorem pC (N:Nat) (J:ByteArray) (I:Int) (O:Bool) (Q:QT [Sh.str,Sh.str,(Sh.int IntKind.i64),Sh.bool]) (h:∀ E:Env,
zm E Q N I J I O N):BCalls prog 34 [Sh.str,Sh.str,(Sh.int IntKind.i64),Sh.bool] [.pb 0 0 0 0] [.var [.str J,.int .i64 I,.bool O]] N Q:=
 bE sE h
theorem vp (N:Nat) (n1:Int) (I:ByteArray) (J:Int) (O:Bool) (Q:QT [(Sh.ag 2),Sh.str,(Sh.int IntKind.i64),Sh.bool]) (h:∀ E:Env,
Br O (zO E [.var [.str b0,.j 0,.bool false]]/\uP N (Q (D.ag [D.j 0,D.sl none 2 [] 0]) I J true)) (Br (decide (n1>8)) (zO E
 [.var [.str b0,.j 0,.bool false]]/\uP N (Q (D.ag [D.j 0,D.sl none 2 [] 0]) I J (decide (n1>8)))) (rB 28 [.str (bytes [73])] I J (decide
 (n1>8)) N (λb s n c d=>Br b (kA 2 93 [] d (λx a=>zO E [.var [.str b0,.j 0,.bool false]]/\uP a (Q x s n c))) (rB 28 [.str (bytes [66])]
 s n c d (λb c d e f=>Br b (kA 2 94 [] f (λa b=>zO E [.var [.str b0,.j 0,.bool false]]/\uP b (Q a c d e))) (rB 28
 [.str (bytes [60])] c d e f (λb c d e f=>Br b (rA 2 62 [.j (IntKind.i64.wrap (n1+1))] c d e f (λb c d e f=>rU
 30 [.str (bytes [62])] c d e f (λc d e f=>w5 (1=([b]).length/\1=1) (∀ a g,f<=g->Fresh N g a [D.ag [b]]->zO E [.var
 [.str b0,.j 0,.bool false]]/\uP g (Q (D.ag [D.j 4,D.sl a 2 [b] 1]) c d e))))) (rU 30 [.str (bytes [40])] c d e f (λa b c d=>
 Br c (zO E [.var [.str b0,.j 0,.bool false]]/\uP d (Q (D.ag [D.j 0,D.sl none 2 [] 0]) a b c)) (rA 2 62 [.j (IntKind.i64.wrap (n1+1))] a b
 c d (λa b c d e=>rU 30 [.str (bytes [62])] b c d e (λb c d e=>Br d (zO E [.var [.str b0,.j 0,.bool false]]/\uP
 e (Q (D.ag [D.j 0,D.sl none 2 [] 0]) b c d)) (rA 2 62 [.j (IntKind.i64.wrap (n1+1))] b c d e (λb c d e f=>rU 30 [.str
 (bytes [41])] c d e f (λc d e f=>w3 (2=([a,b]).length/\2=2) (∀ g h,f<=h->Fresh N h g [D.ag [a,b]]->zO E
 [.var [.str b0,.j 0,.bool false]]/\uP h (Q (D.ag [D.j 3,D.sl g 2 [a,b] 2]) c d e)))))))))))))))))):BCalls prog 62 [(Sh.ag 2),Sh.str,(Sh.int IntKind.i64),Sh.bool] [.pb 0 0 0 0,.int .i64 n1] [.var [.str I,.int .i64 J,.bool O]] N Q:=
  bE H0 h
theorem vq (N:Nat) (U:D) (n2 V:Int) (I:ByteArray) (J:Int) (O:Bool) (Q:QT [(Sh.ag 9),Sh.str,(Sh.int IntKind.i64),Sh.bool]) (h:∀ E:Env,
Bel N U->uC E Q N n2 V 0 I J O U 0 b0 b0 0 0 none [] 0 0 none [] 0 none [] 0 N):BCalls prog 63 [(Sh.ag 9),Sh.str,(Sh.int IntKind.i64),Sh.bool] [.pb 0 0 0 0,.dg 9 U,.int .i64 n2,.int .i64 V] [.var [.str I,.int .i64 J,.bool O]] N Q:=
 bE vK h
theorem A0 (N:Nat) (n1:Int) (I:ByteArray) (J:Int) (O:Bool) (Q:QT [(Sh.ag 9),Sh.str,(Sh.int IntKind.i64),Sh.bool]) (h:∀ E:Env,
rS 34 [] I J O N (λs a n b c=>rU 30 [.str (bytes [32])] a n b c (λa b c d=>rS 34 [] a b c d (λa
 b c d e=>rU 30 [.str (bytes [58])] b c d e (λb c d e=>rA 2 62 [.j 1] b c d e (λx b c d e=>rU 30 [.str (bytes
 [62])] b c d e (λb c d e=>rA 2 62 [.j 1] b c d e (λb c d e f=>rU 30 [.str (bytes [46])] c d e f (λc d
 e f=>rA 9 63 [.dg 9 (D.ag [D.j 9,D.t s,D.t a,D.j 0,(x.cell 0),(x.cell 1),(b.cell 0),(b.cell 1),D.sl none 9 [] 0]),.j 1,.j n1] c d e
 f (λa b c d e=>zO E [.var [.str b0,.j 0,.bool false]]/\uP e (Q a b c d))))))))))):BCalls prog 64 [(Sh.ag 9),Sh.str,(Sh.int IntKind.i64),Sh.bool] [.pb 0 0 0 0,.int .i64 n1] [.var [.str I,.int .i64 J,.bool O]] N Q:=
  bE DN h
theorem pE (N:Nat) (I:D) (n2:Int) (J:ByteArray) (O:Int) (U:Bool) (Q:QT [(Sh.ag 9),Sh.str,(Sh.int IntKind.i64),Sh.bool]) (h:∀ E:Env,
Bel N I->rB 28 [.str (bytes [32])] J O U N (λb s n c d=>Br b (w4 (1=([I]).length/\1=1) (∀ a b,d<=b->Fresh N b
 a [D.ag [I]]->rA 9 63 [.dg 9 (D.ag [D.j 7,D.t b0,D.t b0,D.j 0,D.j 0,D.sl none 2 [] 0,D.j 0,D.sl none 2 [] 0,D.sl a 9 [I] 1]),.j 1,.j n2] s n c b
 (λx a b c d=>zO E [.var [.str b0,.j 0,.bool false]]/\uP d (Q x a b c)))) (Br c (w5 (1=([I]).length/\1=1) (∀ a b,d<=b ->
 Fresh N b a [D.ag [I],D.sl none 2 [] 0,D.sl none 2 [] 0]->zO E [.var [.str b0,.j 0,.bool false]]/\∀ c,b<=c->Q (D.ag [D.j 7,D.t b0,D.t b0,
 D.j 0,D.j 0,D.sl none 2 [] 0,D.j 0,D.sl none 2 [] 0,D.sl a 9 [I] 1]) s n true c)) (Br (decide (n≥(s.size:Int))) (w5 (1=([I]).length/\1=1) (∀
 a b,d<=b->Fresh N b a [D.ag [I],D.sl none 2 [] 0,D.sl none 2 [] 0]->zO E [.var [.str b0,.j 0,.bool false]]/\∀ c,b<=c->Q (D.ag [D.j
 7,D.t b0,D.t b0,D.j 0,D.j 0,D.sl none 2 [] 0,D.j 0,D.sl none 2 [] 0,D.sl a 9 [I] 1]) s n true c)) ((0<=n/\n<=IntKind.i64.wrap (n+1) /\
 IntKind.i64.wrap (n+1)<=(s.size:Int))/\kI 95 [.str (ByteArray.extract s n.toNat (IntKind.i64.wrap (n+1)).toNat)] d (λa b=>Br (bne a 2) (w5
 (1=([I]).length/\1=1) (∀ a c,b<=c->Fresh N c a [D.ag [I],D.sl none 2 [] 0,D.sl none 2 [] 0]->zO E [.var [.str b0,.j 0,.bool false]]
 /\ ∀ b,c<=b->Q (D.ag [D.j 7,D.t b0,D.t b0,D.j 0,D.j 0,D.sl none 2 [] 0,D.j 0,D.sl none 2 [] 0,D.sl a 9 [I] 1]) s n true b)) ((0<=n/\n <=
 IntKind.i64.wrap (n+1)/\IntKind.i64.wrap (n+1)<=(s.size:Int))/\w4 (1=([I]).length/\1=1) (∀ a c,b<=c->Fresh N c a [D.ag [I]]->rA
 9 63 [.dg 9 (D.ag [D.j 4,D.t (ByteArray.extract s n.toNat (IntKind.i64.wrap (n+1)).toNat),D.t b0,D.j 0,D.j 0,D.sl none 2 [] 0,D.j 0,D.sl none 2 [] 0,
 D.sl a 9 [I] 1]),.j 1,.j n2] s (IntKind.i64.wrap (n+1)) (decide (n≥(s.size:Int))) c (λa b c d e=>zO E [.var [.str b0,.j 0,.bool
 false]]/\uP e (Q a b c d)))))))))):BCalls prog 65 [(Sh.ag 9),Sh.str,(Sh.int IntKind.i64),Sh.bool] [.pb 0 0 0 0,.dg 9 I,.int .i64 n2] [.var [.str J,.int .i64 O,.bool U]] N Q:=
  bE CJ h
theorem uT (E:Env) (Q:QT [Sh.str,Sh.str,(Sh.int IntKind.i64),Sh.bool]) (N0:Nat) (n3:Int) (s0_0:ByteArray) (n0_1:Int) (b0_2:Bool) (N:Nat) (h :
Br (decide (n0_1<(s0_0.size:Int))) ((0<=n0_1/\n0_1<(s0_0.size:Int))/\Br (decide ((UInt8.toNat (Array.getD (ByteArray.data s0_0) n0_1.toNat
 (OfNat.ofNat 0)):Int)≥48)) ((0<=n0_1/\n0_1<(s0_0.size:Int))/\Br (decide ((UInt8.toNat (Array.getD (ByteArray.data s0_0) n0_1.toNat (OfNat.ofNat 0)) :
 Int)<=57)) (zm E Q N0 n3 s0_0 (IntKind.i64.wrap (n0_1+1)) b0_2 N) ((0<=n0_1/\n0_1<(s0_0.size:Int))/\Br (decide ((UInt8.toNat (Array.getD
 (ByteArray.data s0_0) n0_1.toNat (OfNat.ofNat 0)):Int)≥97)) ((0<=n0_1/\n0_1<(s0_0.size:Int))/\Br (decide ((UInt8.toNat (Array.getD (ByteArray.data
 s0_0) n0_1.toNat (OfNat.ofNat 0)):Int)<=122)) (zm E Q N0 n3 s0_0 (IntKind.i64.wrap (n0_1+1)) b0_2 N) ((0<=n3/\n3<=n0_1/\n0_1<=(s0_0.size
 : Int))/\zO E [.var [.str b0,.j 0,.bool false]]/\uP N (Q (ByteArray.extract s0_0 n3.toNat n0_1.toNat) s0_0 n0_1 b0_2))) ((0<=n3/\n3<=n0_1/\n0_1 <=
 (s0_0.size:Int))/\zO E [.var [.str b0,.j 0,.bool false]]/\uP N (Q (ByteArray.extract s0_0 n3.toNat n0_1.toNat) s0_0 n0_1 b0_2)))) ((0<=n0_1/\n0_1 <
 (s0_0.size:Int))/\Br (decide ((UInt8.toNat (Array.getD (ByteArray.data s0_0) n0_1.toNat (OfNat.ofNat 0)):Int)≥97)) ((0<=n0_1/\n0_1<(s0_0.size:Int))
 /\ Br (decide ((UInt8.toNat (Array.getD (ByteArray.data s0_0) n0_1.toNat (OfNat.ofNat 0)):Int)<=122)) (zm E Q N0 n3 s0_0 (IntKind.i64.wrap (n0_1
 + 1)) b0_2 N) ((0<=n3/\n3<=n0_1/\n0_1<=(s0_0.size:Int))/\zO E [.var [.str b0,.j 0,.bool false]]/\uP N (Q (ByteArray.extract s0_0 n3.toNat
 n0_1.toNat) s0_0 n0_1 b0_2))) ((0<=n3/\n3<=n0_1/\n0_1<=(s0_0.size:Int))/\zO E [.var [.str b0,.j 0,.bool false]]/\uP N (Q (ByteArray.extract s0_0
 n3.toNat n0_1.toNat) s0_0 n0_1 b0_2)))) ((0<=n3/\n3<=n0_1/\n0_1<=(s0_0.size:Int))/\zO E [.var [.str b0,.j 0,.bool false]]/\uP N (Q
 (ByteArray.extract s0_0 n3.toNat n0_1.toNat) s0_0 n0_1 b0_2))):zm E Q N0 n3 s0_0 n0_1 b0_2 N:=
  hE sE h
theorem uV (E:Env) (Q:QT [(Sh.ag 9),Sh.str,(Sh.int IntKind.i64),Sh.bool]) (N0:Nat) (n2 n3 n9:Int) (O:ByteArray) (U:Int) (J:Bool) (I:D) (V:Int) (Y Z:ByteArray) (aa ab:Int) (ac:Option Addr) (ae:List D) (ah:Nat) (ai:Int) (aj:Option Addr) (ak:List D) (al:Nat) (ao:Option Addr) (aq:List D) (au:Nat) (N:Nat) (h :
Br (decide (n9<n2)) (Br (!J) (Br (decide (n9>0)) (rU 30 [.str (bytes [32])] O U J N (λs n b d=>∃ a e,∃ c:Nat,(I.cell 8)=D.sl
 a 9 e c/\rA 9 12 [.j n3] s n b d (λx b d f g=>Lt a e c [x]/\zK e [x] 136/\∀(a:Nat),zT E Q N0 n2 n3
 (IntKind.i64.wrap (n9+1)) b d f (I.cell 0) (I.cell 1) (I.cell 2) (I.cell 3) (I.cell 4) (I.cell 5) (I.cell 6) (I.cell 7) (e++[x]).length a
 V Y Z aa ab ac ae ah ai aj ak al ao aq au (e++[x]) a g))) (∃ a b,∃ c:Nat,(I.cell 8)=D.sl a 9 b c /\
 rA 9 12 [.j n3] O U J N (λd e f g h=>Lt a b c [d]/\zK b [d] 136/\∀(a:Nat),zT E Q N0 n2 n3
 (IntKind.i64.wrap (n9+1)) e f g (I.cell 0) (I.cell 1) (I.cell 2) (I.cell 3) (I.cell 4) (I.cell 5) (I.cell 6) (I.cell 7) (b++[d]).length
 a V Y Z aa ab ac ae ah ai aj ak al ao aq au (b++[d]) a h))) (rU 30 [.str (bytes [41])] O U J N (λa
 b c d=>zO E [.var [.str b0,.j 0,.bool false]]/\uP d (Q I a b c)))) (rU 30 [.str (bytes [41])] O U J N (λa b c d=>zO
 E [.var [.str b0,.j 0,.bool false]]/\uP d (Q I a b c)))):uC E Q N0 n2 n3 n9 O U J I V Y Z aa ab ac ae ah ai aj ak al ao aq au N:=
  hE vK h
theorem xS (E:Env) (Q:QT [(Sh.ag 9),Sh.str,(Sh.int IntKind.i64),Sh.bool]) (N0:Nat) (n2 n3 n9:Int) (s0_0:ByteArray) (n0_1:Int) (b0_2:Bool) (x1_0 x1_1 x1_2 x1_3 x1_4 x1_5 x1_6 x1_7:D) (m1_8 c1_8:Nat) (n2_0:Int) (s2_1 s2_2:ByteArray) (n2_3 n2_4:Int) (a2_5:Option Addr) (e2_5:List D) (c2_5:Nat) (n2_6:Int) (a2_7:Option Addr) (e2_7:List D) (c2_7:Nat) (a2_8:Option Addr) (e2_8:List D) (c2_8:Nat) (r3:List D) (q3:Nat) (N:Nat) (h :
Br (decide (n9<n2)) (Br (!b0_2) (Br (decide (n9>0)) (rU 30 [.str (bytes [32])] s0_0 n0_1 b0_2 N (fun s n b a=>rA 9 12 [.j n3] s n b a (fun x a
 b d e=>(m1_8=r3.length/\c1_8=q3)/\zK r3 [x] 136/\∀(c:Nat),zT E Q N0 n2 n3 (IntKind.i64.wrap (n9+1)) a b d x1_0
 x1_1 x1_2 x1_3 x1_4 x1_5 x1_6 x1_7 (r3++[x]).length c n2_0 s2_1 s2_2 n2_3 n2_4 a2_5 e2_5 c2_5 n2_6 a2_7 e2_7 c2_7 a2_8 e2_8 c2_8 (r3++[x]) c e))) (rA 9 12
 [.j n3] s0_0 n0_1 b0_2 N (fun a b c d e=>(m1_8=r3.length/\c1_8=q3)/\zK r3 [a] 136/\∀(f:Nat),zT E Q N0 n2 n3
 (IntKind.i64.wrap (n9+1)) b c d x1_0 x1_1 x1_2 x1_3 x1_4 x1_5 x1_6 x1_7 (r3++[a]).length f n2_0 s2_1 s2_2 n2_3 n2_4 a2_5 e2_5 c2_5 n2_6 a2_7 e2_7
 c2_7 a2_8 e2_8 c2_8 (r3++[a]) f e))) (rU 30 [.str (bytes [41])] s0_0 n0_1 b0_2 N (fun b c d e=>w3 (m1_8=r3.length/\c1_8=q3) (∀ a f,e <=
 f->Fresh N0 f a [D.ag r3,x1_0,x1_1,x1_2,x1_3,x1_4,x1_5,x1_6,x1_7]->zO E [.var [.str b0,.j 0,.bool false]]/\uP f (Q (D.ag [x1_0,x1_1,x1_2,
 x1_3,x1_4,x1_5,x1_6,x1_7,D.sl a 9 r3 q3]) b c d))))) (rU 30 [.str (bytes [41])] s0_0 n0_1 b0_2 N (fun a b c d=>w3 (m1_8=r3.length/\c1_8
 = q3) (∀ e f,d<=f->Fresh N0 f e [D.ag r3,x1_0,x1_1,x1_2,x1_3,x1_4,x1_5,x1_6,x1_7]->zO E [.var [.str b0,.j 0,.bool false]]/\uP f
 (Q (D.ag [x1_0,x1_1,x1_2,x1_3,x1_4,x1_5,x1_6,x1_7,D.sl e 9 r3 q3]) a b c))))):zT E Q N0 n2 n3 n9 s0_0 n0_1 b0_2 x1_0 x1_1 x1_2 x1_3 x1_4 x1_5 x1_6 x1_7 m1_8 c1_8 n2_0 s2_1 s2_2 n2_3 n2_4 a2_5 e2_5 c2_5 n2_6 a2_7 e2_7 c2_7 a2_8 e2_8 c2_8 r3 q3 N:=
  hE vK h
end Go.Proofs.YtldbmnklnpfpfaaGreatDoor
set_option maxRecDepth 100000
namespace Go.Proofs.YtldbmnklnpfpfaaGreatDoor
open Go Go.Proofs Go.Proofs.Tryz
def ym:Hint:=⟨[hc 2 [0,1,5]],[],[(6,hs 8 [em 6 (some 22) [0,1,5]])]⟩
def pR:Hint:=⟨[],[],[(1,hs 5 [em 3 (some 5) [1]])]⟩
def vf:Hint:=⟨[hc 2 [0,1,5]],[],[]⟩
def uB:Hint:=⟨[hc 4 [0,3]],[],[]⟩
def yk:Hint:=⟨[hc 2 [0,1,5]],[],[(14,hs 9 [em 7 (some 54) [0,1,5]]),(17,hs 9 [em 7 (some 70) [0,1,5]]),(18,hs 8 [em 6 (some 77) [0,1,5]])]⟩
def pQ:Hint:=⟨[],[],[(1,hs 5 [em 3 (some 5) [1,2]]),(2,hs 5 [em 3 (some 9) [1,2]]),(3,hs 5 [em 3 (some 13) [1]])]⟩
def wc (Q:QT [.int .i64])(N0:Nat)(a0:Option Addr)(e0:List D)(c0:Nat)(n1 I:Int)(N:Nat):Prop:=AT prog 52 [.int .i64] Q N0 .ord (za prog 52 2) ⟨.sv a0 2 e0 c0::.int .i64 n1::an 3 (.int .i64 I::an 21 []),[],N,none⟩
def zq (T:List Nat)(b0:Nat)(I:Int->D->Nat->Prop)(N0:Nat)(J c0:Nat)(n1 O:Int)(t0:Nat)(r0:List D)(U:Nat)(N:Nat):Prop:=AT prog 52 [] noQ N0 (.mk T (some b0) (2,0) I) (za prog 52 2) ⟨.sb 0 2 0 J c0::.int .i64 n1::an 3 (.int .i64 O::an 21 []),[.arr t0 2 r0 U],N,some ([some b0],T)⟩
def yS (Q:QT [.int .i64])(N0:Nat)(a0:Option Addr)(e0:List D)(c0:Nat)(n1 I:Int)(N:Nat):Prop:=AT prog 54 [.int .i64] Q N0 .ord (za prog 54 2) ⟨.sv a0 2 e0 c0::.int .i64 n1::an 3 (.int .i64 I::an 25 []),[],N,none⟩
def yY (Q:QT [.str])(N0:Nat)(n0:Int)(I:ByteArray)(N:Nat):Prop:=AT prog 53 [.str] Q N0 .ord (za prog 53 4) ⟨.int .i64 n0::an 2 (.str I::an 16 []),[],N,none⟩
def wb (Q:QT [.int .i64])(N0:Nat)(a0:Option Addr)(e0:List D)(c0:Nat)(n1 I:Int)(N:Nat):Prop:=AT prog 20 [.int .i64] Q N0 .ord (za prog 20 2) ⟨.sv a0 9 e0 c0::.int .i64 n1::an 3 (.int .i64 I::an 76 []),[],N,none⟩
def zh (T:List Nat)(b0:Nat)(I:Int->D->Nat->Prop)(N0:Nat)(J c0:Nat)(n1 O:Int)(t0:Nat)(r0:List D)(U:Nat)(N:Nat):Prop:=AT prog 20 [] noQ N0 (.mk T (some b0) (9,0) I) (za prog 20 2) ⟨.sb 0 9 0 J c0::.int .i64 n1::an 3 (.int .i64 O::an 76 []),[.arr t0 9 r0 U],N,some ([some b0],T)⟩
theorem qy (N:Nat) (a0:Option Addr) (e0:List D) (c0:Nat) (n1:Int) (Q:QT [.int .i64]) (h :
Bel N (D.sl a0 2 e0 c0)->wc Q N a0 e0 c0 n1 0 N):ACalls prog 52 [.int .i64] [PV.sv a0 2 e0 c0,PV.int .i64 n1] N Q:=
 eE ym h
theorem qi (N:Nat) (ad:Addr) (e0:List D) (c0:Nat) (n1:Int) (R:D->Int->Nat->Prop) (U:Int->D->Nat->Prop) (I:Tree (.sl (some ad) 2 e0 c0)) (O:e0≠[]) (J:e0.length<=maxLen) (h:∀ t:Nat,
zq (D.foot (D.sl (Option.some ad) 2 e0 c0)) (Addr.block ad) U N e0.length c0 n1 0 t e0 e0.length N)
  (V:∀ k x N,U k x N->∃ es,x=.ag es/\es.length=e0.length/\zA es=zA e0/\R (.sl (some ad) 2 es c0) k N):MC prog 52 (.sl (some ad) 2 e0 c0) n1 N R:=
 Nz (sh:=sh) (H:=ym) (fuel:=400) (by kernel_rfl) (by kernel_rfl) (λt=>by kernel_rfl) I O J h V
theorem AF (N:Nat) (cs:List D) (n1:Int) (R:D->Int->Nat->Prop) (O:Int->D->Nat->Prop) (J:IsAg 2 (.ag cs)) (h :
∃ a b,∃ c:Nat,D.cell (D.ag cs) 1=D.sl a 2 b c/\Tree (D.sl a 2 b c)/\In (D.foot (D.ag cs)) (D.sl a 2 b c)/\1<(D.cells (D.ag cs)).length /\
 D.cell (D.ag cs) 1=D.sl a 2 b c/\Once (D.cells (D.ag cs))/\Dis (D.sl a 2 b c) []/\∀ d,N<=d->MC prog 52 (D.sl a 2 b c) n1 d (λx n a=>d<=a
 -> ∀ b,a<=b->O n (D.ag (z7 1 [x] (D.cells (D.ag cs)))) b))
   (U:∀ k x N,O k x N->∃ I,x=.ag I/\I.map D.cv=cs.map D.cv/\zA I=zA cs/\R (.ag I) k N):MC prog 19 (.ag cs) n1 N R:=
  OA (sh:=sh) (H:=pR) (fuel:=400) (xr:=(2,24)) (by kernel_rfl) (by kernel_rfl) (by kernel_rfl) J h U
theorem qw (N:Nat) (a0:Option Addr) (e0:List D) (c0:Nat) (n1:Int) (Q:QT [.int .i64]) (h :
Bel N (D.sl a0 2 e0 c0)->yS Q N a0 e0 c0 n1 0 N):ACalls prog 54 [.int .i64] [PV.sv a0 2 e0 c0,PV.int .i64 n1] N Q:=
 eE vf h
theorem Ax (N:Nat) (I:D) (n1:Int) (Q:QT [.int .i64]) (h :
Bel N I->∃ a b,∃ c:Nat,(I.cell 1)=D.sl a 2 b c/\kI 54 [.sv a 2 b c,.j n1] N (λn a=>Br (decide (n<0)) (uP a (Q (-1))) (uP a (Q n)))):ACalls prog 21 [.int .i64] [PV.dg 2 I,PV.int .i64 n1] N Q:=
 eE H0 h
theorem Ay (N:Nat) (n0:Int) (Q:QT [.str]) (h :
Br (decide (n0<=0)) (uP N (Q (bytes [109,48]))) (yY Q N n0 b0 N)):ACalls prog 53 [.str] [PV.int .i64 n0] N Q:=
 eE uB h
theorem qx (N:Nat) (a0:Option Addr) (e0:List D) (c0:Nat) (n1:Int) (Q:QT [.int .i64]) (h :
Bel N (D.sl a0 9 e0 c0)->wb Q N a0 e0 c0 n1 0 N):ACalls prog 20 [.int .i64] [PV.sv a0 9 e0 c0,PV.int .i64 n1] N Q:=
 eE yk h
theorem qh (N:Nat) (ad:Addr) (e0:List D) (c0:Nat) (n1:Int) (R:D->Int->Nat->Prop) (U:Int->D->Nat->Prop) (I:Tree (.sl (some ad) 9 e0 c0)) (O:e0≠[]) (J:e0.length<=maxLen) (h:∀ t:Nat,
zh (D.foot (D.sl (Option.some ad) 9 e0 c0)) (Addr.block ad) U N e0.length c0 n1 0 t e0 e0.length N)
  (V:∀ k x N,U k x N->∃ es,x=.ag es/\es.length=e0.length/\zA es=zA e0/\R (.sl (some ad) 9 es c0) k N):MC prog 20 (.sl (some ad) 9 e0 c0) n1 N R:=
 Nz (sh:=sh) (H:=yk) (fuel:=400) (by kernel_rfl) (by kernel_rfl) (λt=>by kernel_rfl) I O J h V
theorem AE (N:Nat) (cs:List D) (n1:Int) (R:D->Int->Nat->Prop) (QM:Int->D->Nat->Prop) (hag:IsAg 9 (.ag cs)) (h :
Tree (D.sub (D.ag cs) 4 2)/\In (D.foot (D.ag cs)) (D.sub (D.ag cs) 4 2)/\6<=(D.cells (D.ag cs)).length/\D.sub (D.ag cs) 4 2=D.sub (D.ag cs) 4 2 /\
 Once (D.cells (D.ag cs))/\Dis (D.sub (D.ag cs) 4 2) []/\∀ b,N<=b->MC prog 19 (D.sub (D.ag cs) 4 2) n1 b (fun x n d=>b<=d->Tree (D.sub (D.ag (z7
 4 (D.cells x) (D.cells (D.ag cs)))) 6 2)/\In (D.foot (D.ag cs)) (D.sub (D.ag (z7 4 (D.cells x) (D.cells (D.ag cs)))) 6 2)/\8<=(D.cells (D.ag (z7 4
 (D.cells x) (D.cells (D.ag cs))))).length/\D.sub (D.ag (z7 4 (D.cells x) (D.cells (D.ag cs)))) 6 2=D.sub (D.ag (z7 4 (D.cells x) (D.cells (D.ag cs)))) 6
 2/\Once (D.cells (D.ag (z7 4 (D.cells x) (D.cells (D.ag cs)))))/\Dis (D.sub (D.ag (z7 4 (D.cells x) (D.cells (D.ag cs)))) 6 2) []/\∀ b,d<=b->MC
 prog 19 (D.sub (D.ag (z7 4 (D.cells x) (D.cells (D.ag cs)))) 6 2) n b (fun d e f=>b<=f->∃ a b,∃ c:Nat,D.cell (D.ag (z7 6 (D.cells d)
 (D.cells (D.ag (z7 4 (D.cells x) (D.cells (D.ag cs))))))) 8=D.sl a 9 b c/\Tree (D.sl a 9 b c)/\In (D.foot (D.ag cs)) (D.sl a 9 b c)/\8<(D.cells
 (D.ag (z7 6 (D.cells d) (D.cells (D.ag (z7 4 (D.cells x) (D.cells (D.ag cs)))))))).length/\D.cell (D.ag (z7 6 (D.cells d) (D.cells (D.ag (z7 4
 (D.cells x) (D.cells (D.ag cs))))))) 8=D.sl a 9 b c/\Once (D.cells (D.ag (z7 6 (D.cells d) (D.cells (D.ag (z7 4 (D.cells x) (D.cells (D.ag cs))))))))
 /\ Dis (D.sl a 9 b c) []/\∀ g,f<=g->MC prog 20 (D.sl a 9 b c) e g (fun a b c=>g<=c->∀ e,c<=e->QM b (D.ag (z7 8 [a] (D.cells
 (D.ag (z7 6 (D.cells d) (D.cells (D.ag (z7 4 (D.cells x) (D.cells (D.ag cs)))))))))) e))))
   (hQ:∀ k x N,QM k x N->∃ cs2,x=.ag cs2/\cs2.map D.cv=cs.map D.cv/\zA cs2=zA cs/\R (.ag cs2) k N):MC prog 8 (.ag cs) n1 N R:=
  OA (sh:=sh) (H:=pQ) (fuel:=400) (xr:=(2,27)) (by kernel_rfl) (by kernel_rfl) (by kernel_rfl) hag h hQ
theorem sc {Q:QT [.int .i64]} {N0:Nat} {a0:Option Addr} {e0:List D} {c0:Nat} {n1 I:Int} {N:Nat} (h :
Br (decide (I<(e0.length:Int))) ((0<=I/\I<(e0.length:Int))/\False) (uP N (Q n1))):wc Q N0 a0 e0 c0 n1 I N:=
 hE ym h
theorem xn {T:List Nat} {b0:Nat} {QM:Int->D->Nat->Prop} {N0:Nat} {m0 c0:Nat} {n1 n5:Int} {t0:Nat} {r0:List D} {q0:Nat} {N:Nat} (h :
Br (decide (n5<(m0:Int))) ((0<=n5/\n5<(m0:Int)/\(0+n5.toNat:Nat)<r0.length)/\(0+n5.toNat:Nat)<r0.length/\(0<=n5/\n5<(m0:Int)
 /\ (0+n5.toNat:Nat)<(List.set r0 (0+n5.toNat:Nat) (D.ag (z7 0 [D.j n1] (D.cells (List.getD r0 (0+n5.toNat:Nat) default))))).length)/\(0 +
 n5.toNat:Nat)<(List.set r0 (0+n5.toNat:Nat) (D.ag (z7 0 [D.j n1] (D.cells (List.getD r0 (0+n5.toNat:Nat) default))))).length/\∃ a b,∃ c:Nat,
 D.cell (List.getD (List.set r0 (0+n5.toNat:Nat) (D.ag (z7 0 [D.j n1] (D.cells (List.getD r0 (0+n5.toNat:Nat) default))))) (0+n5.toNat:Nat)
 default) 1=D.sl a 2 b c/\Tree (D.sl a 2 b c)/\In T (D.sl a 2 b c)/\(0+n5.toNat:Nat)<(List.set r0 (0+n5.toNat:Nat) (D.ag (z7 0 [D.j n1]
 (D.cells (List.getD r0 (0+n5.toNat:Nat) default))))).length/\1<(D.cells (List.getD (List.set r0 (0+n5.toNat:Nat) (D.ag (z7 0 [D.j n1] (D.cells
 (List.getD r0 (0+n5.toNat:Nat) default))))) (0+n5.toNat:Nat) default)).length/\D.cell (List.getD (List.set r0 (0+n5.toNat:Nat) (D.ag (z7 0 [D.j
 n1] (D.cells (List.getD r0 (0+n5.toNat:Nat) default))))) (0+n5.toNat:Nat) default) 1=D.sl a 2 b c/\Once (List.set r0 (0+n5.toNat:Nat) (D.ag
 (z7 0 [D.j n1] (D.cells (List.getD r0 (0+n5.toNat:Nat) default)))))/\Dis (D.sl a 2 b c) []/\∀ d,N<=d->MC prog 52 (D.sl a 2 b c) (IntKind.i64.wrap
 (n1+1)) d (fun x n a=>d<=a->zq T b0 QM N0 m0 c0 n (IntKind.i64.wrap (n5+1)) t0 (List.set (List.set r0 (0+n5.toNat:Nat) (D.ag
 (z7 0 [D.j n1] (D.cells (List.getD r0 (0+n5.toNat:Nat) default))))) (0+n5.toNat:Nat) (D.ag (z7 1 [x] (D.cells (List.getD (List.set r0 (0+n5.toNat
 : Nat) (D.ag (z7 0 [D.j n1] (D.cells (List.getD r0 (0+n5.toNat:Nat) default))))) (0+n5.toNat:Nat) default))))) q0 a)) (b0=b0/\∀ a,N<=a->QM n1
 (D.ag r0) a)):zq T b0 QM N0 m0 c0 n1 n5 t0 r0 q0 N:=
  hE ym h
theorem wl {Q:QT [.int .i64]} {N0:Nat} {a0:Option Addr} {e0:List D} {c0:Nat} {n1 I:Int} {N:Nat} (h :
Br (decide (I<(e0.length:Int))) ((0<=I/\I<(e0.length:Int))/\∃ n:Int,(if 0=0 then D.cell (List.getD e0 I.toNat default) 0 else D.sub
 (List.getD e0 I.toNat default) 0 0)=D.j n/\Br (bne n n1) (uP N (Q (-1))) ((0<=I/\I<(e0.length:Int))/\∃ a b,∃ c:Nat,(if 0=0 then D.cell
 (List.getD e0 I.toNat default) 1 else D.sub (List.getD e0 I.toNat default) 1 0)=D.sl a 2 b c/\kI 54 [.sv a 2 b c,.j (IntKind.i64.wrap (n1+1))] N (fun
 a b=>Br (decide (a<0)) (uP b (Q (-1))) (yS Q N0 a0 e0 c0 a (IntKind.i64.wrap (I+1)) b)))) (uP N (Q n1))):yS Q N0 a0 e0 c0 n1 I N:=
  hE vf h
theorem vE {Q:QT [.str]} {N0:Nat} {n0:Int} {s3:ByteArray} {N:Nat} (h :
Br (decide (n0>0)) ((10:Int)≠(0:Int)/\1<=([D.lit (.int IntKind.u8 (IntKind.u8.wrap (IntKind.i64.wrap (48+Int.tmod n0 10))))]).length/\∃ a :
 List Int,List.take 1 [D.lit (.int IntKind.u8 (IntKind.u8.wrap (IntKind.i64.wrap (48+Int.tmod n0 10))))]=List.map (fun n=>D.lit (.int IntKind.u8 n)) a /\
 (ByteArray.size (zX a)+s3.size:Nat)<=9223372036854775807/\(10:Int)≠(0:Int)/\yY Q N0 (IntKind.i64.wrap (Int.tdiv n0 10))
 (zX a++s3) N) ((1+s3.size:Nat)<=9223372036854775807/\uP N (Q (bytes [109]++s3)))):yY Q N0 n0 s3 N:=
  hE uB h
theorem sa {Q:QT [.int .i64]} {N0:Nat} {a0:Option Addr} {e0:List D} {c0:Nat} {n1 I:Int} {N:Nat} (h :
Br (decide (I<(e0.length:Int))) ((0<=I/\I<(e0.length:Int))/\False) (uP N (Q n1))):wb Q N0 a0 e0 c0 n1 I N:=
 hE yk h
theorem xm {T:List Nat} {b0:Nat} {QM:Int->D->Nat->Prop} {N0:Nat} {m0 c0:Nat} {n1 n5:Int} {t0:Nat} {r0:List D} {q0:Nat} {N:Nat} (h :
let b:List D:=(List.set r0 (0+n5.toNat:Nat) (D.ag (z7 0 [D.j n1] (D.cells (List.getD r0 (0+n5.toNat:Nat) default)))));Br (decide (n5<(m0
 : Int))) ((0<=n5/\n5<(m0:Int)/\(0+n5.toNat:Nat)<r0.length)/\(0+n5.toNat:Nat)<r0.length/\∀ d,N<=d->ACalls prog 53 [.str] [.j
 (IntKind.i64.wrap (n1+1))] d (fun s=>let e:List D:=(List.set b (0+n5.toNat:Nat) (D.ag (z7 1 [D.t s] (D.cells (List.getD b (0+n5.toNat :
 Nat) default)))));fun f=>d<=f->(0<=n5/\n5<(m0:Int)/\(0+n5.toNat:Nat)<b.length)/\(0+n5.toNat:Nat)<b.length/\∀ b,f<=b ->
 ACalls prog 53 [.str] [.j (IntKind.i64.wrap (IntKind.i64.wrap (n1+1)+1))] b (fun d=>let d:List D:=(List.set e (0+n5.toNat:Nat) (D.ag (z7
 2 [D.t d] (D.cells (List.getD e (0+n5.toNat:Nat) default)))));let f:List D:=(List.set d (0+n5.toNat:Nat) (D.ag (z7 3 [D.j
 (IntKind.i64.wrap (IntKind.i64.wrap (IntKind.i64.wrap (n1+1)+1)+1))] (D.cells (List.getD d (0+n5.toNat:Nat) default)))));let g:List D:=
 (List.set f (0+n5.toNat:Nat) (D.ag (z7 4 [D.j (IntKind.i64.wrap (IntKind.i64.wrap (IntKind.i64.wrap (IntKind.i64.wrap (n1+1)+1)+1)+1))] (D.cells
 (List.getD f (0+n5.toNat:Nat) default)))));fun h=>b<=h->(0<=n5/\n5<(m0:Int)/\(0+n5.toNat:Nat)<e.length)/\(0+n5.toNat:Nat) <
 e.length/\(0<=n5/\n5<(m0:Int)/\(0+n5.toNat:Nat)<d.length)/\(0+n5.toNat:Nat)<d.length/\(0<=n5/\n5<(m0:Int)/\(0+n5.toNat :
 Nat)<f.length)/\(0+n5.toNat:Nat)<f.length/\(0<=n5/\n5<(m0:Int)/\(0+n5.toNat:Nat)<g.length)/\(0+n5.toNat:Nat)<g.length/\∃
 a b,∃ c:Nat,D.cell (List.getD g (0+n5.toNat:Nat) default) 5=D.sl a 2 b c/\Tree (D.sl a 2 b c)/\In T (D.sl a 2 b c)/\(0+n5.toNat:Nat) <
 g.length/\5<(D.cells (List.getD g (0+n5.toNat:Nat) default)).length/\D.cell (List.getD g (0+n5.toNat:Nat) default) 5=D.sl a 2 b c/\Once
 g/\Dis (D.sl a 2 b c) []/\∀ d,h<=d->MC prog 52 (D.sl a 2 b c) (IntKind.i64.wrap (IntKind.i64.wrap (IntKind.i64.wrap (IntKind.i64.wrap
 (IntKind.i64.wrap (n1+1)+1)+1)+1)+1)) d (fun x=>let a:List D:=(List.set g (0+n5.toNat:Nat) (D.ag (z7 5 [x] (D.cells (List.getD g (0
 + n5.toNat:Nat) default)))));fun n=>let b:List D:=(List.set a (0+n5.toNat:Nat) (D.ag (z7 6 [D.j n] (D.cells (List.getD a (0+n5.toNat :
 Nat) default)))));fun c=>d<=c->(0<=n5/\n5<(m0:Int)/\(0+n5.toNat:Nat)<a.length)/\(0+n5.toNat:Nat)<a.length/\(0<=n5/\n5<(m0 :
 Int)/\(0+n5.toNat:Nat)<b.length)/\(0+n5.toNat:Nat)<b.length/\∃ a d,∃ e:Nat,D.cell (List.getD b (0+n5.toNat:Nat) default) 7 =
 D.sl a 2 d e/\Tree (D.sl a 2 d e)/\In T (D.sl a 2 d e)/\(0+n5.toNat:Nat)<b.length/\7<(D.cells (List.getD b (0+n5.toNat :
 Nat) default)).length/\D.cell (List.getD b (0+n5.toNat:Nat) default) 7=D.sl a 2 d e/\Once b/\Dis (D.sl a 2 d e) []/\∀ f,c<=f ->
 MC prog 52 (D.sl a 2 d e) (IntKind.i64.wrap (n+1)) f (fun a=>let a:List D:=(List.set b (0+n5.toNat:Nat) (D.ag (z7 7 [a] (D.cells
 (List.getD b (0+n5.toNat:Nat) default)))));fun b c=>f<=c->(0<=n5/\n5<(m0:Int)/\(0+n5.toNat:Nat)<a.length)/\(0+n5.toNat:Nat)
 < a.length/\∃ d e,∃ f:Nat,D.cell (List.getD a (0+n5.toNat:Nat) default) 8=D.sl d 9 e f/\Tree (D.sl d 9 e f)/\In T (D.sl
 d 9 e f)/\(0+n5.toNat:Nat)<a.length/\8<(D.cells (List.getD a (0+n5.toNat:Nat) default)).length/\D.cell (List.getD a (0+n5.toNat :
 Nat) default) 8=D.sl d 9 e f/\Once a/\Dis (D.sl d 9 e f) []/\∀ g,c<=g->MC prog 20 (D.sl d 9 e f) b g (fun b c d=>g
 <= d->zh T b0 QM N0 m0 c0 c (IntKind.i64.wrap (n5+1)) t0 (List.set a (0+n5.toNat:Nat) (D.ag (z7 8 [b] (D.cells (List.getD a
 (0+n5.toNat:Nat) default))))) q0 d)))))) (b0=b0/\∀ a,N<=a->QM n1 (D.ag r0) a)):zh T b0 QM N0 m0 c0 n1 n5 t0 r0 q0 N:=
  hE yk h
end Go.Proofs.YtldbmnklnpfpfaaGreatDoor
set_option maxRecDepth 100000
namespace Go.Proofs.YtldbmnklnpfpfaaGreatDoor
open Go Go.Proofs Go.Proofs.Tryz
def tP:Hint:=⟨[hc 4 [0,1,5]],[],[(6,[en 0,en 1,en 2,en 3,en 4,en 5,en 6,en 7,ec 8 [20,24],en 9])]⟩
def CE:Hint:=⟨[],[],[(9,hs 6 [ec 4 [26,28]]),(11,hs 6 [ec 4 [32,34]])]⟩
def tO:Hint:=⟨[hc 4 [0,1,5]],[],[(6,[en 0,en 1,en 2,en 3,en 4,en 5,en 6,en 7,ec 8 [20,24],en 9])]⟩
def yp (Q:QT [.bool])(N0:Nat)(a0:Option Addr)(e0:List D)(c0:Nat)(I:Option Addr)(e1:List D)(J:Nat)(O:Int)(N:Nat):Prop:=AT prog 51 [.bool] Q N0 .ord (za prog 51 4) ⟨.sv a0 2 e0 c0::.sv I 2 e1 J::an 3 (.int .i64 O::an 21 []),[],N,none⟩
def yo (Q:QT [.bool])(N0:Nat)(a0:Option Addr)(e0:List D)(c0:Nat)(I:Option Addr)(e1:List D)(J:Nat)(O:Int)(N:Nat):Prop:=AT prog 18 [.bool] Q N0 .ord (za prog 18 4) ⟨.sv a0 9 e0 c0::.sv I 9 e1 J::an 3 (.int .i64 O::an 21 []),[],N,none⟩
theorem C4 (N:Nat) (x0 x1:D) (Q:QT [.bool]) (h :
Bel N x0->Bel N x1->∃ n:Int,(x0.cell 0)=D.j n/\∃ d:Int,(x1.cell 0)=D.j d/\Br (bne n d) (uP N (Q false)) (∃ a d,∃ c:Nat,(x0.cell 1)
 = D.sl a 2 d c/\∃ e f,∃ g:Nat,(x1.cell 1)=D.sl e 2 f g/\kB 51 [.sv a 2 d c,.sv e 2 f g] N (fun b a=>Br (!b) (uP a (Q false))
 (uP a (Q true))))):ACalls prog 17 [.bool] [PV.dg 2 x0,PV.dg 2 x1] N Q:=
  eE H0 h
theorem BP (N:Nat) (a0:Option Addr) (e0:List D) (c0:Nat) (I:Option Addr) (e1:List D) (J:Nat) (Q:QT [.bool]) (h :
Bel N (D.sl a0 2 e0 c0)->Bel N (D.sl I 2 e1 J)->Br (bne (e0.length:Int) (e1.length:Int)) (uP N (Q false)) (yp Q N a0 e0 c0 I e1 J 0
 N)):ACalls prog 51 [.bool] [PV.sv a0 2 e0 c0,PV.sv I 2 e1 J] N Q:=
  eE tP h
theorem C3 (N:Nat) (I J:D) (Q:QT [.bool]) (h :
Bel N I->Bel N J->∃ n:Int,(I.cell 0)=D.j n/\∃ d:Int,(J.cell 0)=D.j d/\Br (bne n d) (uP N (Q false)) (∃ s,(I.cell 1)=D.t s/\∃
 d,(J.cell 1)=D.t d/\Br (!(ByteArray.toList s==ByteArray.toList d)) (uP N (Q false)) (∃ d,(I.cell 2)=D.t d/\∃ e,(J.cell 2)=D.t e /\
 Br (!(ByteArray.toList d==ByteArray.toList e)) (uP N (Q false)) (∃ d:Int,(I.cell 3)=D.j d/\∃ e:Int,(J.cell 3)=D.j e/\Br (bne d
 e) (uP N (Q false)) (kB 17 [.dg 2 (D.sub I 4 2),.dg 2 (D.sub J 4 2)] N (λb d=>Br (!b) (uP d (Q false)) (kB 17 [.dg 2 (D.sub I 6 2),.dg 2 (D.sub J
 6 2)] d (λb d=>Br (!b) (uP d (Q false)) (∃ a b,∃ c:Nat,(I.cell 8)=D.sl a 9 b c/\∃ e f,∃ g:Nat,(J.cell 8)=D.sl e 9 f g
 /\ kB 18 [.sv a 9 b c,.sv e 9 f g] d (λa b=>Br (!a) (uP b (Q false)) (uP b (Q true)))))))))))):ACalls prog 7 [.bool] [PV.dg 9 I,PV.dg 9 J] N Q:=
  eE CE h
theorem BO (N:Nat) (a0:Option Addr) (e0:List D) (c0:Nat) (I:Option Addr) (e1:List D) (J:Nat) (Q:QT [.bool]) (h :
Bel N (D.sl a0 9 e0 c0)->Bel N (D.sl I 9 e1 J)->Br (bne (e0.length:Int) (e1.length:Int)) (uP N (Q false)) (yo Q N a0 e0 c0 I e1 J 0
 N)):ACalls prog 18 [.bool] [PV.sv a0 9 e0 c0,PV.sv I 9 e1 J] N Q:=
  eE tO h
theorem vl {Q:QT [.bool]} {N0:Nat} {a0:Option Addr} {e0:List D} {c0:Nat} {a1:Option Addr} {e1:List D} {c1:Nat} {n5:Int} {N:Nat} (h :
Br (decide (n5<(e0.length:Int))) ((0<=n5/\n5<(e0.length:Int))/\(0<=n5/\n5<(e1.length:Int))/\kB 17 [.dg 2 (List.getD e0 n5.toNat default),
 .dg 2 (List.getD e1 n5.toNat default)] N (fun b a=>Br (!b) (uP a (Q false)) (yp Q N0 a0 e0 c0 a1 e1 c1 (IntKind.i64.wrap (n5+1)) a))) (uP N
 (Q true))):yp Q N0 a0 e0 c0 a1 e1 c1 n5 N:=
  hE tP h
theorem vk {Q:QT [.bool]} {N0:Nat} {a0:Option Addr} {e0:List D} {c0:Nat} {a1:Option Addr} {e1:List D} {c1:Nat} {n5:Int} {N:Nat} (h :
Br (decide (n5<(e0.length:Int))) ((0<=n5/\n5<(e0.length:Int))/\(0<=n5/\n5<(e1.length:Int))/\kB 7 [.dg 9 (List.getD e0 n5.toNat default),
 .dg 9 (List.getD e1 n5.toNat default)] N (fun b a=>Br (!b) (uP a (Q false)) (yo Q N0 a0 e0 c0 a1 e1 c1 (IntKind.i64.wrap (n5+1)) a))) (uP N
 (Q true))):yo Q N0 a0 e0 c0 a1 e1 c1 n5 N:=
  hE tO h
end Go.Proofs.YtldbmnklnpfpfaaGreatDoor
set_option maxRecDepth 100000
namespace Go.Proofs.YtldbmnklnpfpfaaGreatDoor
open Go Go.Proofs Go.Proofs.Tryz
end Go.Proofs.YtldbmnklnpfpfaaGreatDoor
