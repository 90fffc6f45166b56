/- Printed by gen.py: what the functions come to. -/
import Derived.Test.YtlahkdflngobiaaGreatJh
set_option linter.unusedVariables false
set_option maxRecDepth 100000
namespace Go.Proofs.YtlahkdflngobiaaGreat
open Go Go.Proofs Go.Proofs.Tryz
def pY:Hint:=⟨[hc 4 [1,2,5]],[],[(6,[en 0,en 1,en 2,en 3,en 4,en 5,en 6,en 7]),(9,hs 7 [ec 5 [40]]),(12,hs 7 [ec 5 [50]]),(16,[en 0,en 1,en 2,en 3,en 4,en 5,en 6,en 11,ec 7 [69],en 8,en 9,en 10,ec 12 [74],en 13]),(19,[en 0,en 1,en 2,en 3,en 4,en 5,en 6,en 7,en 8,en 9,en 10,en 11,ec 12 [92],en 13,en 14,eh 15,ec 16 [85],en 17])]⟩
def rn:Hint:=⟨[hc 6 [0,2,4,10,11] [(10,70,2)]],[],[(1,hs 9 [ec 2 [14]]),(8,[en 0,en 1,en 2,en 3,en 4,en 5,en 6,en 7,en 8,ec 9 [38],en 10]),(10,[en 0,en 1,en 2,en 3,en 4,en 5,en 6,en 7,en 8,en 9,en 10,en 11,eh 12,eh 13]),(11,hs 5 [ec 2 [58]])]⟩
def pI:Hint:=⟨[hc 4 [1,12,13,14]],[],[(6,[en 0,en 1,en 2,en 3,en 4,en 5,ec 6 [20],en 7])]⟩
def ue:Hint:=⟨[hc 13 [0,3,5,59,60,61]],[],[(8,[en 0,en 1,en 2,en 3,en 4,en 5,en 6,en 7,ec 8 [33],en 9,en 10,en 11,ec 12 [37],en 13]),(10,[en 0,en 1,en 2,en 3,en 4,en 5,en 6,en 7,en 11,en 12,en 13,en 14,ec 8 [48],en 9,eh 10,ec 15 [55],en 16]),(15,hs 7 [ec 4 [69]]),(17,[en 0,en 1,en 2,en 3,en 4,en 5,en 6,en 7,eh 8,en 9,en 10,en 11,en 12,en 13])]⟩
def uu:Hint:=⟨[hc 6 [2,4,10,28,29,30]],[],[(1,hs 9 [ec 2 [15]]),(8,[en 0,en 1,en 2,en 3,en 4,en 5,en 6,en 7,eh 8,eh 9]),(10,hs 5 [ec 2 [46]])]⟩
def wL (Q:QT [.int .i64]) (N0:Nat) (a1:Option Addr) (e1:List D) (c1:Nat) (I:Int) (J:D) (N:Nat):Prop:=AT prog 34 [.int .i64] Q N0 .ord (zE prog 34 4) ⟨an 1 (.sv a1 2 e1 c1::.pb 0 0 0 0::an 2 (.int .i64 I::an 95 [])),[.vd J 9],N,none⟩
def xw (Q:QT [.int .i64,.bool]) (N0:Nat) (U:Option Addr) (e0:List D) (Y:Nat) (a2:Option Addr) (e2:List D) (c2 I J:Nat) (O:Int) (y0:D) (r1:List D) (q1:Nat) (N:Nat):Prop:=AT prog 7 [.int .i64,.bool] Q N0 .ord (zE prog 7 6) ⟨.sv U 4 e0 Y::an 1 (.sv a2 0 e2 c2::an 1 (.pb 0 0 0 0::an 5 (.sb 1 2 0 I J::.int .i64 O::an 49 []))),[.vd y0 9,.arr 70 2 r1 q1],N,none⟩
def wN (Q:QT [.bool]) (N0:Nat) (a1:Option Addr) (e1:List D) (c1:Nat) (I:Option Addr) (J:List D) (O:Nat) (U Y:Int) (N:Nat):Prop:=AT prog 30 [.bool] Q N0 .ord (zE prog 30 4) ⟨an 1 (.sv a1 0 e1 c1::an 10 (.sv I 4 J O::.int .i64 U::.int .i64 Y::an 13 [])),[],N,none⟩
def xV (Q:QT [.int .i64]) (N0:Nat) (a0:Option Addr) (e0:List D) (c0 m5 c5:Nat) (I:Option Addr) (J:List D) (O:Nat) (U Y:Int) (y0:D) (r1:List D) (q1:Nat) (N:Nat):Prop:=AT prog 32 [.int .i64] Q N0 .ord (zE prog 32 13) ⟨.sv a0 3 e0 c0::an 2 (.pb 0 0 0 0::an 1 (.sb 1 0 0 m5 c5::an 53 (.sv I 9 J O::.int .i64 U::.int .i64 Y::an 24 []))),[.vd y0 9,.arr 3 0 r1 q1],N,none⟩
def vP (Q:QT [.int .i64,.bool]) (N0:Nat) (a2:Option Addr) (e2:List D) (c2 I J:Nat) (O:Option Addr) (U:List D) (Y:Nat) (aa ab:Int) (y0:D) (r1:List D) (q1:Nat) (N:Nat):Prop:=AT prog 6 [.int .i64,.bool] Q N0 .ord (zE prog 6 6) ⟨an 2 (.sv a2 0 e2 c2::an 1 (.pb 0 0 0 0::an 5 (.sb 1 3 0 I J::an 17 (.sv O 4 U Y::.int .i64 aa::.int .i64 ab::an 17 [])))),[.vd y0 9,.arr 65 3 r1 q1],N,none⟩
def yo (Q:QT [.int .i64,.bool]) (N0:Nat) (a2:Option Addr) (e2:List D) (c2:Nat) (I:Option Addr) (J:List D) (O:Nat) (U:Option Addr) (Y:List D) (aa:Nat) (ab ac:Int) (y0:D) (N:Nat):Prop:=AT prog 6 [.int .i64,.bool] Q N0 .ord (zE prog 6 6) ⟨an 2 (.sv a2 0 e2 c2::an 1 (.pb 0 0 0 0::an 5 (.sv I 3 J O::an 17 (.sv U 4 Y aa::.int .i64 ab::.int .i64 ac::an 17 [])))),[.vd y0 9],N,none⟩
theorem zFl (N:Nat) (I:D) (J:Int) (Q:QT [.bool]) (h :
Bel N I->∃ n:Int,(I.cell 0)=D.j n/\Br (n==2) (kB 63 [.j J,.j 0,.j 1] N (λb a=>uP a (Q b))) (kB 63 [.j J,.j 0,.j 10006] N (λa
 b=>uP b (Q a)))):ACalls prog 33 [.bool] [PV.dg 2 I,PV.int .i64 J] N Q:=
  eE H0 h
theorem zKJ (N:Nat) (b0:Bool) (Q:QT [.int .i64]) (h :
Br b0 (uP N (Q 1)) (uP N (Q 0))):ACalls prog 124 [.int .i64] [PV.bool b0] N Q:=
 eE H0 h
theorem zM9 (N:Nat) (b0:Bool) (Q:QT [.int .i64]) (h :
Br b0 (uP N (Q 1)) (uP N (Q 0))):ACalls prog 122 [.int .i64] [PV.bool b0] N Q:=
 eE H0 h
theorem zHl (N:Nat) (n0:Int) (Q:QT [.int .i64]) (h :
(10007:Int)≠(0:Int)/\Br (decide (Int.tmod n0 10007<0)) (uP N (Q (IntKind.i64.wrap (Int.tmod n0 10007+10007)))) (uP N (Q (Int.tmod n0 10007)))):ACalls prog 123 [.int .i64] [PV.int .i64 n0] N Q:=
 eE H0 h
theorem zFX (N:Nat) (J:ByteArray) (I O:Int) (Q:QT [.int .i64,.bool]) (h :
kB 63 [.j I,.j 0,.j 10006] N (λb a=>Br (!b) (uP a (Q 0 false)) (kB 63 [.j O,.j 0,.j 10006] a (λa b=>Br (!a) (uP b (Q 0 false)) (Br
 (ByteArray.toList J==ByteArray.toList (bytes [43])) (kI 123 [.j (IntKind.i64.wrap (I+O))] b (λn a=>uP a (Q n true))) (Br (ByteArray.toList J ==
 ByteArray.toList (bytes [45])) (kI 123 [.j (IntKind.i64.wrap (I - O))] b (λa b=>uP b (Q a true))) (Br (ByteArray.toList J==ByteArray.toList
 (bytes [42])) (kI 123 [.j (IntKind.i64.wrap (I*O))] b (λa b=>uP b (Q a true))) (Br (ByteArray.toList J==ByteArray.toList (bytes [61])) (kI
 124 [.bool (I==O)] b (λa b=>uP b (Q a true))) (Br (ByteArray.toList J==ByteArray.toList (bytes [60])) (kI 124 [.bool (decide (I<O))] b
 (λa b=>uP b (Q a true))) (Br (ByteArray.toList J==ByteArray.toList (bytes [38])) (Br (I==1) (kI 124 [.bool (O==1)] b (λa b=>uP
 b (Q a true))) (kI 124 [.bool false] b (λa b=>uP b (Q a true)))) (Br (ByteArray.toList J==ByteArray.toList (bytes [124])) (Br (I==1) (kI
 124 [.bool true] b (λa b=>uP b (Q a true))) (kI 124 [.bool (O==1)] b (λa b=>uP b (Q a true)))) (Br (ByteArray.toList J ==
 ByteArray.toList (bytes [33])) (kI 124 [.bool (I==0)] b (λa b=>uP b (Q a true))) (uP b (Q 0 false)))))))))))))):ACalls prog 78 [.int .i64,.bool] [PV.str J,PV.int .i64 I,PV.int .i64 O] N Q:=
  eE H0 h
theorem zFS (N:Nat) (I:D) (a1:Option Addr) (e1:List D) (c1:Nat) (Q:QT [.int .i64]) (h :
Bel N I->Bel N (D.sl a1 2 e1 c1)->∃ n:Int,(I.cell 0)=D.j n/\Br (n==1) (wL Q N a1 e1 c1 (IntKind.i64.wrap ((e1.length:Int) - 1))
 I N) (Br (n==4) (∃ a d,∃ c:Nat,(I.cell 8)=D.sl a 9 d c/\((0:Int)<=(0:Int)/\0<(d.length:Int))/\∀ a,N<=a->ACalls prog 34 [.i] [.dg 9
 (List.getD d 0 default),.sv a1 2 e1 c1] a (λc d=>a<=d->∃ a e,∃ f:Nat,(I.cell 8)=D.sl a 9 e f/\Br (decide ((e.length :
 Int)>1)) (∃ a e,∃ f:Nat,(I.cell 8)=D.sl a 9 e f/\((0:Int)<=(1:Int)/\1<(e.length:Int))/\∀ a,d<=a->ACalls prog 34 [.i]
 [.dg 9 (List.getD e 1 default),.sv a1 2 e1 c1] a (λd e=>a<=e->∃ s,(I.cell 1)=D.t s/\kIB 78 [.str s,.j c,.j d] e (λa _ b=>uP
 b (Q a)))) (∃ a,(I.cell 1)=D.t a/\kIB 78 [.str a,.j c,.j 0] d (λa _ b=>uP b (Q a))))) (Br (n==5) (∃ a b,∃ c:Nat,
 (I.cell 8)=D.sl a 9 b c/\∃ a c,∃ d:Nat,(I.cell 8)=D.sl a 9 c d/\((0:Int)<=(0:Int)/\0<(c.length:Int))/\∀ a,N <=
 a->ACalls prog 34 [.i] [.dg 9 (List.getD c 0 default),.sv a1 2 e1 c1] a (λc d=>a<=d->(0<=IntKind.i64.wrap (2 - c)/\IntKind.i64.wrap
 (2 - c)<(b.length:Int))/\∀ a,d<=a->ACalls prog 34 [.i] [.dg 9 (List.getD b (IntKind.i64.wrap (2 - c)).toNat default),.sv a1 2 e1 c1]
 a (λb c=>a<=c->uP c (Q b)))) (Br (n==8) ((0=0/\0=0)/\zA [] e1 24/\∀ (a:Nat),∃ b c,∃ d:Nat,(I.cell 8)=D.sl
 b 9 c d/\((0:Int)<=(1:Int)/\1<(c.length:Int))/\∃ b,(I.cell 1)=D.t b/\∃ d e,∃ f:Nat,(I.cell 8)=D.sl d 9 e f /\
 ((0:Int)<=(0:Int)/\0<(e.length:Int))/\∀ d,N<=d->ACalls prog 34 [.i] [.dg 9 (List.getD e 0 default),.sv a1 2 e1 c1] d (λe f=>
 d<=f->(([]++e1).length=([]++e1).length/\a=a)/\zA ([]++e1) [D.ag [D.t b,D.j e]] 24/\∀ (a:Nat),(([]++e1++[D.ag [D.t b,
 D.j e]]).length=([]++e1++[D.ag [D.t b,D.j e]]).length/\a=a)/\∀ d,ApA d ([]++e1++[D.ag [D.t b,D.j e]])->Off [d] (List.getD
 c 1 default)->∀ g,f<=g->vI g [d]->ACalls prog 34 [.i] [.dg 9 (List.getD c 1 default),.sv d 2 ([]++e1++[D.ag [D.t b,D.j e]])
 a] g (λa b=>g<=b->uP b (Q a)))) (∃ a:Int,(I.cell 3)=D.j a/\uP N (Q a)))))):ACalls prog 34 [.int .i64] [PV.dg 9 I,PV.sv a1 2 e1 c1] N Q:=
  eE pY h
theorem zE0 (N:Nat) (a0:Option Addr) (e0:List D) (c0:Nat) (x1:D) (a2:Option Addr) (e2:List D) (c2:Nat) (Q:QT [.int .i64,.bool]) (h :
Bel N (D.sl a0 4 e0 c0)->Bel N x1->Bel N (D.sl a2 0 e2 c2)->kAB 2 10 [.sv a0 4 e0 c0,.dg 9 x1] N (fun _ b a=>Br (!b) (uP a (Q 0 false)) (Br (bne
 (e2.length:Int) (e0.length:Int)) (uP a (Q 0 false)) (xw Q N a0 e0 c0 a2 e2 c2 0 0 0 x1 [] 0 a)))):ACalls prog 7 [.int .i64,.bool] [PV.sv a0 4 e0 c0,PV.dg 9 x1,PV.sv a2 0 e2 c2] N Q:=
  eE rn h
theorem zIw (N:Nat) (I:D) (J:Int) (Q:QT [.bool]) (h :
Bel N I->∃ n:Int,(I.cell 0)=D.j n/\Br (n==2) (kB 38 [.j J,.j 0,.j 1] N (λb a=>uP a (Q b))) (kB 119 [.j J] N (λa b=>uP b (Q
 a)))):ACalls prog 74 [.bool] [PV.dg 2 I,PV.int .i64 J] N Q:=
  eE H0 h
theorem zFf (N:Nat) (a0:Option Addr) (e0:List D) (c0:Nat) (a1:Option Addr) (e1:List D) (c1:Nat) (Q:QT [.bool]) (h :
Bel N (D.sl a0 4 e0 c0)->Bel N (D.sl a1 0 e1 c1)->Br (bne (e0.length:Int) (e1.length:Int)) (uP N (Q false)) (wN Q N a1 e1 c1 a0 e0 c0
 (e0.length:Int) 0 N)):ACalls prog 30 [.bool] [PV.sv a0 4 e0 c0,PV.sv a1 0 e1 c1] N Q:=
  eE pI h
theorem zHf (N:Nat) (n0:Int) (Q:QT [.int .i64]) (h :
(10007:Int)≠(0:Int)/\(10007:Int)≠(0:Int)/\∀ a,N<=a->Q (Int.tmod (IntKind.i64.wrap (Int.tmod n0 10007+10007)) 10007) a):ACalls prog 121 [.int .i64] [PV.int .i64 n0] N Q:=
 eE H0 h
theorem zFV (N:Nat) (s0:ByteArray) (n1 n2:Int) (Q:QT [.int .i64,.bool]) (h :
kB 119 [.j n1] N (fun b a=>Br (!b) (uP a (Q 0 false)) (kB 119 [.j n2] a (fun a b=>Br (!a) (uP b (Q 0 false)) (Br (ByteArray.toList s0 ==
 ByteArray.toList (bytes [43])) (kI 121 [.j (IntKind.i64.wrap (n1+n2))] b (fun n a=>uP a (Q n true))) (Br (ByteArray.toList s0==ByteArray.toList (bytes
 [45])) (kI 121 [.j (IntKind.i64.wrap (n1 - n2))] b (fun a b=>uP b (Q a true))) (Br (ByteArray.toList s0==ByteArray.toList (bytes [42])) (kI 121 [.j
 (IntKind.i64.wrap (n1*n2))] b (fun a b=>uP b (Q a true))) (Br (ByteArray.toList s0==ByteArray.toList (bytes [61])) (kI 122 [.bool (n1==n2)] b
 (fun a b=>uP b (Q a true))) (Br (ByteArray.toList s0==ByteArray.toList (bytes [60])) (kI 122 [.bool (decide (n1<n2))] b (fun a b=>uP b (Q
 a true))) (Br (ByteArray.toList s0==ByteArray.toList (bytes [38])) (Br (n1==1) (kI 122 [.bool (n2==1)] b (fun a b=>uP b (Q a true))) (kI 122
 [.bool false] b (fun a b=>uP b (Q a true)))) (Br (ByteArray.toList s0==ByteArray.toList (bytes [124])) (Br (n1==1) (kI 122 [.bool true] b (fun
 a b=>uP b (Q a true))) (kI 122 [.bool (n2==1)] b (fun a b=>uP b (Q a true)))) (Br (ByteArray.toList s0==ByteArray.toList (bytes [33]))
 (kI 122 [.bool (n1==0)] b (fun a b=>uP b (Q a true))) (uP b (Q 0 false)))))))))))))):ACalls prog 77 [.int .i64,.bool] [PV.str s0,PV.int .i64 n1,PV.int .i64 n2] N Q:=
  eE H0 h
theorem p9 (N:Nat) (J:Option Addr) (e0:List D) (O:Nat) (I:D) (Q:QT [.int .i64]) (h :
Bel N (D.sl J 3 e0 O)->Bel N I->∃ n:Int,(I.cell 0)=D.j n/\Br (n==1) (∃ s,(I.cell 1)=D.t s/\kA 3 76 [.sv J 3 e0 O,.str s] N (λx a
 => ∃ b:Int,(x.cell 1)=D.j b/\uP a (Q b))) (Br (n==2) (∃ a:Int,(I.cell 3)=D.j a/\uP N (Q a)) (Br (n==3) (∃ a:Int,(I.cell 3) =
 D.j a/\uP N (Q a)) (Br (n==5) (∃ a b,∃ c:Nat,(I.cell 8)=D.sl a 9 b c/\∃ a c,∃ d:Nat,(I.cell 8)=D.sl a 9 c d/\((0:Int) <=
 (0:Int)/\0<(c.length:Int))/\∀ a,N<=a->ACalls prog 32 [.i] [.sv J 3 e0 O,.dg 9 (List.getD c 0 default)] a (λc d=>a<=d->(0 <=
 IntKind.i64.wrap (2 - c)/\IntKind.i64.wrap (2 - c)<(b.length:Int))/\∀ a,d<=a->ACalls prog 32 [.i] [.sv J 3 e0 O,.dg 9 (List.getD b
 (IntKind.i64.wrap (2 - c)).toNat default)] a (λb c=>a<=c->uP c (Q b)))) (Br (n==8) (∃ a,(I.cell 1)=D.t a/\∃ b c,∃ d:Nat,
 (I.cell 8)=D.sl b 9 c d/\((0:Int)<=(0:Int)/\0<(c.length:Int))/\∃ b d,∃ e:Nat,(I.cell 8)=D.sl b 9 d e/\((0:Int)
 <= (1:Int)/\1<(d.length:Int))/\∀ b,N<=b->ACalls prog 32 [.i] [.sv J 3 e0 O,.dg 9 (List.getD c 0 default)] b (λc e=>b<=e ->
 kL 3 31 [.sv J 3 e0 O,.dg 3 (D.ag [D.t a,D.j c,D.lit (.bool false)])] e (λa b c e=>∀ f,e<=f->ACalls prog 32 [.i] [.sv a 3
 b c,.dg 9 (List.getD d 1 default)] f (λa b=>f<=b->uP b (Q a))))) (∃ a b,∃ c:Nat,(I.cell 8)=D.sl a 9 b c /\
 xV Q N J e0 O 2 2 a b c (b.length:Int) 0 I [D.j 0,D.j 0] 2 N)))))):ACalls prog 32 [.int .i64] [PV.sv J 3 e0 O,PV.dg 9 I] N Q:=
  eE ue h
theorem zE6 (N:Nat) (I:Option Addr) (e0:List D) (J:Nat) (O:D) (U:Option Addr) (Y:List D) (c2:Nat) (Q:QT [.int .i64,.bool]) (h :
Bel N (D.sl I 4 e0 J)->Bel N O->Bel N (D.sl U 0 Y c2)->kAB 2 9 [.sv I 4 e0 J,.dg 9 O] N (λ_ b a=>Br (!b) (uP a (Q 0 false)) (kB 30 [.sv
 I 4 e0 J,.sv U 0 Y c2] a (λa b=>Br (!a) (uP b (Q 0 false)) (vP Q N U Y c2 0 0 I e0 J (e0.length:Int) 0 O [] 0 b))))):ACalls prog 6 [.int .i64,.bool] [PV.sv I 4 e0 J,PV.dg 9 O,PV.sv U 0 Y c2] N Q:=
  eE uu h
theorem rJ (Q:QT [.int .i64]) (N0:Nat) (a1:Option Addr) (e1:List D) (c1:Nat) (n5:Int) (y0:D) (N:Nat) (h :
Br (decide (n5≥0)) ((0<=n5/\n5<(e1.length:Int))/\∃ s,(if 0=0 then D.cell (List.getD e1 n5.toNat default) 0 else D.sub (List.getD e1 n5.toNat
 default) 0 0)=D.t s/\∃ a,(y0.cell 1)=D.t a/\Br (ByteArray.toList s==ByteArray.toList a) ((0<=n5/\n5<(e1.length:Int))/\∃ n:Int,(if 0=0
 then D.cell (List.getD e1 n5.toNat default) 1 else D.sub (List.getD e1 n5.toNat default) 1 0)=D.j n/\uP N (Q n)) (wL Q N0 a1 e1 c1
 (IntKind.i64.wrap (n5 - 1)) y0 N)) (∃ a:Int,(y0.cell 3)=D.j a/\uP N (Q a))):wL Q N0 a1 e1 c1 n5 y0 N:=
  hE pY h
theorem sH (Q:QT [.int .i64,.bool]) (N0:Nat) (a0:Option Addr) (e0:List D) (c0:Nat) (a2:Option Addr) (U:List D) (c2 O J:Nat) (I:Int) (Y:D) (r1:List D) (q1:Nat) (N:Nat) (h :
Br (decide (I<(e0.length:Int))) ((0<=I/\I<(e0.length:Int))/\(0<=I/\I<(U.length:Int))/\∃ n:Int,List.getD U I.toNat
 default=D.j n/\kB 33 [.dg 2 (if 2=0 then D.cell (List.getD e0 I.toNat default) 1 else D.sub (List.getD e0 I.toNat default) 1 2),.j n] N (λb a=>
 Br (!b) (uP a (Q 0 false)) ((0<=I/\I<(e0.length:Int))/\∃ s,(if 0=0 then D.cell (List.getD e0 I.toNat default) 0 else D.sub (List.getD e0
 I.toNat default) 0 0)=D.t s/\(0<=I/\I<(U.length:Int))/\∃ b:Int,List.getD U I.toNat default=D.j b/\(O=r1.length/\J=q1) /\
 zA r1 [D.ag [D.t s,D.j b]] 24/\∀ (c:Nat),xw Q N0 a0 e0 c0 a2 U c2 (r1++[D.ag [D.t s,D.j b]]).length c (IntKind.i64.wrap (I +
 1)) Y (r1++[D.ag [D.t s,D.j b]]) c a))) ((O=r1.length/\J=q1)/\∀ a,ApA a r1->Off [a] Y->∀ b,N<=b->vI b [a]->ACalls prog 34 [.i]
 [.dg 9 Y,.sv a 2 r1 J] b (λa c=>b<=c->uP c (Q a true)))):xw Q N0 a0 e0 c0 a2 U c2 O J I Y r1 q1 N:=
  hE rn h
theorem s9 (Q:QT [.bool]) (N0:Nat) (a1:Option Addr) (e1:List D) (c1:Nat) (a12:Option Addr) (e12:List D) (c12:Nat) (n13 n14:Int) (N:Nat) (h :
Br (decide (n14<n13)) ((0<=n14/\n14<(e12.length:Int))/\(0<=n14/\n14<(e1.length:Int))/\∃ n:Int,List.getD e1 n14.toNat default=D.j n /\
 kB 74 [.dg 2 (D.sub (List.getD e12 n14.toNat default) 1 2),.j n] N (fun b a=>Br (!b) (uP a (Q false)) (wN Q N0 a1 e1 c1 a12 e12 c12 n13
 (IntKind.i64.wrap (n14+1)) a))) (uP N (Q true))):wN Q N0 a1 e1 c1 a12 e12 c12 n13 n14 N:=
  hE pI h
theorem zr (Q:QT [.int .i64]) (N0:Nat) (a0:Option Addr) (e0:List D) (c0 U c5:Nat) (Y:Option Addr) (J:List D) (aa:Nat) (O I:Int) (y0:D) (r1:List D) (q1:Nat) (N:Nat) (h :
Br (decide (I<O)) ((0<=I/\I<(J.length:Int))/\∀ a,N<=a->ACalls prog 32 [.i] [.sv a0 3 e0 c0,.dg 9 (List.getD J I.toNat
 default)] a (λn b=>a<=b->(0<=I/\I<(U:Int)/\(0+I.toNat:Nat)<r1.length)/\(0+I.toNat:Nat)<r1.length /\
 xV Q N0 a0 e0 c0 U c5 Y J aa O (IntKind.i64.wrap (I+1)) y0 (List.set r1 (0+I.toNat:Nat) (D.j n)) q1 b)) (∃ s,(y0.cell 1)
 = D.t s/\((0:Int)<=(0:Int)/\0<(U:Int)/\0<r1.length)/\0<r1.length/\∃ a:Int,List.getD r1 0 default=D.j a/\((0:Int)<=(1:Int)/\1
 < (U:Int)/\1<r1.length)/\1<r1.length/\∃ c:Int,List.getD r1 1 default=D.j c/\kIB 77 [.str s,.j a,.j c] N (λa _ b=>uP b (Q
 a)))):xV Q N0 a0 e0 c0 U c5 Y J aa O I y0 r1 q1 N:=
  hE ue h
theorem t6 (Q:QT [.int .i64,.bool]) (N0:Nat) (a2:Option Addr) (e2:List D) (c2 U J:Nat) (aa:Option Addr) (O:List D) (ab:Nat) (Y I:Int) (y0:D) (r1:List D) (q1:Nat) (N:Nat) (h :
Br (decide (I<Y)) ((0<=I/\I<(O.length:Int))/\∃ s,D.cell (List.getD O I.toNat default) 0=D.t s/\(0<=I/\I<(e2.length :
 Int))/\∃ n:Int,List.getD e2 I.toNat default=D.j n/\(U=r1.length/\J=q1)/\∀ a,ApA a r1->∀ b,N<=b->vI b [a]->ACalls prog 31 [.sl 3]
 [.sv a 3 r1 J,.dg 3 (D.ag [D.t s,D.j n,D.lit (.bool false)])] b (λc d e f=>b<=f->Off [a] (D.sl c 3 d e)/\(Bel f (D.sl c 3 d e) ->
 yo Q N0 a2 e2 c2 c d e aa O ab Y (IntKind.i64.wrap (I+1)) y0 f))) ((U=r1.length/\J=q1)/\∀ a,ApA a r1->Off [a]
 y0->∀ b,N<=b->vI b [a]->ACalls prog 32 [.i] [.sv a 3 r1 J,.dg 9 y0] b (λa c=>b<=c->uP c (Q a true)))):vP Q N0 a2 e2 c2 U J aa O ab Y I y0 r1 q1 N:=
  hE uu h
theorem vz (Q:QT [.int .i64,.bool]) (N0:Nat) (a2:Option Addr) (e2:List D) (c2:Nat) (O:Option Addr) (U:List D) (Y:Nat) (ab:Option Addr) (J:List D) (ac:Nat) (aa I:Int) (y0:D) (N:Nat) (h :
Br (decide (I<aa)) ((0<=I/\I<(J.length:Int))/\∃ s,D.cell (List.getD J I.toNat default) 0=D.t s/\(0<=I/\I<(e2.length :
 Int))/\∃ n:Int,List.getD e2 I.toNat default=D.j n/\kL 3 31 [.sv O 3 U Y,.dg 3 (D.ag [D.t s,D.j n,D.lit (.bool false)])] N (λa b c d=>
 yo Q N0 a2 e2 c2 a b c ab J ac aa (IntKind.i64.wrap (I+1)) y0 d)) (∀ a,N<=a->ACalls prog 32 [.i] [.sv O 3 U Y,.dg 9 y0]
 a (λb c=>a<=c->uP c (Q b true)))):yo Q N0 a2 e2 c2 O U Y ab J ac aa I y0 N:=
  hE uu h
end Go.Proofs.YtlahkdflngobiaaGreat
set_option maxRecDepth 100000
namespace Go.Proofs.YtlahkdflngobiaaGreat
open Go Go.Proofs Go.Proofs.Tryz
def zBW:Hint:=⟨[hc 5 [0,2,6,7,8]],[],[(3,hs 5 [ec 2 [16]]),(7,[en 0,en 1,en 2,en 3,en 4,en 5,en 6,en 7,en 8,en 9,ec 10 [29],en 11,eh 12,eh 13])]⟩
def zAi:Hint:=⟨[hc 2 [2,3,6,9,10,11]],[],[(4,[en 0,en 1,en 2,en 3,en 4,en 5,en 6,en 7,en 8,eh 9,en 10,ec 11 [26],eh 12])]⟩
def zHO:Hint:=⟨[],[],[(3,hs 7 [ec 2 [14],ec 5 [15]])]⟩
def t8:Hint:=⟨[hc 4 [0,1,5]],[],[(6,[en 0,en 1,en 2,en 3,en 4,en 5,en 6,en 7,en 8,en 9,en 10,en 11,en 12,en 13,en 14,en 15,en 16,en 17,en 18,en 19,en 20,en 21,en 22,en 23,en 24,en 25,en 26,en 27,en 28,en 29,en 30,en 31,en 32,en 33,en 34,ec 35 [46,51],en 36,en 37])]⟩
def zDn:Hint:=⟨[],[],[(4,hs 9 [ec 3 [31]]),(5,hs 9 [ec 3 [38]]),(6,hs 6 [ec 3 [44]]),(7,hs 9 [ec 2 [49]]),(8,hs 9 [ec 2 [55]]),(9,[en 0,en 1,en 2,en 3,en 4,en 5,en 6,en 7,en 8,en 9,en 10,en 11,en 12,ec 13 [70],ec 14 [68,72],en 15,en 16,en 17,en 18,en 19,en 20,en 21,en 22,en 23,en 24,ec 25 [82,83],en 26,en 27,en 28,en 29,en 30,en 32,en 33,ec 31 [89],ec 34 [92],ec 35 [90,93],en 36,en 37]),(16,hs 4 [ec 1 [136]]),(17,hs 20 [ec 10 [147]])]⟩
def rC:Hint:=⟨[hc 4 [2,3,5]],[],[(1,hs 51 [ec 31 [34,36],ec 39 [42,44]]),(6,[en 0,en 1,en 2,en 3,en 4,en 5,en 6,en 7,en 8,en 9,ec 10 [68,73],en 11])]⟩
def wm (Q:QT [.ag 9]) (N0:Nat) (a0:Option Addr) (e0:List D) (c0:Nat) (a2:Option Addr) (e2:List D) (c2:Nat) (n8 I:Int) (J O:ByteArray) (U Y:Int) (aa:Option Addr) (ab:List D) (ac:Nat) (ae:Int) (ah:Option Addr) (ai:List D) (aj:Nat) (ak:Option Addr) (al:List D) (am:Nat) (y1:D) (N:Nat):Prop:=AT prog 12 [.ag 9] Q N0 .ord (zE prog 12 5) ⟨.sv a0 4 e0 c0::an 1 (.sv a2 0 e2 c2::an 3 (.pb 0 0 0 0::.pb 1 0 0 0::.int .i64 n8::an 29 [])),[.var [.int .i64 I,.str J,.str O,.int .i64 U,.int .i64 Y,.sv aa 2 ab ac,.int .i64 ae,.sv ah 2 ai aj,.sv ak 9 al am],.vd y1 9],N,none⟩
def wh (Q:QT [.ag 9]) (N0:Nat) (a2:Option Addr) (e2:List D) (c2:Nat) (a9:Option Addr) (e9:List D) (c9:Nat) (ao aq:Int) (y0:D) (I:Int) (J O:ByteArray) (U Y:Int) (aa:Option Addr) (ab:List D) (ac:Nat) (ae:Int) (ah:Option Addr) (ai:List D) (aj:Nat) (ak:Option Addr) (al:List D) (am:Nat) (N:Nat):Prop:=AT prog 35 [.ag 9] Q N0 .ord (zE prog 35 2) ⟨an 2 (.sv a2 0 e2 c2::.pb 0 0 0 0::an 2 (.pb 1 0 0 0::an 2 (.sv a9 4 e9 c9::.int .i64 ao::.int .i64 aq::an 18 []))),[.vd y0 9,.var [.int .i64 I,.str J,.str O,.int .i64 U,.int .i64 Y,.sv aa 2 ab ac,.int .i64 ae,.sv ah 2 ai aj,.sv ak 9 al am]],N,none⟩
def xI (Q:QT [.bool]) (N0:Nat) (I:Option Addr) (e0:List D) (J:Nat) (a1:Option Addr) (e1:List D) (c1:Nat) (O:Int) (N:Nat):Prop:=AT prog 19 [.bool] Q N0 .ord (zE prog 19 4) ⟨.sv I 4 e0 J::.sv a1 4 e1 c1::an 3 (.int .i64 O::an 49 []),[],N,none⟩
def xc (Q:QT [.bool]) (N0:Nat) (I:Int) (J O:D) (N:Nat):Prop:=AT prog 11 [.bool] Q N0 .ord (zE prog 11 4) ⟨an 2 (.pb 0 0 0 0::.pb 1 0 0 0::an 1 (.int .i64 I::an 70 [])),[.vd J 9,.vd O 9],N,none⟩
theorem zHJ (N:Nat) (I:Option Addr) (e0:List D) (J:Nat) (U:D) (Y:Option Addr) (O:List D) (c2:Nat) (Q:QT [.ag 9]) (h :
Bel N (D.sl I 4 e0 J)->Bel N U->Bel N (D.sl Y 0 O c2)->Br (bne (O.length:Int) (e0.length:Int)) (∀ a,N<=a->Q (D.ag [D.j 0,D.t b0,D.t b0,
 D.j 0,D.j 0,D.sl none 2 [] 0,D.j 0,D.sl none 2 [] 0,D.sl none 9 [] 0]) a) (kA 9 15 [.sv I 4 e0 J,.dg 9 U] N (λx a=>wm Q N I e0 J
 Y O c2 0 0 b0 b0 0 0 none [] 0 0 none [] 0 none [] 0 x a))):ACalls prog 12 [.ag 9] [PV.sv I 4 e0 J,PV.dg 9 U,PV.sv Y 0 O c2] N Q:=
  eE zBW h
theorem zHa (N:Nat) (I:D) (a1:Option Addr) (e1:List D) (c1:Nat) (J:Option Addr) (O:List D) (U:Nat) (Q:QT [.ag 9]) (h :
Bel N I->Bel N (D.sl a1 4 e1 c1)->Bel N (D.sl J 0 O U)->wh Q N J O U a1 e1 c1 (e1.length:Int) 0 I 0 b0 b0 0 0 none [] 0 0 none []
 0 none [] 0 N):ACalls prog 35 [.ag 9] [PV.dg 9 I,PV.sv a1 4 e1 c1,PV.sv J 0 O U] N Q:=
  eE zAi h
theorem zG4 (N:Nat) (I:Option Addr) (e0:List D) (J:Nat) (U:D) (Y:Option Addr) (O:List D) (c2:Nat) (Q:QT [.ag 9]) (h :
Bel N (D.sl I 4 e0 J)->Bel N U->Bel N (D.sl Y 0 O c2)->Br (bne (e0.length:Int) (O.length:Int)) (∀ a,N<=a->Q (D.ag [D.j 0,D.t b0,D.t b0,
 D.j 0,D.j 0,D.sl none 2 [] 0,D.j 0,D.sl none 2 [] 0,D.sl none 9 [] 0]) a) (kA 9 14 [.sv I 4 e0 J,.dg 9 U] N (λx a=>kA 9 35 [.dg 9 x,.sv I 4 e0
 J,.sv Y 0 O c2] a (λa b=>uP b (Q a))))):ACalls prog 8 [.ag 9] [PV.sv I 4 e0 J,PV.dg 9 U,PV.sv Y 0 O c2] N Q:=
  eE zHO h
theorem zBw (N:Nat) (I:Option Addr) (e0:List D) (J:Nat) (a1:Option Addr) (e1:List D) (c1:Nat) (Q:QT [.bool]) (h :
Bel N (D.sl I 4 e0 J)->Bel N (D.sl a1 4 e1 c1)->Br (bne (e0.length:Int) (e1.length:Int)) (uP N (Q false)) (xI Q N I e0 J a1 e1
 c1 0 N)):ACalls prog 19 [.bool] [PV.sv I 4 e0 J,PV.sv a1 4 e1 c1] N Q:=
  eE t8 h
theorem zFq (N:Nat) (I:D) (Q:QT [.bool]) (h :
Bel N I->∃ n:Int,(I.cell 0)=D.j n/\Br (n==2) (uP N (Q true)) (∃ a:Int,(I.cell 0)=D.j a/\uP N (Q (a==3)))):ACalls prog 23 [.bool] [PV.dg 9 I] N Q:=
 eE H0 h
theorem zMM (N:Nat) (I:Option Addr) (e0:List D) (J:Nat) (Q:QT [.bool]) (h :
Bel N (D.sl I 0 e0 J)->∀ a,N<=a->Q (decide ((e0.length:Int)>1048576)) a):ACalls prog 4 [.bool] [PV.sv I 0 e0 J] N Q:=
 eE H0 h
theorem zEf (N:Nat) (a0:Option Addr) (e0:List D) (c0:Nat) (Q:QT [.bool]) (h :
Bel N (D.sl a0 0 e0 c0)->kB 4 [.sv a0 0 e0 c0] N (fun b d=>Br b (uP d (Q true)) (∀ b,d<=b->ACalls prog 5 [.sl 4,.ag 9,.sl 0] [.sv a0 0 e0 c0]
 b (fun a c d x e f g h=>b<=h->Bel h (D.sl a 4 c d)->Bel h x->Bel h (D.sl e 0 f g)->kIB 6 [.sv a 4 c d,.dg 9 x,.sv e 0 f
 g] h (fun n b h=>kIB 7 [.sv a 4 c d,.dg 9 x,.sv e 0 f g] h (fun h i j=>kA 9 8 [.sv a 4 c d,.dg 9 x,.sv e 0 f g] j (fun j
 k=>kAB 2 9 [.sv a 4 c d,.dg 9 x] k (fun k l m=>kAB 2 10 [.sv a 4 c d,.dg 9 x] m (fun m o p=>Br (bne n h) (uP p (Q false)) (Br
 (!(b==i)) (uP p (Q false)) (kA 9 12 [.sv a 4 c d,.dg 9 x,.sv e 0 f g] p (fun e f=>kB 11 [.dg 9 j,.dg 9 e] f (fun e f=>Br
 (!e) (uP f (Q false)) (Br (!(l==o)) (uP f (Q false)) (kB 13 [.dg 2 k,.dg 2 m] f (fun e f=>Br (!e) (uP f (Q false)) (kA 9 14 [.sv a
 4 c d,.dg 9 x] f (fun e f=>kA 9 15 [.sv a 4 c d,.dg 9 x] f (fun a c=>kB 11 [.dg 9 e,.dg 9 a] c (fun a c=>Br (!a) (uP c (Q
 false)) (kL 4 16 [.sv a0 0 e0 c0] c (fun a c d e=>∀ f,e<=f->ACalls prog 17 [.sl 4,.sl 4] [.sv a 4 c d] f (fun e g h i
 k l m=>f<=m->Bel m (D.sl e 4 g h)->Bel m (D.sl i 4 k l)->∀ f,m<=f->ACalls prog 18 [.sl 4,.sl 4] [.sv a 4 c
 d] f (fun m o p q r s t=>f<=t->Bel t (D.sl m 4 o p)->Bel t (D.sl q 4 r s)->kB 19 [.sv e 4 g h,.sv m 4
 o p] t (fun e f=>Br (!e) (uP f (Q false)) (kB 19 [.sv i 4 k l,.sv q 4 r s] f (fun e f=>Br (!e) (uP f (Q false)) (Br
 (bne (IntKind.i64.wrap ((g.length:Int)+(k.length:Int))) (c.length:Int)) (uP f (Q false)) (kB 20 [.sv a 4 c d] f (fun e f=>kB
 21 [.sv a 4 c d] f (fun a c=>Br (!(e==a)) (uP c (Q false)) (kA 11 22 [.dg 9 j,.j 200] c (fun a c=>Br (!b) (uP c (Q
 true)) (∃ b:Int,(a.cell 0)=D.j b/\Br (bne b 1) (uP c (Q true)) (kB 23 [.dg 9 (D.sub a 1 9)] c (fun b c=>Br b (∃ b:Int,
 (a.cell 4)=D.j b/\uP c (Q (b==n))) (uP c (Q false)))))))))))))))))))))))))))))))))))))):ACalls prog 3 [.bool] [PV.sv a0 0 e0 c0] N Q:=
  eE zDn h
theorem zDK (N:Nat) (I J:D) (Q:QT [.bool]) (h :
Bel N I->Bel N J->∃ n:Int,(I.cell 0)=D.j n/\∃ d:Int,(J.cell 0)=D.j d/\Br (bne n d) (uP N (Q false)) (∃ s,(I.cell 1)=D.t s/\∃
 d,(J.cell 1)=D.t d/\Br (!(ByteArray.toList s==ByteArray.toList d)) (uP N (Q false)) (∃ d,(I.cell 2)=D.t d/\∃ e,(J.cell 2)=D.t e /\
 Br (!(ByteArray.toList d==ByteArray.toList e)) (uP N (Q false)) (∃ d:Int,(I.cell 3)=D.j d/\∃ e:Int,(J.cell 3)=D.j e/\Br (bne d
 e) (uP N (Q false)) (kB 13 [.dg 2 (D.sub I 4 2),.dg 2 (D.sub J 4 2)] N (λb d=>Br (!b) (uP d (Q false)) (kB 13 [.dg 2 (D.sub I 6 2),.dg 2 (D.sub J
 6 2)] d (λb d=>Br (!b) (uP d (Q false)) (∃ a b,∃ c:Nat,(I.cell 8)=D.sl a 9 b c/\∃ a c,∃ e:Nat,(J.cell 8)=D.sl a 9 c e
 /\ Br (bne (b.length:Int) (c.length:Int)) (uP d (Q false)) (xc Q N 0 I J d)))))))))):ACalls prog 11 [.bool] [PV.dg 9 I,PV.dg 9 J] N Q:=
  eE rC h
theorem rR (Q:QT [.ag 9]) (N0:Nat) (a0:Option Addr) (e0:List D) (c0:Nat) (a2:Option Addr) (e2:List D) (c2:Nat) (I J:Int) (O U:ByteArray) (Y aa:Int) (ab:Option Addr) (ac:List D) (ae:Nat) (ah:Int) (ai:Option Addr) (aj:List D) (ak:Nat) (al:Option Addr) (am:List D) (ao:Nat) (y1:D) (N:Nat) (h :
Br (decide (I<(e0.length:Int))) ((0<=I/\I<(e0.length:Int))/\(0<=I/\I<(e2.length:Int))/\∃ n:Int,List.getD e2 I.toNat default =
 D.j n/\kA 9 46 [.dg 2 (if 2=0 then D.cell (List.getD e0 I.toNat default) 1 else D.sub (List.getD e0 I.toNat default) 1 2),.j n] N (λx b=>(2=([y1,
 x]).length/\2=2)/\∀ a,ApA a [y1,x]->∀ c,b<=c->vI c [a]->ACalls prog 45 [.ag 9] [.j 7,.sv a 9 [y1,x] 2] c (λb d=>c<=d->Off [a]
 b/\(Bel d b->wm Q N0 a0 e0 c0 a2 e2 c2 (IntKind.i64.wrap (I+1)) J O U Y aa ab ac ae ah ai aj ak al am
 ao b d)))) (uP N (Q y1))):wm Q N0 a0 e0 c0 a2 e2 c2 I J O U Y aa ab ac ae ah ai aj ak al am ao y1 N:=
  hE zBW h
theorem rr (Q:QT [.ag 9]) (N0:Nat) (a2:Option Addr) (e2:List D) (c2:Nat) (a9:Option Addr) (e9:List D) (c9:Nat) (aq I:Int) (y0:D) (J:Int) (O U:ByteArray) (Y aa:Int) (ab:Option Addr) (ac:List D) (ae:Nat) (ah:Int) (ai:Option Addr) (aj:List D) (ak:Nat) (al:Option Addr) (am:List D) (ao:Nat) (N:Nat) (h :
Br (decide (I<aq)) ((0<=I/\I<(e9.length:Int))/\(0<=I/\I<(e2.length:Int))/\∃ n:Int,List.getD e2 I.toNat default=D.j n/\∃
 b:Int,D.cell (List.getD e9 I.toNat default) 1=D.j b/\kA 9 80 [.j n,.bool (b==2)] N (λx b=>(2=([y0,x]).length/\2=2)/\∀ a c,b <=
 c->Fresh N0 c a [D.ag [y0,x]]->kA 9 79 [.j 7,.sv a 9 [y0,x] 2] c (λa b=>wh Q N0 a2 e2 c2 a9 e9 c9 aq (IntKind.i64.wrap (I+1))
 a J O U Y aa ab ac ae ah ai aj ak al am ao b))) (uP N (Q y0))):wh Q N0 a2 e2 c2 a9 e9 c9 aq I y0 J O U Y aa ab ac ae ah ai aj ak al am ao N:=
  hE zAi h
theorem uX (Q:QT [.bool]) (N0:Nat) (J:Option Addr) (e0:List D) (O:Nat) (a1:Option Addr) (e1:List D) (c1:Nat) (I:Int) (N:Nat) (h :
Br (decide (I<(e0.length:Int))) ((0<=I/\I<(e0.length:Int))/\∃ s,(if 0=0 then D.cell (List.getD e0 I.toNat default) 0 else D.sub
 (List.getD e0 I.toNat default) 0 0)=D.t s/\(0<=I/\I<(e1.length:Int))/\∃ a,(if 0=0 then D.cell (List.getD e1 I.toNat default) 0 else D.sub
 (List.getD e1 I.toNat default) 0 0)=D.t a/\Br (!(ByteArray.toList s==ByteArray.toList a)) (uP N (Q false)) ((0<=I/\I<(e0.length:Int))/\∃ b :
 Bool,(if 0=0 then D.cell (List.getD e0 I.toNat default) 3 else D.sub (List.getD e0 I.toNat default) 3 0)=D.lit (.bool b)/\(0<=I/\I<(e1.length :
 Int))/\∃ a:Bool,(if 0=0 then D.cell (List.getD e1 I.toNat default) 3 else D.sub (List.getD e1 I.toNat default) 3 0)=D.lit (.bool a)/\Br (!(b ==
 a)) (uP N (Q false)) ((0<=I/\I<(e0.length:Int))/\(0<=I/\I<(e1.length:Int))/\kB 13 [.dg 2 (if 2=0 then D.cell (List.getD e0 I.toNat
 default) 1 else D.sub (List.getD e0 I.toNat default) 1 2),.dg 2 (if 2=0 then D.cell (List.getD e1 I.toNat default) 1 else D.sub (List.getD e1 I.toNat
 default) 1 2)] N (λa b=>Br (!a) (uP b (Q false)) (xI Q N0 J e0 O a1 e1 c1 (IntKind.i64.wrap (I+1)) b))))) (uP N (Q true))):xI Q N0 J e0 O a1 e1 c1 I N:=
  hE t8 h
theorem tT (Q:QT [.bool]) (N0:Nat) (I:Int) (J O:D) (N:Nat) (h :
∃ a d,∃ c:Nat,(J.cell 8)=D.sl a 9 d c/\Br (decide (I<(d.length:Int))) (∃ a c,∃ d:Nat,(J.cell 8)=D.sl a 9 c d/\(0<=I
 /\ I<(c.length:Int))/\∃ a d,∃ e:Nat,(O.cell 8)=D.sl a 9 d e/\(0<=I/\I<(d.length:Int))/\kB 11 [.dg 9 (List.getD c
 I.toNat default),.dg 9 (List.getD d I.toNat default)] N (λb a=>Br (!b) (uP a (Q false)) (xc Q N0 (IntKind.i64.wrap (I+1)) J O
 a))) (uP N (Q true))):xc Q N0 I J O N:=
  hE rC h
end Go.Proofs.YtlahkdflngobiaaGreat
