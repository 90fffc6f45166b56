/- Printed by gen.py: what the functions come to. -/
import Derived.Test.YtnmnahkkcfghjaaGreatJh
set_option linter.unusedVariables false
set_option maxRecDepth 100000
namespace Go.Proofs.YtnmnahkkcfghjaaGreat
open Go Go.Proofs Go.Proofs.Tryz
theorem zKb (N:Nat) (b0:Bool) (Q:QT [.int .i64]) (h :
Br b0 (uP N (Q 1)) (uP N (Q 0))):ACalls prog 58 [.int .i64] [PV.bool b0] N Q:=
 eE H0 h
end Go.Proofs.YtnmnahkkcfghjaaGreat
set_option maxRecDepth 100000
namespace Go.Proofs.YtnmnahkkcfghjaaGreat
open Go Go.Proofs Go.Proofs.Tryz
def pT:Hint:=⟨[hc 3 [1,3,4]],[],[(5,hs 9 [ec 6 [17]])]⟩
def ut:Hint:=⟨[hc 6 [1,4,5,6]],[],[(1,hs 8 [ec 1 [9]]),(3,hs 4 [ec 1 [18]]),(6,hs 3 [ec 1 [22]]),(8,hs 2 [ec 1 [27]]),(12,hs 8 [ec 1 [39]])]⟩
def wG (Q:QT [.int .i64]) (N0:Nat) (I J:Int) (O:D) (N:Nat):Prop:=AT prog 43 [.int .i64] Q N0 .ord (zE prog 43 3) ⟨an 1 (.pb 0 0 0 0::an 1 (.int .i64 I::.int .i64 J::an 16 [])),[.vd O 9],N,none⟩
def t8 (Q:QT [.ag 11]) (N0:Nat) (n1 n6 J O:Int) (U Y:ByteArray) (aa ab:Int) (ac:Option Addr) (ae:List D) (ah:Nat) (ai:Int) (aj:Option Addr) (ak:List D) (al:Nat) (am:Option Addr) (ao:List D) (aq:Nat) (I au:Int) (aw ax:ByteArray) (ay:Int) (az a2 a3 a4:D) (a5 a6:Nat) (r2:List D) (q2:Nat) (N:Nat):Prop:=AT prog 21 [.ag 11] Q N0 .ord (zE prog 21 6) ⟨an 1 (.int .i64 n1::an 2 (.pb 0 0 0 0::.pb 1 0 0 0::.int .i64 n6::an 42 [])),[.var [.int .i64 J,.int .i64 O,.str U,.str Y,.int .i64 aa,.int .i64 ab,.sv ac 2 ae ah,.int .i64 ai,.sv aj 2 ak al,.sv am 9 ao aq,.int .i64 I],.var [.int .i64 au,.str aw,.str ax,.int .i64 ay,.dc az,.dc a2,.dc a3,.dc a4,.sb 2 9 0 a5 a6],.arr 29 9 r2 q2],N,none⟩
def yg (Q:QT [.ag 11]) (N0:Nat) (n1 n6 J O:Int) (U Y:ByteArray) (aa ab:Int) (ac:Option Addr) (ae:List D) (ah:Nat) (ai:Int) (aj:Option Addr) (ak:List D) (al:Nat) (am:Option Addr) (ao:List D) (aq:Nat) (I:Int) (y1:D) (N:Nat):Prop:=AT prog 21 [.ag 11] Q N0 .ord (zE prog 21 6) ⟨an 1 (.int .i64 n1::an 2 (.pb 0 0 0 0::.pb 1 0 0 0::.int .i64 n6::an 42 [])),[.var [.int .i64 J,.int .i64 O,.str U,.str Y,.int .i64 aa,.int .i64 ab,.sv ac 2 ae ah,.int .i64 ai,.sv aj 2 ak al,.sv am 9 ao aq,.int .i64 I],.vd y1 9],N,none⟩
theorem zFZ (N:Nat) (I:D) (Q:QT [.int .i64]) (h :
Bel N I->wG Q N 1 0 I N):ACalls prog 43 [.int .i64] [PV.dg 9 I] N Q:=
 eE pT h
theorem zDd (N:Nat) (I:D) (n1:Int) (Q:QT [.ag 11]) (h :
Bel N I->kB 40 [.dg 9 I,.j 0] N (λb a=>Br (!b) (∀ b,a<=b->Q (D.ag [D.j 0,D.j 0,D.t b0,D.t b0,D.j 0,D.j 0,D.sl none 2 [] 0,D.j 0,
 D.sl none 2 [] 0,D.sl none 9 [] 0,D.j 0]) b) (kB 31 [.j n1,.j 0,.j 200] a (λa b=>Br (!a) (∀ a,b<=a->Q (D.ag [D.j 0,D.j 0,D.t b0,D.t b0,
 D.j 0,D.j 0,D.sl none 2 [] 0,D.j 0,D.sl none 2 [] 0,D.sl none 9 [] 0,D.j 0]) a) (∀ a,b<=a->ACalls prog 42 [.pk,.i,.str,.str,.i,.dc,.dc,.dc,
 .dc,.row 29 9] [.dg 9 I] a (λn s b c x d e f g h i=>a<=i->Bel i (D.ag g)->t8 Q N n1 0 0 0 b0 b0 0 0 none [] 0 0 none []
 0 none [] 0 0 n s b c x d e f g.length h g h i)))))):ACalls prog 21 [.ag 11] [PV.dg 9 I,PV.int .i64 n1] N Q:=
  eE ut h
theorem sH (Q:QT [.int .i64]) (N0:Nat) (n3 n4:Int) (y0:D) (N:Nat) (h :
∃ a b,∃ c:Nat,(y0.cell 8)=D.sl a 9 b c/\Br (decide (n4<(b.length:Int))) (∃ a b,∃ c:Nat,(y0.cell 8)=D.sl a 9 b c/\(0<=n4
 /\ n4<(b.length:Int))/\∀ a,N<=a->ACalls prog 43 [.i] [.dg 9 (List.getD b n4.toNat default)] a (fun n b=>a<=b->wG Q N0
 (IntKind.i64.wrap (n3+n)) (IntKind.i64.wrap (n4+1)) y0 b)) (uP N (Q n3))):wG Q N0 n3 n4 y0 N:=
  hE pT h
theorem zBn (Q:QT [.ag 11]) (N0:Nat) (n1 n6 n0_0 n0_1:Int) (s0_2 s0_3:ByteArray) (n0_4 n0_5:Int) (a0_6:Option Addr) (e0_6:List D) (c0_6:Nat) (n0_7:Int) (a0_8:Option Addr) (e0_8:List D) (c0_8:Nat) (a0_9:Option Addr) (e0_9:List D) (c0_9:Nat) (n0_10 n1_0:Int) (s1_1 s1_2:ByteArray) (n1_3:Int) (x1_4 x1_5 x1_6 x1_7:D) (m1_8 c1_8:Nat) (r2:List D) (q2:Nat) (N:Nat) (h :
(m1_8=r2.length/\c1_8=q2)/\(m1_8=r2.length/\c1_8=q2)/\∀ a c,N<=c->Fresh N0 c a [D.ag r2]->∀ d,c<=d->ACalls prog 43 [.i] [.dg 9
 (D.ag [D.j n1_0,D.t s1_1,D.t s1_2,D.j n1_3,x1_4,x1_5,x1_6,x1_7,D.sl a 9 r2 q2])] d (fun n c=>d<=c->Br (decide (n>400)) (∀ a,c<=a->Q
 (D.ag [D.j 3,D.j 0,D.t b0,D.t b0,D.j 0,D.j 0,D.sl none 2 [] 0,D.j 0,D.sl none 2 [] 0,D.sl none 9 [] 0,D.j n6]) a) (kB 44 [.dg 9 (D.ag [D.j n1_0,D.t
 s1_1,D.t s1_2,D.j n1_3,x1_4,x1_5,x1_6,x1_7,D.sl a 9 r2 q2])] c (fun b c=>Br b (uP c (Q (D.ag [D.j 1,D.j n1_0,D.t s1_1,D.t s1_2,D.j n1_3,x1_4,
 x1_5,x1_6,x1_7,D.sl a 9 r2 q2,D.j n6]))) (Br (n6==n1) (uP c (Q (D.ag [D.j 2,D.j n1_0,D.t s1_1,D.t s1_2,D.j n1_3,x1_4,x1_5,x1_6,x1_7,D.sl a 9 r2
 q2,D.j n6]))) (∀ b,c<=b->ACalls prog 45 [.ag 9,.i] [.dg 9 (D.ag [D.j n1_0,D.t s1_1,D.t s1_2,D.j n1_3,x1_4,x1_5,x1_6,x1_7,D.sl a 9 r2 q2])] b
 (fun x c d=>b<=d->Bel d x->Br (c==0) (uP d (Q (D.ag [D.j 4,D.j n1_0,D.t s1_1,D.t s1_2,D.j n1_3,x1_4,x1_5,x1_6,x1_7,D.sl a 9 r2 q2,
 D.j n6]))) (yg Q N0 n1 (IntKind.i64.wrap (n6+1)) n0_0 n0_1 s0_2 s0_3 n0_4 n0_5 a0_6 e0_6 c0_6 n0_7 a0_8 e0_8 c0_8 a0_9 e0_9 c0_9 n0_10 x
 d)))))))):t8 Q N0 n1 n6 n0_0 n0_1 s0_2 s0_3 n0_4 n0_5 a0_6 e0_6 c0_6 n0_7 a0_8 e0_8 c0_8 a0_9 e0_9 c0_9 n0_10 n1_0 s1_1 s1_2 n1_3 x1_4 x1_5 x1_6 x1_7 m1_8 c1_8 r2 q2 N:=
  hE ut h
theorem uE (Q:QT [.ag 11]) (N0:Nat) (n1 n6 O U:Int) (Y aa:ByteArray) (ab ac:Int) (ae:Option Addr) (ah:List D) (ai:Nat) (aj:Int) (ak:Option Addr) (al:List D) (am:Nat) (ao:Option Addr) (aq:List D) (au:Nat) (J:Int) (I:D) (N:Nat) (h :
∀ a,N<=a->ACalls prog 43 [.i] [.dg 9 I] a (λn c=>a<=c->Br (decide (n>400)) (∀ a,c<=a->Q (D.ag [D.j 3,D.j 0,D.t b0,D.t b0,D.j
 0,D.j 0,D.sl none 2 [] 0,D.j 0,D.sl none 2 [] 0,D.sl none 9 [] 0,D.j n6]) a) (kB 44 [.dg 9 I] c (λb a=>Br b (uP a (Q (D.ag [D.j 1,(I.cell 0),
 (I.cell 1),(I.cell 2),(I.cell 3),(I.cell 4),(I.cell 5),(I.cell 6),(I.cell 7),(I.cell 8),D.j n6]))) (Br (n6==n1) (uP a (Q (D.ag [D.j 2,
 (I.cell 0),(I.cell 1),(I.cell 2),(I.cell 3),(I.cell 4),(I.cell 5),(I.cell 6),(I.cell 7),(I.cell 8),D.j n6]))) (∀ b,a<=b->ACalls prog 45
 [.ag 9,.i] [.dg 9 I] b (λx a c=>b<=c->Bel c x->Br (a==0) (uP c (Q (D.ag [D.j 4,(I.cell 0),(I.cell 1),(I.cell 2),(I.cell 3),
 (I.cell 4),(I.cell 5),(I.cell 6),(I.cell 7),(I.cell 8),D.j n6]))) (yg Q N0 n1 (IntKind.i64.wrap (n6+1)) O U Y aa ab
 ac ae ah ai aj ak al am ao aq au J x c)))))))):yg Q N0 n1 n6 O U Y aa ab ac ae ah ai aj ak al am ao aq au J I N:=
  hE ut h
end Go.Proofs.YtnmnahkkcfghjaaGreat
