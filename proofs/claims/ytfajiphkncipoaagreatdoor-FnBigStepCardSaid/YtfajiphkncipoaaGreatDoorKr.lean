/- Printed by gen.py: what the functions come to. -/
import Derived.Test.YtfajiphkncipoaaGreatDoorJh
set_option linter.unusedVariables false
set_option maxRecDepth 100000
namespace Go.Proofs.YtfajiphkncipoaaGreatDoor
open Go Go.Proofs Go.Proofs.Tryz
def su:Hint:=⟨[hc 4 [2,3,5]],[],[(1,hs 51 [ec 31 [34,36],ec 39 [42,44]]),(6,[en 0,en 1,en 2,en 3,en 4,en 5,en 6,en 7,en 8,en 9,ec 10 [68,73],en 11])]⟩
def zBO:Hint:=⟨[],[],[(1,hs 20 [ec 17 [19,21]])]⟩
def zDD:Hint:=⟨[],[],[(4,hs 5 [ec 2 [20]]),(5,hs 11 [ec 2 [24]]),(6,hs 11 [ec 2 [31]]),(8,[en 0,en 1,en 2,ec 3 [40],ec 4 [39,42],en 5,en 6,en 7,en 8,en 9,en 10,en 11,en 12,en 13,en 14,en 15,en 16,en 17,en 18,ec 19 [56,57],en 20,en 21,en 22,en 23,en 25,eh 24,eh 26,en 27,en 28]),(12,hs 19 [ec 15 [96,98]])]⟩
def yb (Q:QT [.bool]) (N0:Nat) (I:Int) (J O:D) (N:Nat):Prop:=AT prog 14 [.bool] Q N0 .ord (zD prog 14 4) ⟨an 2 (.pb 0 0 0 0::.pb 1 0 0 0::an 1 (.int .i64 I::an 70 [])),[.vd J 9,.vd O 9],N,none⟩
theorem sm (N:Nat) (I J:D) (Q:QT [.bool]) (h :
Bel N I->Bel N J->∃ n:Int,(I.cell 0)=D.j n/\∃ d:Int,(J.cell 0)=D.j d/\Br (bne n d) (uP N (Q false)) (∃ s,(I.cell 1)=D.t s/\∃
 d,(J.cell 1)=D.t d/\Br (!(ByteArray.toList s==ByteArray.toList d)) (uP N (Q false)) (∃ d,(I.cell 2)=D.t d/\∃ e,(J.cell 2)=D.t e /\
 Br (!(ByteArray.toList d==ByteArray.toList e)) (uP N (Q false)) (∃ d:Int,(I.cell 3)=D.j d/\∃ e:Int,(J.cell 3)=D.j e/\Br (bne d
 e) (uP N (Q false)) (kB 17 [.dg 2 (D.sub I 4 2),.dg 2 (D.sub J 4 2)] N (λb d=>Br (!b) (uP d (Q false)) (kB 17 [.dg 2 (D.sub I 6 2),.dg 2 (D.sub J
 6 2)] d (λb d=>Br (!b) (uP d (Q false)) (∃ a b,∃ c:Nat,(I.cell 8)=D.sl a 9 b c/\∃ a c,∃ e:Nat,(J.cell 8)=D.sl a 9 c e
 /\ Br (bne (b.length:Int) (c.length:Int)) (uP d (Q false)) (yb Q N 0 I J d)))))))))):ACalls prog 14 [.bool] [PV.dg 9 I,PV.dg 9 J] N Q:=
  eE su h
theorem qB (N:Nat) (a0:Option Addr) (e0:List D) (c0:Nat) (Q:QT [.int .i64]) (h :
Bel N (D.sl a0 0 e0 c0)->∀ b,N<=b->ACalls prog 28 [.cu] [.sv a0 0 e0 c0] b (λa c d n e f=>b<=f->cI 42 [.j 7] a c d n e f (λa
 _ _ _ _ _ b=>uP b (Q (IntKind.i64.wrap (a - 1)))))):ACalls prog 25 [.int .i64] [PV.sv a0 0 e0 c0] N Q:=
  eE H0 h
theorem t7 (N:Nat) (I J:D) (Q:QT [.bool]) (h :
Bel N I->Bel N J->∃ n:Int,(I.cell 0)=D.j n/\∃ a:Int,(J.cell 0)=D.j a/\Br (n==a) (∃ a:Int,(I.cell 10)=D.j a/\∃ c :
 Int,(J.cell 10)=D.j c/\Br (a==c) (kB 14 [.dg 9 (D.sub I 1 9),.dg 9 (D.sub J 1 9)] N (λb a=>uP a (Q b))) (uP N (Q false))) (uP N (Q
 false))):ACalls prog 20 [.bool] [PV.dg 11 I,PV.dg 11 J] N Q:=
  eE zBO h
theorem zBd (N:Nat) (n0:Int) (Q:QT [.str]) (h :
kB 43 [.j n0,.j 0,.j 4] N (λb a=>Br (!b) (uP a (Q (bytes [63]))) ((0<=n0/\n0<5/\(0+n0.toNat:Nat)<5)/\(0+n0.toNat:Nat)<5/\∃ s,
 List.getD [D.t (bytes [98,97,100]),D.t (bytes [100,111,110,101]),D.t (bytes [102,117,101,108]),D.t (bytes [108,97,114,103,101]),D.t (bytes [115,
 116,117,99,107])] (0+n0.toNat:Nat) default=D.t s/\uP a (Q s)))):ACalls prog 26 [.str] [PV.int .i64 n0] N Q:=
  eE H0 h
theorem zBy (N:Nat) (n0:Int) (Q:QT [.str]) (h :
kB 44 [.j n0,.j 0,.j 4] N (λb a=>Br (!b) (uP a (Q (bytes [63]))) ((0<=n0/\n0<5/\(0+n0.toNat:Nat)<5)/\(0+n0.toNat:Nat)<5/\∃ s,
 List.getD [D.t (bytes [98,97,100]),D.t (bytes [100,111,110,101]),D.t (bytes [102,117,101,108]),D.t (bytes [108,97,114,103,101]),D.t (bytes [115,
 116,117,99,107])] (0+n0.toNat:Nat) default=D.t s/\uP a (Q s)))):ACalls prog 27 [.str] [PV.int .i64 n0] N Q:=
  eE H0 h
theorem zCl (N:Nat) (a0:Option Addr) (e0:List D) (c0:Nat) (Q:QT [.bool]) (h :
Bel N (D.sl a0 0 e0 c0)->kB 7 [.sv a0 0 e0 c0] N (fun b a=>Br b (uP a (Q true)) (∀ b,a<=b->ACalls prog 18 [.ag 9,.i] [.sv a0 0 e0 c0] b (fun x
 n a=>b<=a->Bel a x->kA 11 19 [.dg 9 x,.j n] a (fun a b=>∀ c,b<=c->ACalls prog 23 [.ag 9,.i,.bool] [.dg 9 x,.j n] c (fun b d e f
 => c<=f->Bel f b->∀ c,f<=c->ACalls prog 24 [.ag 9,.i,.bool] [.dg 9 x,.j n] c (fun f g h i=>c<=i->Bel i f->kI 25 [.sv
 a0 0 e0 c0] i (fun c i=>kA 11 21 [.dg 9 x,.j n] i (fun i j=>kB 20 [.dg 11 a,.dg 11 i] j (fun i j=>Br (!i) (uP j (Q false)) (Br
 (!(e==h)) (uP j (Q false)) (Br (bne d g) (uP j (Q false)) (kB 14 [.dg 9 b,.dg 9 f] j (fun f g=>Br (!f) (uP g (Q false)) (kS 26
 [.j c] g (fun s f=>kS 27 [.j c] f (fun c f=>Br (!(ByteArray.toList s==ByteArray.toList c)) (uP f (Q false)) (Br e (∃ c:Int,
 (a.cell 0)=D.j c/\Br (c==4) (uP f (Q false)) (∃ c:Int,(a.cell 10)=D.j c/\Br (decide (c>n)) (Br (decide (n≥0)) (uP f (Q false))
 (∃ c:Int,(a.cell 0)=D.j c/\Br (bne c 1) (uP f (Q true)) (Br e (∃ c:Int,(a.cell 10)=D.j c/\Br (d==c) (kB 14 [.dg 9 b,.dg 9
 (D.sub a 1 9)] f (fun a b=>uP b (Q a))) (uP f (Q false))) (uP f (Q false))))) (∃ c:Int,(a.cell 0)=D.j c/\Br (bne c 1) (uP f (Q
 true)) (Br e (∃ c:Int,(a.cell 10)=D.j c/\Br (d==c) (kB 14 [.dg 9 b,.dg 9 (D.sub a 1 9)] f (fun a b=>uP b (Q a))) (uP f (Q
 false))) (uP f (Q false)))))) (∃ c:Int,(a.cell 10)=D.j c/\Br (decide (c>n)) (Br (decide (n≥0)) (uP f (Q false)) (∃ c:Int,
 (a.cell 0)=D.j c/\Br (bne c 1) (uP f (Q true)) (Br e (∃ c:Int,(a.cell 10)=D.j c/\Br (d==c) (kB 14 [.dg 9 b,.dg 9 (D.sub
 a 1 9)] f (fun a b=>uP b (Q a))) (uP f (Q false))) (uP f (Q false))))) (∃ c:Int,(a.cell 0)=D.j c/\Br (bne c 1) (uP f (Q
 true)) (Br e (∃ c:Int,(a.cell 10)=D.j c/\Br (d==c) (kB 14 [.dg 9 b,.dg 9 (D.sub a 1 9)] f (fun a b=>uP b (Q a))) (uP f
 (Q false))) (uP f (Q false))))))))))))))))))))))):ACalls prog 6 [.bool] [PV.sv a0 0 e0 c0] N Q:=
  eE zDD h
theorem xS (Q:QT [.bool]) (N0:Nat) (I:Int) (J O:D) (N:Nat) (h :
∃ a d,∃ c:Nat,(J.cell 8)=D.sl a 9 d c/\Br (decide (I<(d.length:Int))) (∃ a c,∃ d:Nat,(J.cell 8)=D.sl a 9 c d/\(0<=I
 /\ I<(c.length:Int))/\∃ a d,∃ e:Nat,(O.cell 8)=D.sl a 9 d e/\(0<=I/\I<(d.length:Int))/\kB 14 [.dg 9 (List.getD c
 I.toNat default),.dg 9 (List.getD d I.toNat default)] N (λb a=>Br (!b) (uP a (Q false)) (yb Q N0 (IntKind.i64.wrap (I+1)) J O
 a))) (uP N (Q true))):yb Q N0 I J O N:=
  hE su h
end Go.Proofs.YtfajiphkncipoaaGreatDoor
