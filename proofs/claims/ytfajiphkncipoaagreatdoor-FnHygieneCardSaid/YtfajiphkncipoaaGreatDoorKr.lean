/- Printed by gen.py: what the functions come to. -/
import Derived.Test.YtfajiphkncipoaaGreatDoorJh
set_option linter.unusedVariables false
set_option maxRecDepth 100000
namespace Go.Proofs.YtfajiphkncipoaaGreatDoor
open Go Go.Proofs Go.Proofs.Tryz
def sw:Hint:=⟨[hc 4 [2,3,5]],[],[(1,hs 51 [ec 31 [34,36],ec 39 [42,44]]),(6,[en 0,en 1,en 2,en 3,en 4,en 5,en 6,en 7,en 8,en 9,ec 10 [68,73],en 11])]⟩
def zBG:Hint:=⟨[],[],[(1,hs 20 [ec 17 [19,21]])]⟩
def zDC:Hint:=⟨[],[],[(1,hs 2 [ec 1 [11]]),(3,hs 8 [ec 1 [14]]),(4,hs 4 [ec 1 [18]]),(5,hs 9 [ec 2 [21,22]]),(7,[en 0,en 1,ec 2 [34],ec 3 [33,35],en 4]),(8,hs 4 [ec 2 [38]]),(13,hs 9 [ec 2 [49,50]]),(14,[en 0,en 1,en 2,en 3,en 4,en 5,en 6,ec 7 [56,60],en 8,en 9])]⟩
def zDb:Hint:=⟨[],[],[(1,hs 5 [ec 1 [3]])]⟩
def xM (Q:QT [.bool]) (N0:Nat) (I:Int) (J O:D) (N:Nat):Prop:=AT prog 14 [.bool] Q N0 .ord (zD prog 14 4) ⟨an 2 (.pb 0 0 0 0::.pb 1 0 0 0::an 1 (.int .i64 I::an 70 [])),[.vd J 9,.vd O 9],N,none⟩
theorem zCx (N:Nat) (x0 x1:D) (Q:QT [.bool]) (h :
Bel N x0->Bel N x1->∃ n:Int,(x0.cell 0)=D.lit (.int .i64 n)/\∃ d:Int,(x1.cell 0)=D.lit (.int .i64 d)/\Br (bne n d) (uP N (Q false)) (∃
 s,(x0.cell 1)=D.lit (.string s)/\∃ d,(x1.cell 1)=D.lit (.string d)/\Br (!(ByteArray.toList s==ByteArray.toList d)) (uP N (Q false)) (∃ d,
 (x0.cell 2)=D.lit (.string d)/\∃ e,(x1.cell 2)=D.lit (.string e)/\Br (!(ByteArray.toList d==ByteArray.toList e)) (uP N (Q false)) (∃ d :
 Int,(x0.cell 3)=D.lit (.int .i64 d)/\∃ e:Int,(x1.cell 3)=D.lit (.int .i64 e)/\Br (bne d e) (uP N (Q false)) (kB 17 [.dg 2 (D.sub x0 4 2),
 .dg 2 (D.sub x1 4 2)] N (fun b d=>Br (!b) (uP d (Q false)) (kB 17 [.dg 2 (D.sub x0 6 2),.dg 2 (D.sub x1 6 2)] d (fun b d=>Br (!b) (uP d (Q false))
 (∃ a b,∃ c:Nat,(x0.cell 8)=D.sl a 9 b c/\∃ a c,∃ e:Nat,(x1.cell 8)=D.sl a 9 c e/\Br (bne (b.length:Int) (c.length:Int))
 (uP d (Q false)) (xM Q N 0 x0 x1 d)))))))))):ACalls prog 14 [.bool] [PV.dg 9 x0,PV.dg 9 x1] N Q:=
  eE (H:=sw) (by kernel_rfl) (by kernel_rfl) h
theorem zB2 (N:Nat) (x0 x1:D) (Q:QT [.bool]) (h :
Bel N x0->Bel N x1->∃ n:Int,(x0.cell 0)=D.lit (.int .i64 n)/\∃ a:Int,(x1.cell 0)=D.lit (.int .i64 a)/\Br (n==a) (∃ a:Int,
 (x0.cell 10)=D.lit (.int .i64 a)/\∃ c:Int,(x1.cell 10)=D.lit (.int .i64 c)/\Br (a==c) (kB 14 [.dg 9 (D.sub x0 1 9),.dg 9 (D.sub x1 1 9)] N
 (fun b a=>uP a (Q b))) (uP N (Q false))) (uP N (Q false))):ACalls prog 20 [.bool] [PV.dg 11 x0,PV.dg 11 x1] N Q:=
  eE (H:=zBG) (by kernel_rfl) (by kernel_rfl) h
theorem zCR (N:Nat) (a0:Option Addr) (e0:List D) (c0:Nat) (Q:QT [.bool]) (h :
Bel N (D.sl a0 0 e0 c0)->kB 7 [.sv a0 0 e0 c0] N (λb d=>Br b (uP d (Q true)) (∀ b,d<=b->ACalls prog 18 [.ag 9,.int .i64] [.sv a0 0 e0 c0] b
 (λx _ d=>b<=d->Bel d x->kA 11 19 [.dg 9 x,.int .i64 200] d (λb d=>(0=0/\0=0)/\∀ a e,d<=e->Fresh N e a [D.ag []]->kAB 2 10
 [.sv a 4 [] 0,.dg 9 x,.int .i64 0] e (λa d e=>Br (!d) (kA 11 21 [.dg 9 x,.int .i64 200] e (λa c=>kB 20 [.dg 11 b,.dg 11 a] c
 (λa b=>uP b (Q a)))) (∃ d:Int,(b.cell 0)=D.lit (.int .i64 d)/\Br (bne d 1) (kA 11 21 [.dg 9 x,.int .i64 200] e (λa c=>kB
 20 [.dg 11 b,.dg 11 a] c (λa b=>uP b (Q a)))) (kB 22 [.dg 9 (D.sub b 1 9)] e (λd e=>Br (!d) (uP e (Q false)) (∃ d:Int,
 (a.cell 0)=D.lit (.int .i64 d)/\Br (bne d 4) (uP e (Q true)) ((0=0/\0=0)/\∀ d f,e<=f->Fresh N f d [D.ag []]->(1=([D.sub b 1
 9]).length/\1=1)/\(1=([D.sub b 1 9]).length/\1=1)/\(1=([D.sub b 1 9]).length/\1=1)/\(1=([D.sub b 1 9]).length/\1=1)/\∀ e g,f
 <= g->Fresh N g e [D.ag [D.sub b 1 9]]->kAB 2 10 [.sv d 4 [] 0,.dg 9 (D.ag [D.lit (.int .i64 12),D.lit (.string (bytes [])),D.lit (.string (bytes
 [])),D.lit (.int .i64 0),D.lit (.int .i64 0),D.sl Option.none 2 [] 0,D.lit (.int .i64 0),D.sl Option.none 2 [] 0,D.sl e 9 [D.sub b 1 9] 1]),.int .i64
 0] g (λb d e=>Br d (∃ d f,∃ c:Nat,(a.cell 1)=D.sl d 2 f c/\((0:Int)<=(0:Int)/\0<(f.length:Int))/\kB 17 [.dg 2 b,.dg
 2 (List.getD f 0 default)] e (λa b=>uP b (Q a))) (uP e (Q false))))))))))))) ):ACalls prog 5 [.bool] [PV.sv a0 0 e0 c0] N Q:=
  eE (H:=zDC) (by kernel_rfl) (by kernel_rfl) h
theorem zE5 (N:Nat) (I:D) (Q:QT [.bool]) (h :
Bel N I->kL 0 49 [.dg 9 I] N (λ_ a _ b=>uP b (Q ((a.length:Int)==0)))):ACalls prog 22 [.bool] [PV.dg 9 I] N Q:=
 eE (H:=zDb) (by kernel_rfl) (by kernel_rfl) h
theorem u7 (Q:QT [.bool]) (N0:Nat) (I:Int) (J O:D) (N:Nat) (h :
∃ a d,∃ c:Nat,(J.cell 8)=D.sl a 9 d c/\Br (decide (I<(d.length:Int))) (∃ a c,∃ d:Nat,(J.cell 8)=D.sl a 9 c d/\(0<=I
 /\ I<(c.length:Int))/\∃ a d,∃ e:Nat,(O.cell 8)=D.sl a 9 d e/\(0<=I/\I<(d.length:Int))/\kB 14 [.dg 9 (List.getD c
 I.toNat default),.dg 9 (List.getD d I.toNat default)] N (λb a=>Br (!b) (uP a (Q false)) (xM Q N0 (IntKind.i64.wrap (I+1)) J O
 a))) (uP N (Q true))):xM Q N0 I J O N:=
  hE (H:=sw) (by kernel_rfl) h
end Go.Proofs.YtfajiphkncipoaaGreatDoor
