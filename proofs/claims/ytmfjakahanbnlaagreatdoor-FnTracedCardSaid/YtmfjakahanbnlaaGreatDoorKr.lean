/- Printed by gen.py: what the functions come to. -/
import Derived.Test.YtmfjakahanbnlaaGreatDoorJh
set_option linter.unusedVariables false
set_option maxRecDepth 100000
namespace Go.Proofs.YtmfjakahanbnlaaGreatDoor
open Go Go.Proofs Go.Proofs.Tryz
def qh:Hint:=⟨[],[],[]⟩
def pA:Hint:=⟨[hc 4 [0,3,4,5] [(3,3,0)]],[],[]⟩
def qi:Hint:=⟨[],[],[]⟩
def ql:Hint:=⟨[],[],[(5,[en 0,en 1,en 2,eh 3,eh 4,en 5])]⟩
def sf:Hint:=⟨[hc 3 [1,5,8,9,10]],[],[]⟩
def s8:Hint:=⟨[hc 3 [0,1,5,6]],[],[]⟩
def sk:Hint:=⟨[hc 3 [3,7,8,9] [(3,9,0)]],[],[]⟩
def sV:Hint:=⟨[hc 3 [0,3,4] [(3,9,0)]],[],[]⟩
def zEx:Hint:=⟨[],[],[]⟩
def zEF:Hint:=⟨[],[],[]⟩
def rQ:Hint:=⟨[hc 4 [0,1,5]],[],[(6,[en 0,en 1,en 2,en 3,en 4,en 5,en 6,en 7,en 8])]⟩
def rh:Hint:=⟨[hc 13 [3,5,6,12,13]],[],[(4,hs 4 [ec 2 [21]]),(5,hs 5 [ec 2 [24]]),(9,[en 0,en 1,en 2,ec 3 [40],eh 4,en 5,en 6,en 7,en 8,en 9,en 10,en 11,en 12,en 13,en 14,en 15,en 17,en 18,eh 16,eh 19,en 20,en 21,en 22,en 23,en 25,eh 24,eh 26,en 27,en 28,en 29,en 30,en 31,en 33,en 34,ec 32 [69],ec 35 [72],ec 36 [71,74],en 37,en 38]),(16,[en 0,en 1,en 2,en 3,en 4,en 5,en 6,en 7,en 8,en 9,en 10,en 11,en 13,en 14,ec 12 [96],ec 15 [99,101],en 16,en 17,en 18])]⟩
def xP (Q:QT [.int .i64]) (N0:Nat) (n1 J:Int) (O:Option Addr) (U:List D) (Y:Nat) (n9 I:Int) (N:Nat):Prop:=AT prog 37 [.int .i64] Q N0 .ord (zC prog 37 3) ⟨an 1 (.int .i64 n1::an 3 (.int .i64 J::an 2 (.sv O 0 U Y::.int .i64 n9::.int .i64 I::an 11 []))),[],N,none⟩
def xJ (Q:QT [.int .i64]) (N0:Nat) (a0:Option Addr) (e0:List D) (c0:Nat) (n1 I J:Int) (N:Nat):Prop:=AT prog 38 [.int .i64] Q N0 .ord (zC prog 38 3) ⟨.sv a0 0 e0 c0::.int .i64 n1::an 3 (.int .i64 I::.int .i64 J::an 16 []),[],N,none⟩
def xF (Q:QT [.str]) (N0:Nat) (I J:Nat) (O:Option Addr) (U:List D) (Y:Nat) (n8 n9:Int) (r0:List D) (q0:Nat) (N:Nat):Prop:=AT prog 39 [.str] Q N0 .ord (zC prog 39 3) ⟨an 3 (.sb 0 0 0 I J::an 3 (.sv O 0 U Y::.int .i64 n8::.int .i64 n9::an 11 [])),[.arr 9 0 r0 q0],N,none⟩
def xE (Q:QT [.str]) (N0:Nat) (a0:Option Addr) (e0:List D) (c0 I J:Nat) (O:Int) (r0:List D) (U:Nat) (N:Nat):Prop:=AT prog 40 [.str] Q N0 .ord (zC prog 40 3) ⟨.sv a0 0 e0 c0::an 2 (.sb 0 0 0 I J::.int .i64 O::an 17 []),[.arr 9 0 r0 U],N,none⟩
def xZ (Q:QT [.bool]) (N0:Nat) (a0:Option Addr) (e0:List D) (c0:Nat) (I:Option Addr) (e1:List D) (J:Nat) (O:Int) (N:Nat):Prop:=AT prog 35 [.bool] Q N0 .ord (zC prog 35 4) ⟨.sv a0 0 e0 c0::.sv I 0 e1 J::an 3 (.int .i64 O::an 20 []),[],N,none⟩
def xC (Q:QT [.bool]) (N0:Nat) (a5:Option Addr) (O:List D) (U:Nat) (I J:Int) (Y y1:D) (N:Nat):Prop:=AT prog 7 [.bool] Q N0 .ord (zC prog 7 13) ⟨an 3 (.pb 0 0 0 0::an 1 (.sv a5 0 O U::.pb 1 0 0 0::an 5 (.int .i64 I::.int .i64 J::an 91 []))),[.vd Y 9,.vd y1 11],N,none⟩
def xu (E:Env) (Q:QT [(Sh.sl 0),(Sh.sl 0),(Sh.int IntKind.i64),(Sh.int IntKind.i64)]) (N0:Nat) (m3 c3:Nat) (n4 n5:Int) (I:Option Addr) (J:List D) (O:Nat) (U Y:Int) (r1:List D) (q1:Nat) (N:Nat):Prop:=AT prog 88 [(Sh.sl 0),(Sh.sl 0),(Sh.int IntKind.i64),(Sh.int IntKind.i64)] Q N0 (.io E [.var [.sv none 0 [] 0,.int .i64 0,.int .i64 0]]) (zC prog 88 4) ⟨.pb 0 0 0 0::an 2 (.sb 1 0 0 m3 c3::.int .i64 n4::.int .i64 n5::an 14 []),[.var [.sv I 0 J O,.int .i64 U,.int .i64 Y],.arr 3 0 r1 q1],N,some (yu E 0 [.var [.sv none 0 [] 0,.int .i64 0,.int .i64 0]],[])⟩
theorem qo (N:Nat) (a0:Option Addr) (e0:List D) (c0:Nat) (Q:QT [.sl 0,.int .i64]) (h :
Bel N (D.sl a0 0 e0 c0)->∀ b,N<=b->ACalls prog 87 [Sh.cu] [.sv a0 0 e0 c0] b (λa c d n e f=>b<=f->∀ b,f<=b->BCalls prog 88 [.sl
 0,.sl 0,.int .i64,.int .i64] [.pb 0 0 0 0] [Bx.var [.sv a 0 c d,.int .i64 n,.int .i64 e]] b (λa c d e f g h i j=>b<=j->Bel
 j (D.sl a 0 c d)->Bel j (D.sl e 0 f g)->∀ b,j<=b->BCalls prog 89 [.int .i64,.sl 0,.int .i64,.int .i64] [.pb 0 0 0 0,.int .i64 9]
 [Bx.var [.sv e 0 f g,.int .i64 h,.int .i64 i]] b (λe f g h _ _ i=>b<=i->Bel i (D.sl f 0 g h)->∀ b,i<=b
 -> Q a c d e b)))):ACalls prog 32 [.sl 0,.int .i64] [PV.sv a0 0 e0 c0] N Q:=
  eE (H:=qh) (by kernel_rfl) (by kernel_rfl) h
theorem qp (N:Nat) (a0:Option Addr) (e0:List D) (c0:Nat) (Q:QT [.sl 0]) (h :
Bel N (D.sl a0 0 e0 c0)->∀ b,N<=b->ACalls prog 87 [Sh.cu] [.sv a0 0 e0 c0] b (λa c d n e f=>b<=f->∀ b,f<=b->BCalls prog 88 [.sl
 0,.sl 0,.int .i64,.int .i64] [.pb 0 0 0 0] [Bx.var [.sv a 0 c d,.int .i64 n,.int .i64 e]] b (λa c d e f g _ _ h=>b<=h->Bel
 h (D.sl a 0 c d)->Bel h (D.sl e 0 f g)->∀ b,h<=b->Q a c d b))):ACalls prog 33 [.sl 0] [PV.sv a0 0 e0 c0] N Q:=
  eE (H:=qi) (by kernel_rfl) (by kernel_rfl) h
theorem qk (N:Nat) (a0:Option Addr) (e0:List D) (c0:Nat) (Q:QT [.ag 9,.int .i64]) (h :
Bel N (D.sl a0 0 e0 c0)->∀ d,N<=d->ACalls prog 87 [Sh.cu] [.sv a0 0 e0 c0] d (λa c e n f g=>d<=g->∀ d,g<=d->BCalls prog 90 [.ag
 9,.sl 0,.int .i64,.int .i64] [.pb 0 0 0 0] [Bx.var [.sv a 0 c e,.int .i64 n,.int .i64 f]] d (λx a c e f g h=>d<=h->Bel h x ->
 Bel h (D.sl a 0 c e)->∀ d,h<=d->BCalls prog 91 [.bool,.sl 0,.int .i64,.int .i64] [.pb 0 0 0 0,.int .i64 8] [Bx.var [.sv a 0 c e,.int
 .i64 f,.int .i64 g]] d (λb a c e f g h=>d<=h->Bel h (D.sl a 0 c e)->Br b (∀ b,h<=b->BCalls prog 92 [.ag 9,.sl
 0,.int .i64,.int .i64] [.pb 0 0 0 0] [Bx.var [.sv a 0 c e,.int .i64 f,.int .i64 g]] b (λa c d e f g h=>b<=h->Bel h a
 -> Bel h (D.sl c 0 d e)->∀ b,h<=b->BCalls prog 93 [.int .i64,.sl 0,.int .i64,.int .i64,.sl 0] [.pb 0 0 0 0,.sb 1 0 0 6 6] [Bx.var [.sv c
 0 d e,.int .i64 f,.int .i64 g],Bx.arr 3 0 [D.lit (.int .i64 0),D.lit (.int .i64 1),D.lit (.int .i64 2),D.lit (.int .i64 5),D.lit (.int .i64 300),
 D.lit (.int .i64 (-1))] 6] b (λc d e f _ _ g h i j=>b<=j->Bel j (D.sl d 0 e f)->Bel j (D.sl g 0 h i) ->
 ∀ b,j<=b->Q a c b))) (∀ b,h<=b->BCalls prog 93 [.int .i64,.sl 0,.int .i64,.int .i64,.sl 0] [.pb 0 0 0 0,.sb 1 0 0 6 6] [Bx.var
 [.sv a 0 c e,.int .i64 f,.int .i64 g],Bx.arr 3 0 [D.lit (.int .i64 0),D.lit (.int .i64 1),D.lit (.int .i64 2),D.lit (.int .i64 5),D.lit (.int .i64
 300),D.lit (.int .i64 (-1))] 6] b (λa c d e _ _ f g h i=>b<=i->Bel i (D.sl c 0 d e)->Bel i (D.sl f 0 g
 h)->∀ b,i<=b->Q x a b)))))):ACalls prog 34 [.ag 9,.int .i64] [PV.sv a0 0 e0 c0] N Q:=
  eE (H:=ql) (by kernel_rfl) (by kernel_rfl) h
theorem zDD (N:Nat) (a0:Option Addr) (e0:List D) (c0:Nat) (n1:Int) (Q:QT [.int .i64]) (h :
Bel N (D.sl a0 0 e0 c0)->xP Q N n1 0 a0 e0 c0 (e0.length:Int) 0 N):ACalls prog 37 [.int .i64] [PV.sv a0 0 e0 c0,PV.int .i64 n1] N Q:=
 eE (H:=sf) (by kernel_rfl) (by kernel_rfl) h
theorem zC0 (N:Nat) (a0:Option Addr) (e0:List D) (c0:Nat) (n1:Int) (Q:QT [.int .i64]) (h :
Bel N (D.sl a0 0 e0 c0)->xJ Q N a0 e0 c0 n1 0 0 N):ACalls prog 38 [.int .i64] [PV.sv a0 0 e0 c0,PV.int .i64 n1] N Q:=
 eE (H:=s8) (by kernel_rfl) (by kernel_rfl) h
theorem zDM (N:Nat) (a0:Option Addr) (e0:List D) (c0:Nat) (Q:QT [.str]) (h :
Bel N (D.sl a0 0 e0 c0)->xF Q N 0 0 a0 e0 c0 (e0.length:Int) 0 [] 0 N):ACalls prog 39 [.str] [PV.sv a0 0 e0 c0] N Q:=
 eE (H:=sk) (by kernel_rfl) (by kernel_rfl) h
theorem zCg (N:Nat) (a0:Option Addr) (e0:List D) (c0:Nat) (Q:QT [.str]) (h :
Bel N (D.sl a0 0 e0 c0)->xE Q N a0 e0 c0 0 0 0 [] 0 N):ACalls prog 40 [.str] [PV.sv a0 0 e0 c0] N Q:=
 eE (H:=sV) (by kernel_rfl) (by kernel_rfl) h
theorem zEH (N:Nat) (n0:Int) (Q:QT [.str]) (h :
∀ a,N<=a->ACalls prog 65 [.bool] [.int .i64 n0,.int .i64 0,.int .i64 8] a (λb c=>a<=c->Br (!b) (∀ a,c<=a->Q (bytes [63]) a) ((0
 <= n0/\n0<9/\(0+n0.toNat:Nat)<9)/\(0+n0.toNat:Nat)<9/\∃ s,List.getD [D.lit (.string (bytes [110,111,110,101])),D.lit (.string (bytes [111,
 112])),D.lit (.string (bytes [105,102])),D.lit (.string (bytes [97,112,112])),D.lit (.string (bytes [114,101,99])),D.lit (.string (bytes [108,101,116])),
 D.lit (.string (bytes [115,112,108,105,99,101])),D.lit (.string (bytes [114,117,110])),D.lit (.string (bytes [108,105,102,116]))] (0+n0.toNat:Nat)
 default=D.lit (.string s)/\∀ a,c<=a->Q s a))):ACalls prog 96 [.str] [PV.int .i64 n0] N Q:=
  eE (H:=zEx) (by kernel_rfl) (by kernel_rfl) h
theorem zD9 (N:Nat) (n0:Int) (Q:QT [.str]) (h :
∀ a,N<=a->ACalls prog 63 [.bool] [.int .i64 n0,.int .i64 0,.int .i64 8] a (λb c=>a<=c->Br (!b) (∀ a,c<=a->Q (bytes [63]) a) ((0
 <= n0/\n0<9/\(0+n0.toNat:Nat)<9)/\(0+n0.toNat:Nat)<9/\∃ s,List.getD [D.lit (.string (bytes [110,111,110,101])),D.lit (.string (bytes [111,
 112])),D.lit (.string (bytes [105,102])),D.lit (.string (bytes [97,112,112])),D.lit (.string (bytes [114,101,99])),D.lit (.string (bytes [108,101,116])),
 D.lit (.string (bytes [115,112,108,105,99,101])),D.lit (.string (bytes [114,117,110])),D.lit (.string (bytes [108,105,102,116]))] (0+n0.toNat:Nat)
 default=D.lit (.string s)/\∀ a,c<=a->Q s a))):ACalls prog 98 [.str] [PV.int .i64 n0] N Q:=
  eE (H:=zEF) (by kernel_rfl) (by kernel_rfl) h
theorem zEU (N:Nat) (a0:Option Addr) (e0:List D) (c0:Nat) (I:Option Addr) (e1:List D) (J:Nat) (Q:QT [.bool]) (h :
Bel N (D.sl a0 0 e0 c0)->Bel N (D.sl I 0 e1 J)->Br (bne (e0.length:Int) (e1.length:Int)) (∀ a,N<=a->Q false a) (xZ Q N a0 e0 c0 I
 e1 J 0 N)):ACalls prog 35 [.bool] [PV.sv a0 0 e0 c0,PV.sv I 0 e1 J] N Q:=
  eE (H:=rQ) (by kernel_rfl) (by kernel_rfl) h
theorem zEn (N:Nat) (a0:Option Addr) (e0:List D) (c0:Nat) (Q:QT [.bool]) (h :
Bel N (D.sl a0 0 e0 c0)->∀ d,N<=d->ACalls prog 28 [.bool] [.sv a0 0 e0 c0] d (λb e=>d<=e->Br b (∀ a,e<=a->Q true a) (∀ b,e
 <= b->ACalls prog 29 [.ag 9,.int .i64] [.sv a0 0 e0 c0] b (λx n d=>b<=d->Bel d x->∀ b,d<=b->ACalls prog 30 [.sl 0] [.dg 9 x,.int .i64
 n] b (λa c d e=>b<=e->Bel e (D.sl a 0 c d)->∀ b,e<=b->ACalls prog 31 [.ag 11] [.dg 9 x,.int .i64 n] b (λe f=>b<=f ->
 Bel f e->∀ b,f<=b->ACalls prog 32 [.sl 0,.int .i64] [.sv a0 0 e0 c0] b (λf g h i j=>b<=j->Bel j (D.sl f 0 g
 h)->∀ b,j<=b->ACalls prog 33 [.sl 0] [.sv a0 0 e0 c0] b (λj k l m=>b<=m->Bel m (D.sl j 0 k l)->∀ b,m <=
 b->ACalls prog 34 [.ag 9,.int .i64] [.sv a0 0 e0 c0] b (λm o p=>b<=p->Bel p m->∀ b,p<=b->ACalls prog 36 [.sl 0] [.dg
 9 x,.int .i64 n] b (λn p q r=>b<=r->Bel r (D.sl n 0 p q)->∀ b,r<=b->ACalls prog 35 [.bool] [.sv a 0 c d,.sv n
 0 p q] b (λn p=>b<=p->Br (!n) (∀ a,p<=a->Q false a) (∃ b:Int,(e.cell 10)=D.lit (.int .i64 b)/\Br (bne (c.length
 : Int) b) (∀ a,p<=a->Q false a) (∀ b,p<=b->ACalls prog 37 [.int .i64] [.sv f 0 g h,.int .i64 i] b (λn p=>b
 <= p->∀ b,p<=b->ACalls prog 38 [.int .i64] [.sv f 0 g h,.int .i64 i] b (λf g=>b<=g->Br (bne n f) (∀ a,g
 <= a->Q false a) (∀ b,g<=b->ACalls prog 39 [.str] [.sv j 0 k l] b (λs f=>b<=f->∀ b,f<=b->ACalls prog 40 [.str]
 [.sv j 0 k l] b (λf g=>b<=g->Br (!(ByteArray.toList s==ByteArray.toList f)) (∀ a,g<=a->Q false a) (∀ b,g <=
 b->ACalls prog 42 [.ag 9] [.dg 9 m,.int .i64 o] b (λf g=>b<=g->Bel g f->∀ b,g<=b->ACalls prog 43 [.ag 9] [.dg 9 m,
 .int .i64 o] b (λg h=>b<=h->Bel h g->∀ b,h<=b->ACalls prog 41 [.bool] [.dg 9 f,.dg 9 g] b (λf g=>b
 <= g->Br (!f) (∀ a,g<=a->Q false a) (xC Q N a c d 0 1 x e g))))))))))))))))))))))):ACalls prog 7 [.bool] [PV.sv a0 0 e0 c0] N Q:=
  eE (H:=rh) (by kernel_rfl) (by kernel_rfl) h
theorem zBW (N:Nat) (I:Option Addr) (J:List D) (O:Nat) (U Y:Int) (Q:QT [(Sh.sl 0),(Sh.sl 0),(Sh.int IntKind.i64),(Sh.int IntKind.i64)]) (h:∀ E:Env,
Bel N (D.sl I 0 J O)->∀ b,N<=b->BCalls prog 89 [.int .i64,.sl 0,.int .i64,.int .i64] [.pb 0 0 0 0,.int .i64 6] [Bx.var [.sv I 0 J
 O,.int .i64 U,.int .i64 Y]] b (λn a c d e f g=>b<=g->Bel g (D.sl a 0 c d)->xu E Q N 0 0 n 0 a c d e f []
 0 g)):BCalls prog 88 [(Sh.sl 0),(Sh.sl 0),(Sh.int IntKind.i64),(Sh.int IntKind.i64)] [.pb 0 0 0 0] [.var [.sv I 0 J O,.int .i64 U,.int .i64 Y]] N Q:=
  bE (H:=pA) (by kernel_rfl) (λE=>by kernel_rfl) h
theorem um (Q:QT [.int .i64]) (N0:Nat) (n1 O:Int) (Y:Option Addr) (J:List D) (c8:Nat) (U I:Int) (N:Nat) (h :
Br (decide (I<U)) ((0<=I/\I<(J.length:Int))/\∃ n:Int,List.getD J I.toNat default=D.lit (.int .i64 n)/\∀ a,N<=a->ACalls prog 94 [.int
 .i64] [.bool (n==n1)] a (λb c=>a<=c->xP Q N0 n1 (IntKind.i64.wrap (O+b)) Y J c8 U (IntKind.i64.wrap (I+1)) c)) (∀
 a,N<=a->Q O a)):xP Q N0 n1 O Y J c8 U I N:=
  hE (H:=sf) (by kernel_rfl) h
theorem tI (Q:QT [.int .i64]) (N0:Nat) (a0:Option Addr) (e0:List D) (c0:Nat) (n1 J I:Int) (N:Nat) (h :
Br (decide (I<(e0.length:Int))) ((0<=I/\I<(e0.length:Int))/\∃ n:Int,List.getD e0 I.toNat default=D.lit (.int .i64 n)/\∀ a,N<=a->ACalls
 prog 95 [.int .i64] [.bool (n==n1)] a (λb c=>a<=c->xJ Q N0 a0 e0 c0 n1 (IntKind.i64.wrap (J+b)) (IntKind.i64.wrap (I+1))
 c)) (∀ a,N<=a->Q J a)):xJ Q N0 a0 e0 c0 n1 J I N:=
  hE (H:=s8) (by kernel_rfl) h
theorem u7 (Q:QT [.str]) (N0:Nat) (U J:Nat) (a7:Option Addr) (O:List D) (c7:Nat) (Y I:Int) (r0:List D) (q0:Nat) (N:Nat) (h :
Br (decide (I<Y)) ((0<=I/\I<(O.length:Int))/\∃ n:Int,List.getD O I.toNat default=D.lit (.int .i64 n)/\∀ a,N<=a->ACalls prog 96 [.str]
 [.int .i64 n] a (λs b=>a<=b->(U=r0.length/\J=q0)/\zB r0 [D.lit (.string s)] 16/\∀ (c:Nat),xF Q N0 (r0++[D.lit (.string
 s)]).length c a7 O c7 Y (IntKind.i64.wrap (I+1)) (r0++[D.lit (.string s)]) c b)) ((U=r0.length/\J=q0)/\∀ a,ApA a r0->∀ b,N<=b->wL b
 [a]->ACalls prog 97 [.str] [.sv a 0 r0 J,.str (bytes [32])] b (λa c=>b<=c->∀ b,c<=b->Q a b))):xF Q N0 U J a7 O c7 Y I r0 q0 N:=
  hE (H:=sk) (by kernel_rfl) h
theorem ur (Q:QT [.str]) (N0:Nat) (a0:Option Addr) (e0:List D) (c0 O J:Nat) (I:Int) (r0:List D) (U:Nat) (N:Nat) (h :
Br (decide (I<(e0.length:Int))) ((0<=I/\I<(e0.length:Int))/\∃ n:Int,List.getD e0 I.toNat default=D.lit (.int .i64 n)/\∀ a,N<=a->ACalls
 prog 98 [.str] [.int .i64 n] a (λs b=>a<=b->(O=r0.length/\J=U)/\zB r0 [D.lit (.string s)] 16/\∀ (c:Nat),xE Q N0
 a0 e0 c0 (r0++[D.lit (.string s)]).length c (IntKind.i64.wrap (I+1)) (r0++[D.lit (.string s)]) c b)) ((O=r0.length/\J=U)/\∀ a,ApA a r0->∀ b,
 N<=b->wL b [a]->ACalls prog 99 [.str] [.sv a 0 r0 J,.str (bytes [32])] b (λa c=>b<=c->∀ b,c<=b->Q a b))):xE Q N0 a0 e0 c0 O J I r0 U N:=
  hE (H:=sV) (by kernel_rfl) h
theorem tf (Q:QT [.bool]) (N0:Nat) (a0:Option Addr) (e0:List D) (c0:Nat) (J:Option Addr) (e1:List D) (O:Nat) (I:Int) (N:Nat) (h :
Br (decide (I<(e0.length:Int))) ((0<=I/\I<(e0.length:Int))/\∃ n:Int,List.getD e0 I.toNat default=D.lit (.int .i64 n)/\(0<=I/\I<(e1.length
 : Int))/\∃ a:Int,List.getD e1 I.toNat default=D.lit (.int .i64 a)/\Br (bne n a) (∀ a,N<=a->Q false a) (xZ Q N0 a0 e0 c0 J
 e1 O (IntKind.i64.wrap (I+1)) N)) (∀ a,N<=a->Q true a)):xZ Q N0 a0 e0 c0 J e1 O I N:=
  hE (H:=rQ) (by kernel_rfl) h
theorem uq (Q:QT [.bool]) (N0:Nat) (a5:Option Addr) (e5:List D) (c5:Nat) (n12 n13:Int) (y0 y1:D) (N:Nat) (h :
Br (decide (n13<=8)) (∀ a,N<=a->ACalls prog 37 [.int .i64] [.sv a5 0 e5 c5,.int .i64 n13] a (fun n b=>a<=b->xC Q N0 a5 e5 c5
 (IntKind.i64.wrap (n12+n)) (IntKind.i64.wrap (n13+1)) y0 y1 b)) (Br (n12==(e5.length:Int)) (∃ a:Int,(y1.cell 0)=D.lit (.int .i64 a)/\Br (bne
 a 1) (∀ a,N<=a->Q true a) (∃ a:Int,(y1.cell 10)=D.lit (.int .i64 a)/\∀ c,N<=c->ACalls prog 42 [.ag 9] [.dg 9 y0,.int .i64 a] c (fun
 x a=>c<=a->Bel a x->∀ c,a<=c->ACalls prog 41 [.bool] [.dg 9 x,.dg 9 (D.sub y1 1 9)] c (fun b a=>c<=a->∀ c,a<=c->Q b c))))
 (∀ a,N<=a->Q false a))):xC Q N0 a5 e5 c5 n12 n13 y0 y1 N:=
  hE (H:=rh) (by kernel_rfl) h
theorem sR (E:Env) (Q:QT [(Sh.sl 0),(Sh.sl 0),(Sh.int IntKind.i64),(Sh.int IntKind.i64)]) (N0:Nat) (m3 c3:Nat) (n4 n5:Int) (I:Option Addr) (J:List D) (O:Nat) (U Y:Int) (r1:List D) (q1:Nat) (N:Nat) (h :
Br (decide (n5<n4)) (∀ b,N<=b->BCalls prog 89 [.int .i64,.sl 0,.int .i64,.int .i64] [.pb 0 0 0 0,.int .i64 10] [Bx.var [.sv I 0 J O,.int .i64
 U,.int .i64 Y]] b (λn a c d e f g=>b<=g->Bel g (D.sl a 0 c d)->(m3=r1.length/\c3=q1)/\zB r1 [D.lit (.int .i64 n)] 8/\∀
 (b:Nat),xu E Q N0 (r1++[D.lit (.int .i64 n)]).length b n4 (IntKind.i64.wrap (n5+1)) a c d e f (r1++[D.lit (.int .i64 n)]) b g))
 ((m3=r1.length/\c3=q1)/\(m3=r1.length/\c3=q1)/\(m3=r1.length/\c3=q1)/\∀ a b,N<=b->Fresh N0 b a [D.ag r1]->zN E [.var [.sv none
 0 [] 0,.int .i64 0,.int .i64 0]]/\∀ c,b<=c->Q a r1 q1 I J O U Y c)):xu E Q N0 m3 c3 n4 n5 I J O U Y r1 q1 N:=
  hE (H:=pA) (by kernel_rfl) h
end Go.Proofs.YtmfjakahanbnlaaGreatDoor
