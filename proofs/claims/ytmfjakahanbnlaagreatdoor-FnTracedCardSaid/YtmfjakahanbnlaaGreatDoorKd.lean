/- Printed by gen.py: what the functions come to. -/
import Derived.Test.YtmfjakahanbnlaaGreatDoorJh
set_option linter.unusedVariables false
set_option maxRecDepth 100000
namespace Go.Proofs.YtmfjakahanbnlaaGreatDoor
open Go Go.Proofs Go.Proofs.Tryz
def zCN:Hint:=⟨[hc 3 [0,3,4]],[],[]⟩
def zHI:Hint:=⟨[],[],[(2,[en 0,en 1,en 2,en 3,en 4,en 5,en 6,en 7,en 8,en 9,en 10,en 11,en 12]),(3,[en 0,en 1,en 2,en 3,en 4,en 5,en 6,en 7,en 8,en 9]),(4,[en 0,en 1,en 2,en 3,en 4,en 5,en 6,en 7,en 8,en 9,en 10,en 11,en 12,en 13,eh 14])]⟩
def zF1:Hint:=⟨[],[],[]⟩
def zH1:Hint:=⟨[],[],[]⟩
def zH4:Hint:=⟨[],[],[]⟩
def zCo:Hint:=⟨[],[],[]⟩
def qy:Hint:=⟨[hc 3 [0,1,3,6,8,10,11] [(10,35,9)]],[],[(5,[en 0,en 1,en 2,en 3,en 4,en 5,en 6,en 7,en 8,en 9,en 10,en 11,en 12,en 13,ec 14 [31,32],en 15,en 16,en 17,en 18,en 19,en 20,en 21,en 22,en 24,eh 23,en 25,en 26])]⟩
def zGE:Hint:=⟨[],[],[(7,[en 0,en 1,en 2,en 3,en 4,en 5,en 6,en 7,en 8,en 9,eh 10,ec 11 [24,31],eh 12])]⟩
def zK7:Hint:=⟨[],[],[]⟩
def zDq:Hint:=⟨[],[],[]⟩
def zIz:Hint:=⟨[],[],[(3,hs 3 [ec 1 [13]]),(5,hs 4 [ec 2 [17,18]])]⟩
def zHr:Hint:=⟨[],[],[(2,hs 7 [ec 4 [9]])]⟩
def zKJ:Hint:=⟨[],[],[(4,[en 0,en 1,en 3,en 4,en 5,en 7,en 8,en 9,en 10,en 11,en 12,en 14,en 15,en 16,en 17,en 18,en 19,eh 2,eh 6,eh 13,eh 20,en 21,eh 22,eh 23]),(7,[en 0,en 1,en 2,en 3,en 4,en 5,en 6,en 8,en 9,en 10,en 11,en 12,en 14,en 15,en 16,en 17,eh 7,ec 13 [60],eh 18,ec 19 [56,67],eh 20]),(10,[en 0,en 1,en 2,en 3,en 4,en 5,en 6,en 8,en 9,en 10,en 11,en 14,en 15,en 16,en 17,en 18,en 19,ec 7 [79],eh 12,ec 13 [75,86],eh 20,en 21,eh 22,eh 23]),(12,hs 5 [ec 2 [100]]),(13,[en 0,en 1,en 2,en 4,en 6,en 7,en 8,eh 3,ec 5 [108],eh 9,en 10,eh 11,eh 12]),(15,hs 12 [ec 3 [120]])]⟩
def zHk:Hint:=⟨[],[],[(4,[en 0,en 1,en 3,en 4,en 5,en 6,en 7,en 8,en 10,en 11,en 12,en 13,en 14,en 15,eh 2,eh 9,eh 16,en 17,eh 18,eh 19]),(9,[en 0,en 1,en 3,en 4,en 5,en 6,en 7,en 8,en 10,en 11,en 12,en 13,en 14,en 15,eh 2,eh 9,eh 16,en 17,eh 18,eh 19]),(10,[en 0,en 1,en 3,en 4,en 5,en 6,en 7,en 8,en 10,en 11,en 12,en 13,en 14,en 15,eh 2,eh 9,eh 16,en 17,eh 18,eh 19])]⟩
def rU:Hint:=⟨[],[hc 5 [0,1,3,4,7,10],hc 18 [0,1,3,4,7,10]],[(15,[en 0,en 1,en 2,en 3,en 4,en 5,en 6,en 7,en 8,en 9,en 10,en 11,en 12,en 14,en 15,en 16,en 17,en 18,en 19,en 20,ec 13 [68],eh 21,ec 22 [61,78],eh 23]),(16,hs 9 [ec 4 [83]])]⟩
def zE2:Hint:=⟨[],[],[(4,[en 0,en 2,en 4,en 5,en 8,en 9,en 11,en 14,en 15,en 18,en 22,eh 1,eh 3,eh 6,eh 7,eh 10,eh 12,eh 13,eh 16,en 17,eh 19,en 20,en 21,eh 23]),(5,[en 0,en 1,en 2,en 3,eh 4,en 5,ec 6 [33],eh 7])]⟩
def zFr:Hint:=⟨[],[],[(5,[en 0,en 1,en 2,eh 3,eh 4,en 5])]⟩
def pq:Hint:=⟨[],[],[]⟩
def vK (Q:QT [.cu]) (N0:Nat) (a0:Option Addr) (e0:List D) (c0:Nat) (I J:Int) (N:Nat):Prop:=AT prog 87 [.cu] Q N0 .ord (zC prog 87 3) ⟨.sv a0 0 e0 c0::an 2 (.int .i64 I::.int .i64 J::an 27 []),[],N,none⟩
def xi (E:Env) (Q:QT [(Sh.ag 9),(Sh.sl 0),(Sh.int IntKind.i64),(Sh.int IntKind.i64)]) (N0:Nat) (a1:Option Addr) (e1:List D) (c1:Nat) (n3 n4:Int) (I:Option Addr) (J:List D) (O:Nat) (U Y:Int) (y1:D) (aa:Int) (ab ac:ByteArray) (ae ah:Int) (ai:Option Addr) (aj:List D) (ak:Nat) (al:Int) (am:Option Addr) (ao:List D) (aq:Nat) (au:Option Addr) (aw:List D) (ax:Nat) (N:Nat):Prop:=AT prog 154 [(Sh.ag 9),(Sh.sl 0),(Sh.int IntKind.i64),(Sh.int IntKind.i64)] Q N0 (.io E [.var [.sv none 0 [] 0,.int .i64 0,.int .i64 0]]) (zBD prog 154 5) ⟨.pb 0 0 0 0::.sv a1 4 e1 c1::an 1 (.int .i64 n3::.int .i64 n4::an 2 (.pb 1 0 0 0::an 2 (.pb 2 0 0 0::an 103 []))),[.var [.sv I 0 J O,.int .i64 U,.int .i64 Y],.vd y1 2,.var [.int .i64 aa,.str ab,.str ac,.int .i64 ae,.int .i64 ah,.sv ai 2 aj ak,.int .i64 al,.sv am 2 ao aq,.sv au 9 aw ax]],N,some (yu E 0 [.var [.sv none 0 [] 0,.int .i64 0,.int .i64 0]],[])⟩
def zg (E:Env) (Q:QT [(Sh.ag 9),Sh.bool,(Sh.sl 0),(Sh.int IntKind.i64),(Sh.int IntKind.i64)]) (N0:Nat) (a1:Option Addr) (e1:List D) (c1:Nat) (n3:Int) (ay az:Nat) (a6:Int) (I:Option Addr) (J:List D) (O:Nat) (U Y:Int) (y1:D) (aa:Int) (ab ac:ByteArray) (ae ah:Int) (ai:Option Addr) (aj:List D) (ak:Nat) (al:Int) (am:Option Addr) (ao:List D) (aq:Nat) (au:Option Addr) (aw:List D) (ax:Nat) (r3:List D) (q3:Nat) (N:Nat):Prop:=AT prog 212 [(Sh.ag 9),Sh.bool,(Sh.sl 0),(Sh.int IntKind.i64),(Sh.int IntKind.i64)] Q N0 (.io E [.var [.sv none 0 [] 0,.int .i64 0,.int .i64 0]]) (zC prog 212 3) ⟨.pb 0 0 0 0::.sv a1 4 e1 c1::an 1 (.int .i64 n3::an 2 (.pb 1 0 0 0::an 1 (.pb 2 0 0 0::an 1 (.sb 3 9 0 ay az::.int .i64 a6::an 54 [])))),[.var [.sv I 0 J O,.int .i64 U,.int .i64 Y],.vd y1 2,.var [.int .i64 aa,.str ab,.str ac,.int .i64 ae,.int .i64 ah,.sv ai 2 aj ak,.int .i64 al,.sv am 2 ao aq,.sv au 9 aw ax],.arr 35 9 r3 q3],N,some (yu E 0 [.var [.sv none 0 [] 0,.int .i64 0,.int .i64 0]],[])⟩
def wq (E:Env) (Q:QT [(Sh.ag 9),(Sh.sl 0),(Sh.int IntKind.i64),(Sh.int IntKind.i64)]) (N0:Nat) (a1:Option Addr) (e1:List D) (c1:Nat) (n3 n4:Int) (I:Option Addr) (J:List D) (O:Nat) (U Y:Int) (y1:D) (aa:Int) (ab ac:ByteArray) (ae ah:Int) (ai:Option Addr) (aj:List D) (ak:Nat) (al:Int) (am:Option Addr) (ao:List D) (aq:Nat) (au:Option Addr) (aw:List D) (ax:Nat) (N:Nat):Prop:=AT prog 154 [(Sh.ag 9),(Sh.sl 0),(Sh.int IntKind.i64),(Sh.int IntKind.i64)] Q N0 (.io E [.var [.sv none 0 [] 0,.int .i64 0,.int .i64 0]]) (zBD prog 154 18) ⟨.pb 0 0 0 0::.sv a1 4 e1 c1::an 1 (.int .i64 n3::.int .i64 n4::an 2 (.pb 1 0 0 0::an 2 (.pb 2 0 0 0::an 103 []))),[.var [.sv I 0 J O,.int .i64 U,.int .i64 Y],.vd y1 2,.var [.int .i64 aa,.str ab,.str ac,.int .i64 ae,.int .i64 ah,.sv ai 2 aj ak,.int .i64 al,.sv am 2 ao aq,.sv au 9 aw ax]],N,some (yu E 0 [.var [.sv none 0 [] 0,.int .i64 0,.int .i64 0]],[])⟩
theorem zJr (N:Nat) (a0:Option Addr) (e0:List D) (c0:Nat) (Q:QT [.cu]) (h :
Bel N (D.sl a0 0 e0 c0)->vK Q N a0 e0 c0 (IntKind.i64.wrap (26583+(e0.length:Int))) 0 N):ACalls prog 87 [.cu] [PV.sv a0 0 e0 c0] N Q:=
 eE (H:=zCN) (by kernel_rfl) (by kernel_rfl) h
theorem zKx (N:Nat) (O:ByteArray) (I:Option Addr) (e1:List D) (J:Nat) (Q:QT [.ag 9]) (h :
Bel N (D.sl I 9 e1 J)->∀ a,N<=a->ACalls prog 210 [.ag 9] [.int .i64 4,.sv I 9 e1 J] a (λx b=>a<=b->Bel b x->∀ a,b<=a->Q (D.ag
 [(x.cell 0),D.lit (.string O),(x.cell 2),(x.cell 3),(x.cell 4),(x.cell 5),(x.cell 6),(x.cell 7),(x.cell 8)]) a)):ACalls prog 264 [.ag 9] [PV.str O,PV.sv I 9 e1 J] N Q:=
  eE (H:=zK7) (by kernel_rfl) (by kernel_rfl) h
theorem zAL (N:Nat) (I:D) (Q:QT [.int .i64]) (h :
Bel N I->∃ n:Int,(I.cell 0)=D.lit (.int .i64 n)/\Br (n==4) (∃ a b,∃ c:Nat,(I.cell 1)=D.sl a 2 b c/\((0:Int)<=(0:Int)/\0<(b.length :
 Int))/\∀ a,N<=a->ACalls prog 262 [.int .i64] [.dg 2 (List.getD b 0 default)] a (λb c=>a<=c->∀ a,c<=a->Q (IntKind.i64.wrap (1 +
 b)) a)) (∀ a,N<=a->Q 0 a)):ACalls prog 262 [.int .i64] [PV.dg 2 I] N Q:=
  eE (H:=zHr) (by kernel_rfl) (by kernel_rfl) h
theorem zFz (N:Nat) (a0:Option Addr) (e0:List D) (c0:Nat) (Q:QT [.ag 9,.int .i64]) (h :
Bel N (D.sl a0 0 e0 c0)->∀ d,N<=d->ACalls prog 87 [Sh.cu] [.sv a0 0 e0 c0] d (λa c e n f g=>d<=g->∀ d,g<=d->BCalls prog 90 [.ag
 9,.sl 0,.int .i64,.int .i64] [.pb 0 0 0 0] [Bx.var [.sv a 0 c e,.int .i64 n,.int .i64 f]] d (λx a c e f g h=>d<=h->Bel h x ->
 Bel h (D.sl a 0 c e)->∀ d,h<=d->BCalls prog 91 [.bool,.sl 0,.int .i64,.int .i64] [.pb 0 0 0 0,.int .i64 10] [Bx.var [.sv a 0 c e,.int
 .i64 f,.int .i64 g]] d (λb a c e f g h=>d<=h->Bel h (D.sl a 0 c e)->Br b (∀ b,h<=b->BCalls prog 92 [.ag 9,.sl
 0,.int .i64,.int .i64] [.pb 0 0 0 0] [Bx.var [.sv a 0 c e,.int .i64 f,.int .i64 g]] b (λa c d e f g h=>b<=h->Bel h a
 -> Bel h (D.sl c 0 d e)->∀ b,h<=b->BCalls prog 93 [.int .i64,.sl 0,.int .i64,.int .i64,.sl 0] [.pb 0 0 0 0,.sb 1 0 0 7 7] [Bx.var [.sv c
 0 d e,.int .i64 f,.int .i64 g],Bx.arr 3 0 [D.lit (.int .i64 100),D.lit (.int .i64 60),D.lit (.int .i64 200),D.lit (.int .i64 3),D.lit (.int .i64
 0),D.lit (.int .i64 201),D.lit (.int .i64 (-1))] 7] b (λc d e f _ _ g h i j=>b<=j->Bel j (D.sl d 0 e f)->Bel j
 (D.sl g 0 h i)->∀ b,j<=b->Q a c b))) (∀ b,h<=b->BCalls prog 93 [.int .i64,.sl 0,.int .i64,.int .i64,.sl 0] [.pb 0 0 0 0,
 .sb 1 0 0 7 7] [Bx.var [.sv a 0 c e,.int .i64 f,.int .i64 g],Bx.arr 3 0 [D.lit (.int .i64 100),D.lit (.int .i64 60),D.lit (.int .i64 200),D.lit
 (.int .i64 3),D.lit (.int .i64 0),D.lit (.int .i64 201),D.lit (.int .i64 (-1))] 7] b (λa c d e _ _ f g h i=>b<=i->Bel
 i (D.sl c 0 d e)->Bel i (D.sl f 0 g h)->∀ b,i<=b->Q x a b)))))):ACalls prog 79 [.ag 9,.int .i64] [PV.sv a0 0 e0 c0] N Q:=
  eE (H:=zFr) (by kernel_rfl) (by kernel_rfl) h
theorem p9 (N:Nat) (a0:Option Addr) (e0:List D) (c0:Nat) (Q:QT [.ag 9,.int .i64]) (h :
Bel N (D.sl a0 0 e0 c0)->∀ a,N<=a->ACalls prog 79 [.ag 9,.int .i64] [.sv a0 0 e0 c0] a (λx n b=>a<=b->Bel b x->∀ a,b<=a->Q x
 n a)):ACalls prog 29 [.ag 9,.int .i64] [PV.sv a0 0 e0 c0] N Q:=
  eE (H:=pq) (by kernel_rfl) (by kernel_rfl) h
theorem qz (Q:QT [.cu]) (N0:Nat) (a0:Option Addr) (e0:List D) (c0:Nat) (J I:Int) (N:Nat) (h :
Br (decide (I<(e0.length:Int))) (Br (decide (I<4000)) ((0<=I/\I<(e0.length:Int))/\∃ n:Int,List.getD e0 I.toNat default=D.lit (.int IntKind.u8
 n)/\vK Q N0 a0 e0 c0 (IntKind.i64.wrap (BitVec.toNat (HAnd.hAnd (BitVec.ofInt 64 (IntKind.i64.wrap (IntKind.i64.wrap (IntKind.i64.wrap (J*131) +
 IntKind.i64.wrap n)+7))) (BitVec.ofInt 64 1073741823)):Int)) (IntKind.i64.wrap (I+1)) N) (∀ a,N<=a->Q a0 e0 c0 0 J a)) (∀ a,N<=a->Q a0 e0
 c0 0 J a)):vK Q N0 a0 e0 c0 J I N:=
  hE (H:=zCN) (by kernel_rfl) h
theorem zBI (N:Nat) (I:Option Addr) (J:List D) (O:Nat) (U Y:Int) (Q:QT [(Sh.ag 9),(Sh.sl 0),(Sh.int IntKind.i64),(Sh.int IntKind.i64)]) (h:∀ E:Env,
Bel N (D.sl I 0 J O)->∀ d,N<=d->BCalls prog 91 [.bool,.sl 0,.int .i64,.int .i64] [.pb 0 0 0 0,.int .i64 4] [Bx.var [.sv I 0 J O,
 .int .i64 U,.int .i64 Y]] d (λb a c e n f g=>d<=g->Bel g (D.sl a 0 c e)->Br b (∀ b,g<=b->BCalls prog 149 [.ag 9,.sl 0,.int
 .i64,.int .i64] [.pb 0 0 0 0] [Bx.var [.sv a 0 c e,.int .i64 n,.int .i64 f]] b (λx a c d e f g=>b<=g->Bel g x->Bel g (D.sl a
 0 c d)->zN E [.var [.sv none 0 [] 0,.int .i64 0,.int .i64 0]]/\∀ b,g<=b->Q x a c d e f b)) (∀ b,g<=b->ACalls prog 150 [.ag
 2] [] b (λd g=>b<=g->Bel g d->∀ b,g<=b->ACalls prog 151 [.ag 2] [] b (λg h=>b<=h->Bel h g->∀ b,h<=b
 -> ACalls prog 152 [.ag 2] [.dg 2 d] b (λh i=>b<=i->Bel i h->∀ b,i<=b->ACalls prog 153 [.ag 2] [.dg 2 d,.dg 2 d] b
 (λi j=>b<=j->Bel j i->∀ b,j<=b->ACalls prog 152 [.ag 2] [.dg 2 i] b (λi j=>b<=j->Bel j i->∀ b,
 j<=b->ACalls prog 153 [.ag 2] [.dg 2 d,.dg 2 d] b (λj k=>b<=k->Bel k j->∀ b,k<=b->ACalls prog 152 [.ag 2] [.dg
 2 d] b (λk l=>b<=l->Bel l k->∀ b,l<=b->ACalls prog 152 [.ag 2] [.dg 2 k] b (λk l=>b<=l->Bel l
 k->∀ b,l<=b->ACalls prog 152 [.ag 2] [.dg 2 d] b (λl m=>b<=m->Bel m l->∀ b,m<=b->BCalls prog 89 [.int .i64,
 .sl 0,.int .i64,.int .i64] [.pb 0 0 0 0,.int .i64 8] [Bx.var [.sv a 0 c e,.int .i64 n,.int .i64 f]] b (λa c e f m n o=>b<=o
 -> Bel o (D.sl c 0 e f)->(0<=a/\a<8/\(0+a.toNat:Nat)<([d,g,h,i,j,k,d,l]).length)/\(0+a.toNat:Nat)<([d,
 g,h,i,j,k,d,l]).length/\∀ b,o<=b->BCalls prog 89 [.int .i64,.sl 0,.int .i64,.int .i64] [.pb 0 0 0 0,.int .i64 3] [Bx.var [.sv
 c 0 e f,.int .i64 m,.int .i64 n]] b (λc e f m n o p=>b<=p->Bel p (D.sl e 0 f m)->(0=0/\0=0)/\∀ b
 q,p<=q->Fresh N q b [D.ag []]->∀ p,q<=p->BCalls prog 154 [.ag 9,.sl 0,.int .i64,.int .i64] [.pb 0 0 0 0,.sv b 4 [] 0,.dg 2 (List.getD
 [d,g,h,i,j,k,d,l] (0+a.toNat:Nat) default),.int .i64 0,.int .i64 (IntKind.i64.wrap (3+c))] [Bx.var [.sv e 0 f m,.int .i64
 n,.int .i64 o]] p (λa b c d e f g=>p<=g->Bel g a->Bel g (D.sl b 0 c d)->zN E [.var [.sv none 0 [] 0,
 .int .i64 0,.int .i64 0]]/\∀ h,g<=h->Q a b c d e f h))))))))))))))):BCalls prog 90 [(Sh.ag 9),(Sh.sl 0),(Sh.int IntKind.i64),(Sh.int IntKind.i64)] [.pb 0 0 0 0] [.var [.sv I 0 J O,.int .i64 U,.int .i64 Y]] N Q:=
  bE (H:=zE2) (by kernel_rfl) (λE=>by kernel_rfl) h
theorem zC2 (N:Nat) (n1:Int) (I:Option Addr) (J:List D) (O:Nat) (U Y:Int) (Q:QT [Sh.bool,(Sh.sl 0),(Sh.int IntKind.i64),(Sh.int IntKind.i64)]) (h:∀ E:Env,
Bel N (D.sl I 0 J O)->∀ b,N<=b->BCalls prog 89 [.int .i64,.sl 0,.int .i64,.int .i64] [.pb 0 0 0 0,.int .i64 n1] [Bx.var [.sv I 0 J
 O,.int .i64 U,.int .i64 Y]] b (λn a c d e f g=>b<=g->Bel g (D.sl a 0 c d)->zN E [.var [.sv none 0 [] 0,.int .i64 0,.int
 .i64 0]]/\∀ b,g<=b->Q (n==0) a c d e f b)):BCalls prog 91 [Sh.bool,(Sh.sl 0),(Sh.int IntKind.i64),(Sh.int IntKind.i64)] [.pb 0 0 0 0,.int .i64 n1] [.var [.sv I 0 J O,.int .i64 U,.int .i64 Y]] N Q:=
  bE (H:=zH1) (by kernel_rfl) (λE=>by kernel_rfl) h
theorem pT (N:Nat) (m1 c1:Nat) (I:Option Addr) (J:List D) (O:Nat) (Y aa:Int) (U:List D) (ab:Nat) (Q:QT [(Sh.int IntKind.i64),(Sh.sl 0),(Sh.int IntKind.i64),(Sh.int IntKind.i64),(Sh.sl 0)]) (h:∀ E:Env,
Bel N (D.sl I 0 J O)->Bel N (D.sl Option.none 0 U ab)->∀ b,N<=b->BCalls prog 89 [.int .i64,.sl 0,.int .i64,.int .i64] [.pb 0 0 0 0,.int
 .i64 (m1:Int)] [Bx.var [.sv I 0 J O,.int .i64 Y,.int .i64 aa]] b (λn a c d e f g=>b<=g->Bel g (D.sl a 0 c d)->(0 <=
 n/\n<(m1:Int)/\(0+n.toNat:Nat)<U.length)/\(0+n.toNat:Nat)<U.length/\∃ b:Int,List.getD U (0+n.toNat:Nat) default=D.lit (.int
 .i64 b)/\zN E [.var [.sv none 0 [] 0,.int .i64 0,.int .i64 0],.arr 3 0 [] 0]/\∀ h,g<=h->Q b a c d e f Option.none U ab h)):BCalls prog 93 [(Sh.int IntKind.i64),(Sh.sl 0),(Sh.int IntKind.i64),(Sh.int IntKind.i64),(Sh.sl 0)] [.pb 0 0 0 0,.sb 1 0 0 m1 c1] [.var [.sv I 0 J O,.int .i64 Y,.int .i64 aa],.arr 3 0 U ab] N Q:=
  bE (H:=zCo) (by kernel_rfl) (λE=>by kernel_rfl) h
theorem zAs (N:Nat) (I:Option Addr) (J:List D) (O:Nat) (U Y:Int) (Q:QT [(Sh.ag 9),(Sh.sl 0),(Sh.int IntKind.i64),(Sh.int IntKind.i64)]) (h:∀ E:Env,
Bel N (D.sl I 0 J O)->∀ d,N<=d->BCalls prog 156 [.str,.sl 0,.int .i64,.int .i64,.sl 0] [.pb 0 0 0 0,.sb 1 0 0 11 11] [Bx.var [.sv I
 0 J O,.int .i64 U,.int .i64 Y],Bx.arr 9 0 [D.lit (.string (bytes [60,40,92,120,58,73,46,126,40,40,114,101,99,32,112,32,110,58,
 73,62,60,73,62,46,40,105,102,32,40,110,61,48,41,32,60,49,62,32,60,40,120,42,126,40,112,32,40,110,45,49,41,41,41,62,41,41,32,
 51,41,41,62])),D.lit (.string (bytes [40,40,114,117,110,32,60,40,92,120,58,73,46,126,40,40,114,101,99,32,112,32,110,58,73,62,60,73,
 62,46,40,105,102,32,40,110,61,48,41,32,60,49,62,32,60,40,120,42,126,40,112,32,40,110,45,49,41,41,41,62,41,41,32,51,41,41,62,
 41,32,50,41])),D.lit (.string (bytes [40,108,101,116,32,99,61,60,40,49,43,50,41,62,32,60,40,126,99,42,126,99,41,62,41])),D.lit (.string
 (bytes [60,40,92,121,58,73,46,126,40,40,92,122,58,60,73,62,46,60,40,92,121,58,73,46,40,126,122,43,121,41,41,62,41,32,60,121,62,
 41,41,62])),D.lit (.string (bytes [40,114,117,110,32,60,40,114,117,110,32,60,53,62,41,62,41])),D.lit (.string (bytes [40,108,101,116,32,
 110,61,55,32,40,114,117,110,32,60,126,40,108,105,102,116,32,40,110,42,110,41,41,62,41,41])),D.lit (.string (bytes [40,40,114,101,99,
 32,102,32,120,58,73,62,73,46,40,105,102,32,40,120,60,49,41,32,48,32,40,120,43,40,102,32,40,120,45,49,41,41,41,41,41,32,52,41])),
 D.lit (.string (bytes [40,40,114,101,99,32,102,32,120,58,73,62,73,46,40,102,32,120,41,41,32,49,41])),D.lit (.string (bytes [60,60,126,40,
 108,105,102,116,32,51,41,62,62])),D.lit (.string (bytes [40,114,117,110,32,60,40,92,102,58,40,73,62,73,41,46,40,102,32,50,41,41,62,
 41])),D.lit (.string (bytes [60,40,108,101,116,32,103,61,40,92,120,58,73,46,120,41,32,126,40,105,102,32,35,116,32,60,40,103,32,49,
 41,62,32,60,50,62,41,41,62]))] 11] d (λs a c e n f g h i j=>d<=j->Bel j (D.sl a 0 c e)->Bel j (D.sl g 0 h i)->∀ d,
 j<=d->ACalls prog 211 [.ag 9,.bool] [.str s] d (λx _ b=>d<=b->Bel b x->zN E [.var [.sv none 0 [] 0,.int .i64 0,.int .i64 0]]/\∀ d,
 b<=d->Q x a c e n f d))):BCalls prog 149 [(Sh.ag 9),(Sh.sl 0),(Sh.int IntKind.i64),(Sh.int IntKind.i64)] [.pb 0 0 0 0] [.var [.sv I 0 J O,.int .i64 U,.int .i64 Y]] N Q:=
  bE (H:=zDq) (by kernel_rfl) (λE=>by kernel_rfl) h
theorem zBd (N:Nat) (n1:Int) (I:Option Addr) (J:List D) (O:Nat) (U Y:Int) (Q:QT [(Sh.int IntKind.i64),(Sh.sl 0),(Sh.int IntKind.i64),(Sh.int IntKind.i64)]) (h:∀ E:Env,
Bel N (D.sl I 0 J O)->Br (decide (n1<=0)) (zN E [.var [.sv none 0 [] 0,.int .i64 0,.int .i64 0]]/\∀ a,N<=a->Q 0 I J O U
 Y a) (Br (decide (n1<=256)) (∀ b,N<=b->BCalls prog 148 [.int .i64,.sl 0,.int .i64,.int .i64] [.pb 0 0 0 0] [Bx.var [.sv I 0 J O,.int
 .i64 U,.int .i64 Y]] b (λn a c d e f g=>b<=g->Bel g (D.sl a 0 c d)->n1≠0/\zN E [.var [.sv none 0 [] 0,.int .i64 0,.int .i64
 0]]/\∀ b,g<=b->Q (Int.tmod n n1) a c d e f b)) (∀ a,N<=a->BCalls prog 148 [.int .i64,.sl 0,.int .i64,.int .i64] [.pb 0 0 0 0] [Bx.var
 [.sv I 0 J O,.int .i64 U,.int .i64 Y]] a (λb c d e f g h=>a<=h->Bel h (D.sl c 0 d e)->∀ a,h<=a
 -> BCalls prog 148 [.int .i64,.sl 0,.int .i64,.int .i64] [.pb 0 0 0 0] [Bx.var [.sv c 0 d e,.int .i64 f,.int .i64 g]] a (λc d e f g
 h i=>a<=i->Bel i (D.sl d 0 e f)->∀ a,i<=a->BCalls prog 148 [.int .i64,.sl 0,.int .i64,.int .i64] [.pb 0 0 0 0] [Bx.var [.sv d
 0 e f,.int .i64 g,.int .i64 h]] a (λd e f g h i j=>a<=j->Bel j (D.sl e 0 f g)->∀ a,j<=a->BCalls
 prog 148 [.int .i64,.sl 0,.int .i64,.int .i64] [.pb 0 0 0 0] [Bx.var [.sv e 0 f g,.int .i64 h,.int .i64 i]] a (λe f g h i j
 k=>a<=k->Bel k (D.sl f 0 g h)->n1≠0/\zN E [.var [.sv none 0 [] 0,.int .i64 0,.int .i64 0]]/\∀ a,k<=a->Q (Int.tmod (IntKind.i64.wrap
 (IntKind.i64.wrap (IntKind.i64.wrap (IntKind.i64.wrap (b*16777216)+IntKind.i64.wrap (c*65536))+IntKind.i64.wrap (d*256))+e)) n1) f g h
 i j a))))))):BCalls prog 89 [(Sh.int IntKind.i64),(Sh.sl 0),(Sh.int IntKind.i64),(Sh.int IntKind.i64)] [.pb 0 0 0 0,.int .i64 n1] [.var [.sv I 0 J O,.int .i64 U,.int .i64 Y]] N Q:=
  bE (H:=zF1) (by kernel_rfl) (λE=>by kernel_rfl) h
theorem qH (N:Nat) (a1:Option Addr) (e1:List D) (c1:Nat) (x2:D) (n3 n4:Int) (I:Option Addr) (J:List D) (O:Nat) (U Y:Int) (Q:QT [(Sh.ag 9),(Sh.sl 0),(Sh.int IntKind.i64),(Sh.int IntKind.i64)]) (h:∀ E:Env,
Bel N (D.sl a1 4 e1 c1)->Bel N x2->Bel N (D.sl I 0 J O)->∀ d,N<=d->BCalls prog 91 [.bool,.sl 0,.int .i64,.int .i64] [.pb 0 0 0 0,.int .i64
 3] [Bx.var [.sv I 0 J O,.int .i64 U,.int .i64 Y]] d (λb a c e n f g=>d<=g->Bel g (D.sl a 0 c e)->Br (!b) (∀ b,g
 <= b->BCalls prog 212 [.ag 9,.bool,.sl 0,.int .i64,.int .i64] [.pb 0 0 0 0,.sv a1 4 e1 c1,.dg 2 x2,.int .i64 n3] [Bx.var [.sv a 0 c e,.int .i64 n,.int
 .i64 f]] b (λx a c d e f g h=>b<=h->Bel h x->Bel h (D.sl c 0 d e)->Br a (zN E [.var [.sv none 0 [] 0,.int .i64 0,
 .int .i64 0]]/\∀ a,h<=a->Q x c d e f g a) (xi E Q N a1 e1 c1 n3 n4 c d e f g x2 0 (bytes []) (bytes []) 0 0 Option.none
 [] 0 0 Option.none [] 0 Option.none [] 0 h))) (xi E Q N a1 e1 c1 n3 n4 a c e n f x2 0 (bytes []) (bytes []) 0 0 Option.none [] 0 0 Option.none []
 0 Option.none [] 0 g))):BCalls prog 154 [(Sh.ag 9),(Sh.sl 0),(Sh.int IntKind.i64),(Sh.int IntKind.i64)] [.pb 0 0 0 0,.sv a1 4 e1 c1,.dg 2 x2,.int .i64 n3,.int .i64 n4] [.var [.sv I 0 J O,.int .i64 U,.int .i64 Y]] N Q:=
  bE (H:=rU) (by kernel_rfl) (λE=>by kernel_rfl) h
theorem zCd (N:Nat) (m1 c1:Nat) (I:Option Addr) (J:List D) (O:Nat) (Y aa:Int) (U:List D) (ab:Nat) (Q:QT [Sh.str,(Sh.sl 0),(Sh.int IntKind.i64),(Sh.int IntKind.i64),(Sh.sl 0)]) (h:∀ E:Env,
Bel N (D.sl I 0 J O)->Bel N (D.sl Option.none 0 U ab)->∀ b,N<=b->BCalls prog 89 [.int .i64,.sl 0,.int .i64,.int .i64] [.pb 0 0 0 0,.int
 .i64 (m1:Int)] [Bx.var [.sv I 0 J O,.int .i64 Y,.int .i64 aa]] b (λn a c d e f g=>b<=g->Bel g (D.sl a 0 c d)->(0 <=
 n/\n<(m1:Int)/\(0+n.toNat:Nat)<U.length)/\(0+n.toNat:Nat)<U.length/\∃ s,List.getD U (0+n.toNat:Nat) default=D.lit (.string s) /\
 zN E [.var [.sv none 0 [] 0,.int .i64 0,.int .i64 0],.arr 9 0 [] 0]/\∀ b,g<=b->Q s a c d e f Option.none U ab b)):BCalls prog 156 [Sh.str,(Sh.sl 0),(Sh.int IntKind.i64),(Sh.int IntKind.i64),(Sh.sl 0)] [.pb 0 0 0 0,.sb 1 0 0 m1 c1] [.var [.sv I 0 J O,.int .i64 Y,.int .i64 aa],.arr 9 0 U ab] N Q:=
  bE (H:=zH4) (by kernel_rfl) (λE=>by kernel_rfl) h
theorem zDG (N:Nat) (U:Option Addr) (I:List D) (Y:Nat) (J O:Int) (Q:QT [(Sh.int IntKind.i64),(Sh.sl 0),(Sh.int IntKind.i64),(Sh.int IntKind.i64)]) (h:∀ E:Env,
Bel N (D.sl U 0 I Y)->(0:Int)<=(33:Int)/\(0:Int)<=(45:Int)/\Br (decide (J<(I.length:Int))) ((0<=J/\J<(I.length
 : Int))/\∃ n:Int,List.getD I J.toNat default=D.lit (.int IntKind.u8 n)/\zN E [.var [.sv none 0 [] 0,.int .i64 0,.int .i64 0]]/\∀ a,N<=a
 -> Q (IntKind.i64.wrap (BitVec.toNat (HAnd.hAnd (BitVec.ofInt 64 (IntKind.i64.wrap (IntKind.i64.wrap (BitVec.toNat (HAnd.hAnd (BitVec.ofInt 64 (IntKind.i64.wrap (BitVec.toNat
 (HXor.hXor (BitVec.ofInt 64 (Int.fdiv (IntKind.i64.wrap (IntKind.i64.wrap (O*6364136223846793005)+1442695040888963407)) 8589934592)) (BitVec.ofInt 64 (Int.fdiv
 (IntKind.i64.wrap (IntKind.i64.wrap (O*6364136223846793005)+1442695040888963407)) 35184372088832))):Int))) (BitVec.ofInt 64 255)):Int)+IntKind.i64.wrap
 n))) (BitVec.ofInt 64 255)):Int)) U I Y (IntKind.i64.wrap (J+1)) (IntKind.i64.wrap (IntKind.i64.wrap (O*6364136223846793005)+1442695040888963407))
 a) (zN E [.var [.sv none 0 [] 0,.int .i64 0,.int .i64 0]]/\∀ a,N<=a->Q (IntKind.i64.wrap (BitVec.toNat (HAnd.hAnd (BitVec.ofInt 64 (IntKind.i64.wrap
 (BitVec.toNat (HXor.hXor (BitVec.ofInt 64 (Int.fdiv (IntKind.i64.wrap (IntKind.i64.wrap (O*6364136223846793005)+1442695040888963407)) 8589934592)) (BitVec.ofInt
 64 (Int.fdiv (IntKind.i64.wrap (IntKind.i64.wrap (O*6364136223846793005)+1442695040888963407)) 35184372088832))):Int))) (BitVec.ofInt 64 255)):Int))
 U I Y J (IntKind.i64.wrap (IntKind.i64.wrap (O*6364136223846793005)+1442695040888963407)) a)):BCalls prog 148 [(Sh.int IntKind.i64),(Sh.sl 0),(Sh.int IntKind.i64),(Sh.int IntKind.i64)] [.pb 0 0 0 0] [.var [.sv U 0 I Y,.int .i64 J,.int .i64 O]] N Q:=
  bE (H:=zHI) (by kernel_rfl) (λE=>by kernel_rfl) h
theorem zBZ (N:Nat) (a1:Option Addr) (e1:List D) (c1:Nat) (x2:D) (n3:Int) (I:Option Addr) (J:List D) (O:Nat) (U Y:Int) (Q:QT [(Sh.ag 9),Sh.bool,(Sh.sl 0),(Sh.int IntKind.i64),(Sh.int IntKind.i64)]) (h:∀ E:Env,
Bel N (D.sl a1 4 e1 c1)->Bel N x2->Bel N (D.sl I 0 J O)->zg E Q N a1 e1 c1 n3 0 0 0 I J O U Y x2 0 (bytes []) (bytes
 []) 0 0 Option.none [] 0 0 Option.none [] 0 Option.none [] 0 [] 0 N):BCalls prog 212 [(Sh.ag 9),Sh.bool,(Sh.sl 0),(Sh.int IntKind.i64),(Sh.int IntKind.i64)] [.pb 0 0 0 0,.sv a1 4 e1 c1,.dg 2 x2,.int .i64 n3] [.var [.sv I 0 J O,.int .i64 U,.int .i64 Y]] N Q:=
  bE (H:=qy) (by kernel_rfl) (λE=>by kernel_rfl) h
theorem pM (E:Env) (Q:QT [(Sh.ag 9),(Sh.sl 0),(Sh.int IntKind.i64),(Sh.int IntKind.i64)]) (N0:Nat) (a1:Option Addr) (e1:List D) (c1:Nat) (n3 n4:Int) (J:Option Addr) (O:List D) (U:Nat) (Y aa:Int) (I:D) (ab:Int) (ac ae:ByteArray) (ah ai:Int) (aj:Option Addr) (ak:List D) (al:Nat) (am:Int) (ao:Option Addr) (aq:List D) (au:Nat) (aw:Option Addr) (ax:List D) (ay:Nat) (N:Nat) (h :
Br (decide (n4<2)) (∀ b,N<=b->BCalls prog 213 [.ag 9,.sl 0,.int .i64,.int .i64] [.pb 0 0 0 0,.dg 2 I,.int .i64 n3] [Bx.var [.sv J 0 O U,
 .int .i64 Y,.int .i64 aa]] b (λx a c d n e f=>b<=f->Bel f x->Bel f (D.sl a 0 c d)->zN E [.var [.sv none 0 [] 0,.int .i64 0,.int
 .i64 0]]/\∀ b,f<=b->Q x a c d n e b)) (∀ a,N<=a->BCalls prog 91 [.bool,.sl 0,.int .i64,.int .i64] [.pb 0 0 0 0,.int .i64 3] [Bx.var [.sv
 J 0 O U,.int .i64 Y,.int .i64 aa]] a (λb c d e f g h=>a<=h->Bel h (D.sl c 0 d e)->Br b (∀ a,h<=a->BCalls
 prog 214 [.ag 9,.sl 0,.int .i64,.int .i64] [.pb 0 0 0 0,.sv a1 4 e1 c1,.dg 2 I,.int .i64 n3,.int .i64 n4] [Bx.var [.sv c 0 d e,.int .i64 f,.int
 .i64 g]] a (λb c d e f g h=>a<=h->Bel h b->Bel h (D.sl c 0 d e)->zN E [.var [.sv none 0 [] 0,.int .i64 0,.int .i64
 0]]/\∀ a,h<=a->Q b c d e f g a)) (∃ a:Int,(I.cell 0)=D.lit (.int .i64 a)/\Br (a==1) (∀ a,h<=a->BCalls prog 215 [.ag
 9,.sl 0,.int .i64,.int .i64] [.pb 0 0 0 0,.sv a1 4 e1 c1,.dg 2 I,.int .i64 n3,.int .i64 n4] [Bx.var [.sv c 0 d e,.int .i64 f,.int .i64 g]] a
 (λb c d e f g h=>a<=h->Bel h b->Bel h (D.sl c 0 d e)->zN E [.var [.sv none 0 [] 0,.int .i64 0,.int .i64 0]]/\∀
 a,h<=a->Q b c d e f g a)) (Br (a==2) (∀ a,h<=a->BCalls prog 215 [.ag 9,.sl 0,.int .i64,.int .i64] [.pb 0 0 0 0,.sv
 a1 4 e1 c1,.dg 2 I,.int .i64 n3,.int .i64 n4] [Bx.var [.sv c 0 d e,.int .i64 f,.int .i64 g]] a (λb c d e f g h=>a <=
 h->Bel h b->Bel h (D.sl c 0 d e)->zN E [.var [.sv none 0 [] 0,.int .i64 0,.int .i64 0]]/\∀ a,h<=a->Q b c d e f g
 a)) (Br (a==3) (∀ a,h<=a->BCalls prog 156 [.str,.sl 0,.int .i64,.int .i64,.sl 0] [.pb 0 0 0 0,.sb 1 0 0 2 2] [Bx.var [.sv c 0 d e,
 .int .i64 f,.int .i64 g],Bx.arr 9 0 [D.lit (.string (bytes [120])),D.lit (.string (bytes [121]))] 2] a (λs b c d e f g h i j
 => a<=j->Bel j (D.sl b 0 c d)->Bel j (D.sl g 0 h i)->∃ a g,∃ h:Nat,(I.cell 1)=D.sl a 2 g h/\((0:Int)<=(0 :
 Int)/\0<(g.length:Int))/\∃ a h,∃ i:Nat,(I.cell 1)=D.sl a 2 h i/\((0:Int)<=(0:Int)/\0<(h.length:Int))/\∃ a i,∃
 k:Nat,(I.cell 1)=D.sl a 2 i k/\((0:Int)<=(1:Int)/\1<(i.length:Int))/\∀ a,j<=a->ACalls prog 217 [.sl 4] [.sv a1 4 e1 c1,
 .str s,.dg 2 (List.getD h 0 default),.int .i64 n3] a (λh j k l=>a<=l->Bel l (D.sl h 4 j k)->∀ a,l<=a ->
 BCalls prog 154 [.ag 9,.sl 0,.int .i64,.int .i64] [.pb 0 0 0 0,.sv h 4 j k,.dg 2 (List.getD i 1 default),.int .i64 n3,.int .i64 (IntKind.i64.wrap
 (n4 - 1))] [Bx.var [.sv b 0 c d,.int .i64 e,.int .i64 f]] a (λb c d e f h i=>a<=i->Bel i b->Bel i (D.sl
 c 0 d e)->∀ a,i<=a->ACalls prog 216 [.ag 9] [.str s,.dg 2 (List.getD g 0 default),.dg 9 b] a (λb g=>a<=g->Bel
 g b->zN E [.var [.sv none 0 [] 0,.int .i64 0,.int .i64 0]]/\∀ a,g<=a->Q b c d e f h a))))) (∃ a b,∃ i:Nat,
 (I.cell 1)=D.sl a 2 b i/\((0:Int)<=(0:Int)/\0<(b.length:Int))/\∀ a,h<=a->ACalls prog 218 [.bool] [.dg 2 (List.getD b
 0 default)] a (λb h=>a<=h->Br b (∀ a,h<=a->BCalls prog 91 [.bool,.sl 0,.int .i64,.int .i64] [.pb 0 0 0 0,.int .i64 4] [Bx.var
 [.sv c 0 d e,.int .i64 f,.int .i64 g]] a (λb c d e f g h=>a<=h->Bel h (D.sl c 0 d e)->Br b (∃ a
 b,∃ i:Nat,(I.cell 1)=D.sl a 2 b i/\((0:Int)<=(0:Int)/\0<(b.length:Int))/\∀ a,h<=a->BCalls prog 154 [.ag 9,.sl
 0,.int .i64,.int .i64] [.pb 0 0 0 0,.sv a1 4 e1 c1,.dg 2 (List.getD b 0 default),.int .i64 n3,.int .i64 (IntKind.i64.wrap (n4 - 1))] [Bx.var [.sv c
 0 d e,.int .i64 f,.int .i64 g]] a (λb c d e f g h=>a<=h->Bel h b->Bel h (D.sl c 0 d e)->(1
 = ([b]).length/\1=1)/\∀ a,ApA a [b]->∀ i,h<=i->wL i [a]->ACalls prog 210 [.ag 9] [.int .i64 13,.sv a 9 [b] 1] i (fun
 b h=>i<=h->Off [a] b/\(Bel h b->zN E [.var [.sv none 0 [] 0,.int .i64 0,.int .i64 0]]/\∀ a,h<=a->Q b c d e
 f g a)))) (wq E Q N0 a1 e1 c1 n3 n4 c d e f g I ab ac ae ah ai aj ak al am ao aq au aw ax ay
 h))) (wq E Q N0 a1 e1 c1 n3 n4 c d e f g I ab ac ae ah ai aj ak al am ao aq au aw ax ay h))))))))):xi E Q N0 a1 e1 c1 n3 n4 J O U Y aa I ab ac ae ah ai aj ak al am ao aq au aw ax ay N:=
  hE (H:=rU) (by kernel_rfl) h
theorem sn (E:Env) (Q:QT [(Sh.ag 9),Sh.bool,(Sh.sl 0),(Sh.int IntKind.i64),(Sh.int IntKind.i64)]) (N0:Nat) (a1:Option Addr) (e1:List D) (c1:Nat) (n3:Int) (ab a6:Nat) (I:Int) (J:Option Addr) (O:List D) (U:Nat) (Y aa:Int) (y1:D) (ac:Int) (ae ah:ByteArray) (ai aj:Int) (ak:Option Addr) (al:List D) (am:Nat) (ao:Int) (aq:Option Addr) (au:List D) (aw:Nat) (ax:Option Addr) (ay:List D) (az:Nat) (r3:List D) (q3:Nat) (N:Nat) (h :
Br (decide (I<(e1.length:Int))) ((0<=I/\I<(e1.length:Int))/\∃ n:Int,(if 0=0 then D.cell (List.getD e1 I.toNat default) 3 else D.sub (List.getD
 e1 I.toNat default) 3 0)=D.lit (.int .i64 n)/\Br (n==n3) ((0<=I/\I<(e1.length:Int))/\∀ a,N<=a->ACalls prog 100 [.bool] [.dg 2 (if 2=0
 then D.cell (List.getD e1 I.toNat default) 1 else D.sub (List.getD e1 I.toNat default) 1 2),.dg 2 y1] a (λb d=>a<=d->Br b ((0<=I/\I<(e1.length
 : Int))/\∃ s,(if 0=0 then D.cell (List.getD e1 I.toNat default) 0 else D.sub (List.getD e1 I.toNat default) 0 0)=D.lit (.string s)/\∀ a,d<=a ->
 ACalls prog 259 [.int .i64] [.sv a1 4 e1 c1,.str s] a (λb d=>a<=d->Br (b==I) ((0<=I/\I<(e1.length:Int))/\∃ a,(if 0=0 then
 D.cell (List.getD e1 I.toNat default) 0 else D.sub (List.getD e1 I.toNat default) 0 0)=D.lit (.string a)/\∀ b,d<=b->ACalls prog 157 [.ag 9] [.str
 a] b (λx a=>b<=a->Bel a x->(ab=r3.length/\a6=q3)/\zB r3 [x] 136/\∀ (c:Nat),zg E Q N0 a1 e1 c1 n3 (r3++[x]).length
 c (IntKind.i64.wrap (I+1)) J O U Y aa y1 ac ae ah ai aj ak al am ao aq au aw ax ay az (r3++[x]) c a)) (zg
 E Q N0 a1 e1 c1 n3 ab a6 (IntKind.i64.wrap (I+1)) J O U Y aa y1 ac ae ah ai aj ak al am ao aq au aw ax ay az r3
 q3 d))) (zg E Q N0 a1 e1 c1 n3 ab a6 (IntKind.i64.wrap (I+1)) J O U Y aa y1 ac ae ah ai aj ak al am ao aq
 au aw ax ay az r3 q3 d))) (zg E Q N0 a1 e1 c1 n3 ab a6 (IntKind.i64.wrap (I+1)) J O U Y aa y1 ac ae ah ai aj
 ak al am ao aq au aw ax ay az r3 q3 N)) (Br ((ab:Int)==0) (zN E [.var [.sv none 0 [] 0,.int .i64 0,.int .i64 0]]/\∀ a,N<=a ->
 Q (D.ag [D.lit (.int .i64 0),D.lit (.string (bytes [])),D.lit (.string (bytes [])),D.lit (.int .i64 0),D.lit (.int .i64 0),D.sl Option.none 2 [] 0,D.lit (.int
 .i64 0),D.sl Option.none 2 [] 0,D.sl Option.none 9 [] 0]) false J O U Y aa a) (∀ b,N<=b->BCalls prog 89 [.int .i64,.sl 0,.int .i64,.int
 .i64] [.pb 0 0 0 0,.int .i64 (ab:Int)] [Bx.var [.sv J 0 O U,.int .i64 Y,.int .i64 aa]] b (λa c d e f g h=>b<=h->Bel h
 (D.sl c 0 d e)->(0<=a/\a<(ab:Int)/\(0+a.toNat:Nat)<r3.length)/\(0+a.toNat:Nat)<r3.length/\zN E [.var [.sv none 0 [] 0,.int .i64
 0,.int .i64 0]]/\∀ b,h<=b->Q (List.getD r3 (0+a.toNat:Nat) default) true c d e f g b)))):zg E Q N0 a1 e1 c1 n3 ab a6 I J O U Y aa y1 ac ae ah ai aj ak al am ao aq au aw ax ay az r3 q3 N:=
  hE (H:=qy) (by kernel_rfl) h
theorem xX (N:Nat) (x1:D) (n2:Int) (I:Option Addr) (J:List D) (O:Nat) (U Y:Int) (Q:QT [(Sh.ag 9),(Sh.sl 0),(Sh.int IntKind.i64),(Sh.int IntKind.i64)]) (h:∀ E:Env,
Bel N x1->Bel N (D.sl I 0 J O)->∃ n:Int,(x1.cell 0)=D.lit (.int .i64 n)/\Br (n==1) (∀ b,N<=b->BCalls prog 89 [.int .i64,.sl 0,.int
 .i64,.int .i64] [.pb 0 0 0 0,.int .i64 4] [Bx.var [.sv I 0 J O,.int .i64 U,.int .i64 Y]] b (λa c d e f g h=>b<=h->Bel
 h (D.sl c 0 d e)->∀ b,h<=b->ACalls prog 207 [.ag 9] [.int .i64 a] b (λx a=>b<=a->Bel a x->zN E [.var [.sv none 0 [] 0,.int .i64
 0,.int .i64 0]]/\∀ b,a<=b->Q x c d e f g b))) (Br (n==2) (∀ a,N<=a->BCalls prog 89 [.int .i64,.sl 0,.int .i64,.int .i64] [.pb 0 0 0
 0,.int .i64 2] [Bx.var [.sv I 0 J O,.int .i64 U,.int .i64 Y]] a (λb c d e f g h=>a<=h->Bel h (D.sl c 0 d
 e)->∀ a,h<=a->ACalls prog 208 [.ag 9] [.int .i64 b] a (λb h=>a<=h->Bel h b->zN E [.var [.sv none 0 [] 0,.int .i64 0,.int
 .i64 0]]/\∀ a,h<=a->Q b c d e f g a))) (Br (n==3) (∃ a b,∃ c:Nat,(x1.cell 1)=D.sl a 2 b c/\((0:Int)<=(0:Int)
 /\ 0<(b.length:Int))/\∃ a c,∃ d:Nat,(x1.cell 1)=D.sl a 2 c d/\((0:Int)<=(1:Int)/\1<(c.length:Int))/\∀ a,N<=a ->
 BCalls prog 213 [.ag 9,.sl 0,.int .i64,.int .i64] [.pb 0 0 0 0,.dg 2 (List.getD c 1 default),.int .i64 n2] [Bx.var [.sv I 0 J O,.int .i64 U,
 .int .i64 Y]] a (λc d e f g h i=>a<=i->Bel i c->Bel i (D.sl d 0 e f)->∀ a,i<=a->ACalls prog 216
 [.ag 9] [.str (bytes [119]),.dg 2 (List.getD b 0 default),.dg 9 c] a (λb c=>a<=c->Bel c b->zN E [.var [.sv none 0 [] 0,.int
 .i64 0,.int .i64 0]]/\∀ a,c<=a->Q b d e f g h a))) (∃ a b,∃ c:Nat,(x1.cell 1)=D.sl a 2 b c/\((0:Int)<=(0 :
 Int)/\0<(b.length:Int))/\∀ a,N<=a->BCalls prog 213 [.ag 9,.sl 0,.int .i64,.int .i64] [.pb 0 0 0 0,.dg 2 (List.getD b 0 default),.int .i64
 (IntKind.i64.wrap (n2+1))] [Bx.var [.sv I 0 J O,.int .i64 U,.int .i64 Y]] a (λb c d e f g h=>a<=h->Bel h
 b->Bel h (D.sl c 0 d e)->(1=([b]).length/\1=1)/\(1=([b]).length/\1=1)/\(1=([b]).length/\1=1)/\∀ a i,h<=i->Fresh
 N i a [D.ag [b],D.sl Option.none 2 [] 0,D.sl Option.none 2 [] 0]->zN E [.var [.sv none 0 [] 0,.int .i64 0,.int .i64 0]]/\∀ h,i<=h->Q (D.ag
 [D.lit (.int .i64 10),D.lit (.string (bytes [])),D.lit (.string (bytes [])),D.lit (.int .i64 0),D.lit (.int .i64 0),D.sl Option.none 2 [] 0,D.lit (.int .i64
 0),D.sl Option.none 2 [] 0,D.sl a 9 [b] 1]) c d e f g h))))):BCalls prog 213 [(Sh.ag 9),(Sh.sl 0),(Sh.int IntKind.i64),(Sh.int IntKind.i64)] [.pb 0 0 0 0,.dg 2 x1,.int .i64 n2] [.var [.sv I 0 J O,.int .i64 U,.int .i64 Y]] N Q:=
  bE (H:=zGE) (by kernel_rfl) (λE=>by kernel_rfl) h
theorem zEj (N:Nat) (Y:Option Addr) (e1:List D) (c1:Nat) (x2:D) (I n4:Int) (J:Option Addr) (O:List D) (U:Nat) (aa ab:Int) (Q:QT [(Sh.ag 9),(Sh.sl 0),(Sh.int IntKind.i64),(Sh.int IntKind.i64)]) (h:∀ E:Env,
Bel N (D.sl Y 4 e1 c1)->Bel N x2->Bel N (D.sl J 0 O U)->∀ b,N<=b->BCalls prog 156 [.str,.sl 0,.int .i64,.int .i64,.sl 0] [.pb 0 0 0 0,
 .sb 1 0 0 3 3] [Bx.var [.sv J 0 O U,.int .i64 aa,.int .i64 ab],Bx.arr 9 0 [D.lit (.string (bytes [120])),D.lit (.string (bytes [121])),D.lit
 (.string (bytes [122]))] 3] b (λs a c d n e f g h i=>b<=i->Bel i (D.sl a 0 c d)->Bel i (D.sl f 0 g h)->∀ b,i<=b ->
 BCalls prog 89 [.int .i64,.sl 0,.int .i64,.int .i64] [.pb 0 0 0 0,.int .i64 5] [Bx.var [.sv a 0 c d,.int .i64 n,.int .i64 e]] b (λa c d e
 f g h=>b<=h->Bel h (D.sl c 0 d e)->Br (a==0) (∀ a,h<=a->ACalls prog 151 [.ag 2] [] a (λx b=>a<=b->Bel b x ->
 ∀ a,b<=a->BCalls prog 154 [.ag 9,.sl 0,.int .i64,.int .i64] [.pb 0 0 0 0,.sv Y 4 e1 c1,.dg 2 x,.int .i64 I,.int .i64 (IntKind.i64.wrap (n4 - 1))]
 [Bx.var [.sv c 0 d e,.int .i64 f,.int .i64 g]] a (λb c d e f g h=>a<=h->Bel h b->Bel h (D.sl c 0 d e)->∀
 a,h<=a->BCalls prog 154 [.ag 9,.sl 0,.int .i64,.int .i64] [.pb 0 0 0 0,.sv Y 4 e1 c1,.dg 2 x2,.int .i64 I,.int .i64 (IntKind.i64.wrap (n4 - 1))]
 [Bx.var [.sv c 0 d e,.int .i64 f,.int .i64 g]] a (λc d e f g h i=>a<=i->Bel i c->Bel i (D.sl d 0 e f)
 -> ∀ a,i<=a->BCalls prog 154 [.ag 9,.sl 0,.int .i64,.int .i64] [.pb 0 0 0 0,.sv Y 4 e1 c1,.dg 2 x2,.int .i64 I,.int .i64 (IntKind.i64.wrap (n4
 - 1))] [Bx.var [.sv d 0 e f,.int .i64 g,.int .i64 h]] a (λd e f g h i j=>a<=j->Bel j d->Bel j (D.sl e 0
 f g)->(3=([b,c,d]).length/\3=3)/\∀ a,ApA a [b,c,d]->∀ k,j<=k->wL k [a]->ACalls prog 210 [.ag 9] [.int .i64
 5,.sv a 9 [b,c,d] 3] k (λb c=>k<=c->Off [a] b/\(Bel c b->zN E [.var [.sv none 0 [] 0,.int .i64 0,.int .i64 0]]/\∀
 a,c<=a->Q b e f g h i a))))))) (Br (a==1) (∀ a,h<=a->BCalls prog 260 [.ag 2,.sl 0,.int .i64,.int .i64] [.pb 0 0 0
 0,.int .i64 I] [Bx.var [.sv c 0 d e,.int .i64 f,.int .i64 g]] a (λb c d e f g h=>a<=h->Bel h b->Bel h (D.sl
 c 0 d e)->∀ a,h<=a->BCalls prog 154 [.ag 9,.sl 0,.int .i64,.int .i64] [.pb 0 0 0 0,.sv Y 4 e1 c1,.dg 2 b,.int .i64 I,.int .i64 (IntKind.i64.wrap
 (n4 - 1))] [Bx.var [.sv c 0 d e,.int .i64 f,.int .i64 g]] a (λc d e f g h i=>a<=i->Bel i c->Bel i (D.sl
 d 0 e f)->∀ a,i<=a->ACalls prog 217 [.sl 4] [.sv Y 4 e1 c1,.str s,.dg 2 b,.int .i64 I] a (λb i j k=>a<=k->Bel
 k (D.sl b 4 i j)->∀ a,k<=a->BCalls prog 154 [.ag 9,.sl 0,.int .i64,.int .i64] [.pb 0 0 0 0,.sv b 4 i j,.dg 2 x2,.int .i64 I,
 .int .i64 (IntKind.i64.wrap (n4 - 1))] [Bx.var [.sv d 0 e f,.int .i64 g,.int .i64 h]] a (λb d e f g h i=>a<=i ->
 Bel i b->Bel i (D.sl d 0 e f)->∀ a,i<=a->ACalls prog 261 [.ag 9] [.str s,.dg 9 c,.dg 9 b] a (λb c=>a<=c ->
 Bel c b->zN E [.var [.sv none 0 [] 0,.int .i64 0,.int .i64 0]]/\∀ a,c<=a->Q b d e f g h a)))))) (Br (a==2) (∀ a,
 h<=a->BCalls prog 260 [.ag 2,.sl 0,.int .i64,.int .i64] [.pb 0 0 0 0,.int .i64 I] [Bx.var [.sv c 0 d e,.int .i64 f,.int .i64 g]] a (fun
 b c d e f g h=>a<=h->Bel h b->Bel h (D.sl c 0 d e)->∀ a,h<=a->ACalls prog 217 [.sl 4] [.sv Y 4 e1
 c1,.str s,.dg 2 b,.int .i64 I] a (λh i j k=>a<=k->Bel k (D.sl h 4 i j)->∀ a,k<=a->BCalls prog 154 [.ag
 9,.sl 0,.int .i64,.int .i64] [.pb 0 0 0 0,.sv h 4 i j,.dg 2 x2,.int .i64 I,.int .i64 (IntKind.i64.wrap (n4 - 1))] [Bx.var [.sv c 0 d e,
 .int .i64 f,.int .i64 g]] a (λc d e f g h i=>a<=i->Bel i c->Bel i (D.sl d 0 e f)->∀ a,i
 <= a->ACalls prog 216 [.ag 9] [.str s,.dg 2 b,.dg 9 c] a (λc i=>a<=i->Bel i c->∀ a,i<=a->BCalls prog 154 [.ag
 9,.sl 0,.int .i64,.int .i64] [.pb 0 0 0 0,.sv Y 4 e1 c1,.dg 2 b,.int .i64 I,.int .i64 (IntKind.i64.wrap (n4 - 1))] [Bx.var [.sv d 0 e f,.int
 .i64 g,.int .i64 h]] a (λb d e f g h i=>a<=i->Bel i b->Bel i (D.sl d 0 e f)->(2=([c,b]).length
 /\ 2=2)/\∀ a,ApA a [c,b]->∀ j,i<=j->wL j [a]->ACalls prog 210 [.ag 9] [.int .i64 7,.sv a 9 [c,b] 2] j (λb
 c=>j<=c->Off [a] b/\(Bel c b->zN E [.var [.sv none 0 [] 0,.int .i64 0,.int .i64 0]]/\∀ a,c<=a->Q b d e f
 g h a)))))))) (Br (a==3) (∀ a,h<=a->ACalls prog 262 [.int .i64] [.dg 2 x2] a (λb h=>a<=h->Br (decide (IntKind.i64.wrap
 (I+b)<2)) (∀ a,h<=a->ACalls prog 263 [.sl 4] [.sv Y 4 e1 c1,.int .i64 I] a (λb h i j=>a<=j->Bel j (D.sl b
 4 h i)->∀ a,j<=a->ACalls prog 152 [.ag 2] [.dg 2 x2] a (λj k=>a<=k->Bel k j->∀ a,k<=a->BCalls prog 154
 [.ag 9,.sl 0,.int .i64,.int .i64] [.pb 0 0 0 0,.sv b 4 h i,.dg 2 j,.int .i64 I,.int .i64 (IntKind.i64.wrap (n4 - 1))] [Bx.var [.sv c 0 d
 e,.int .i64 f,.int .i64 g]] a (λb c d e f g h=>a<=h->Bel h b->Bel h (D.sl c 0 d e)->(1=([b]).length
 /\ 1=1)/\∀ a,ApA a [b]->∀ i,h<=i->wL i [a]->ACalls prog 210 [.ag 9] [.int .i64 12,.sv a 9 [b] 1] i (λb h=>
 i<=h->Off [a] b/\(Bel h b->zN E [.var [.sv none 0 [] 0,.int .i64 0,.int .i64 0]]/\∀ a,h<=a->Q b c d e f g
 a)))))) (Br (decide (I>0)) (∀ a,h<=a->ACalls prog 152 [.ag 2] [.dg 2 x2] a (λb h=>a<=h->Bel h b->∀ a,h<=a
 -> BCalls prog 154 [.ag 9,.sl 0,.int .i64,.int .i64] [.pb 0 0 0 0,.sv Y 4 e1 c1,.dg 2 b,.int .i64 (IntKind.i64.wrap (I - 1)),.int .i64 (IntKind.i64.wrap
 (n4 - 1))] [Bx.var [.sv c 0 d e,.int .i64 f,.int .i64 g]] a (λb c d e f g h=>a<=h->Bel h b->Bel h (D.sl
 c 0 d e)->(1=([b]).length/\1=1)/\∀ a,ApA a [b]->∀ i,h<=i->wL i [a]->ACalls prog 210 [.ag 9] [.int .i64 11,.sv
 a 9 [b] 1] i (λb h=>i<=h->Off [a] b/\(Bel h b->zN E [.var [.sv none 0 [] 0,.int .i64 0,.int .i64 0]]/\∀ a,h
 <= a->Q b c d e f g a))))) (∀ a,h<=a->BCalls prog 213 [.ag 9,.sl 0,.int .i64,.int .i64] [.pb 0 0 0 0,.dg 2 x2,.int .i64
 I] [Bx.var [.sv c 0 d e,.int .i64 f,.int .i64 g]] a (λb c d e f g h=>a<=h->Bel h b->Bel h (D.sl c
 0 d e)->zN E [.var [.sv none 0 [] 0,.int .i64 0,.int .i64 0]]/\∀ a,h<=a->Q b c d e f g a))))) (Br (decide (I>0))
 (∀ a,h<=a->ACalls prog 152 [.ag 2] [.dg 2 x2] a (λb h=>a<=h->Bel h b->∀ a,h<=a->BCalls prog 154 [.ag 9,.sl 0,
 .int .i64,.int .i64] [.pb 0 0 0 0,.sv Y 4 e1 c1,.dg 2 b,.int .i64 (IntKind.i64.wrap (I - 1)),.int .i64 (IntKind.i64.wrap (n4 - 1))] [Bx.var [.sv c 0
 d e,.int .i64 f,.int .i64 g]] a (λb c d e f g h=>a<=h->Bel h b->Bel h (D.sl c 0 d e)->(1 =
 ([b]).length/\1=1)/\∀ a,ApA a [b]->∀ i,h<=i->wL i [a]->ACalls prog 210 [.ag 9] [.int .i64 11,.sv a 9 [b] 1] i (fun
 b h=>i<=h->Off [a] b/\(Bel h b->zN E [.var [.sv none 0 [] 0,.int .i64 0,.int .i64 0]]/\∀ a,h<=a->Q b c d
 e f g a))))) (∀ a,h<=a->BCalls prog 213 [.ag 9,.sl 0,.int .i64,.int .i64] [.pb 0 0 0 0,.dg 2 x2,.int .i64 I] [Bx.var [.sv c 0 d
 e,.int .i64 f,.int .i64 g]] a (λb c d e f g h=>a<=h->Bel h b->Bel h (D.sl c 0 d e)->zN E [.var
 [.sv none 0 [] 0,.int .i64 0,.int .i64 0]]/\∀ a,h<=a->Q b c d e f g a))))))))):BCalls prog 214 [(Sh.ag 9),(Sh.sl 0),(Sh.int IntKind.i64),(Sh.int IntKind.i64)] [.pb 0 0 0 0,.sv Y 4 e1 c1,.dg 2 x2,.int .i64 I,.int .i64 n4] [.var [.sv J 0 O U,.int .i64 aa,.int .i64 ab]] N Q:=
  bE (H:=zKJ) (by kernel_rfl) (λE=>by kernel_rfl) h
theorem zCY (N:Nat) (a1:Option Addr) (e1:List D) (c1:Nat) (x2:D) (n3 n4:Int) (I:Option Addr) (J:List D) (O:Nat) (U Y:Int) (Q:QT [(Sh.ag 9),(Sh.sl 0),(Sh.int IntKind.i64),(Sh.int IntKind.i64)]) (h:∀ E:Env,
Bel N (D.sl a1 4 e1 c1)->Bel N x2->Bel N (D.sl I 0 J O)->∀ b,N<=b->ACalls prog 150 [.ag 2] [] b (λx d=>b<=d->Bel d x->∀ b,
 d<=b->ACalls prog 151 [.ag 2] [] b (λd e=>b<=e->Bel e d->∃ n:Int,(x2.cell 0)=D.lit (.int .i64 n)/\Br (n==1) (∀ b,e<=b
 -> BCalls prog 156 [.str,.sl 0,.int .i64,.int .i64,.sl 0] [.pb 0 0 0 0,.sb 1 0 0 4 4] [Bx.var [.sv I 0 J O,.int .i64 U,.int .i64 Y],Bx.arr
 9 0 [D.lit (.string (bytes [43])),D.lit (.string (bytes [42])),D.lit (.string (bytes [45])),D.lit (.string (bytes [43]))] 4] b (λs a c d e f g h
 i j=>b<=j->Bel j (D.sl a 0 c d)->Bel j (D.sl g 0 h i)->∀ b,j<=b->BCalls prog 154 [.ag 9,.sl 0,.int .i64,.int .i64] [.pb 0 0
 0 0,.sv a1 4 e1 c1,.dg 2 x,.int .i64 n3,.int .i64 (IntKind.i64.wrap (n4 - 1))] [Bx.var [.sv a 0 c d,.int .i64 e,.int .i64 f]] b (λa c d e
 f g h=>b<=h->Bel h a->Bel h (D.sl c 0 d e)->∀ b,h<=b->BCalls prog 154 [.ag 9,.sl 0,.int .i64,.int .i64] [.pb 0 0 0 0,.sv
 a1 4 e1 c1,.dg 2 x,.int .i64 n3,.int .i64 (IntKind.i64.wrap (n4 - 1))] [Bx.var [.sv c 0 d e,.int .i64 f,.int .i64 g]] b (λc d e f g
 h i=>b<=i->Bel i c->Bel i (D.sl d 0 e f)->(2=([a,c]).length/\2=2)/\∀ b,ApA b [a,c]->∀ j,i<=j->wL
 j [b]->ACalls prog 264 [.ag 9] [.str s,.sv b 9 [a,c] 2] j (λa c=>j<=c->Off [b] a/\(Bel c a->zN E [.var [.sv none
 0 [] 0,.int .i64 0,.int .i64 0]]/\∀ b,c<=b->Q a d e f g h b)))))) (∀ a,e<=a->BCalls prog 89 [.int .i64,.sl 0,.int .i64,
 .int .i64] [.pb 0 0 0 0,.int .i64 4] [Bx.var [.sv I 0 J O,.int .i64 U,.int .i64 Y]] a (λb c e f g h i=>a<=i
 -> Bel i (D.sl c 0 e f)->Br (b==0) (∀ a,i<=a->BCalls prog 154 [.ag 9,.sl 0,.int .i64,.int .i64] [.pb 0 0 0 0,.sv a1 4 e1 c1,.dg 2
 d,.int .i64 n3,.int .i64 (IntKind.i64.wrap (n4 - 1))] [Bx.var [.sv c 0 e f,.int .i64 g,.int .i64 h]] a (λb c d e f g h=>
 a<=h->Bel h b->Bel h (D.sl c 0 d e)->(1=([b]).length/\1=1)/\∀ a,ApA a [b]->∀ i,h<=i->wL i [a]->ACalls
 prog 264 [.ag 9] [.str (bytes [33]),.sv a 9 [b] 1] i (λb h=>i<=h->Off [a] b/\(Bel h b->zN E [.var [.sv none 0 [] 0,.int .i64
 0,.int .i64 0]]/\∀ a,h<=a->Q b c d e f g a)))) (Br (b==1) (∀ a,i<=a->BCalls prog 156 [.str,.sl 0,.int .i64,.int
 .i64,.sl 0] [.pb 0 0 0 0,.sb 1 0 0 2 2] [Bx.var [.sv c 0 e f,.int .i64 g,.int .i64 h],Bx.arr 9 0 [D.lit (.string (bytes [38])),D.lit (.string (bytes
 [124]))] 2] a (λb c e f g h i j k l=>a<=l->Bel l (D.sl c 0 e f)->Bel l (D.sl i 0 j k)->∀ a,l
 <= a->BCalls prog 154 [.ag 9,.sl 0,.int .i64,.int .i64] [.pb 0 0 0 0,.sv a1 4 e1 c1,.dg 2 d,.int .i64 n3,.int .i64 (IntKind.i64.wrap (n4 - 1))] [Bx.var
 [.sv c 0 e f,.int .i64 g,.int .i64 h]] a (λc e f g h i j=>a<=j->Bel j c->Bel j (D.sl e 0 f g)
 -> ∀ a,j<=a->BCalls prog 154 [.ag 9,.sl 0,.int .i64,.int .i64] [.pb 0 0 0 0,.sv a1 4 e1 c1,.dg 2 d,.int .i64 n3,.int .i64 (IntKind.i64.wrap (n4
 - 1))] [Bx.var [.sv e 0 f g,.int .i64 h,.int .i64 i]] a (λd e f g h i j=>a<=j->Bel j d->Bel j (D.sl e
 0 f g)->(2=([c,d]).length/\2=2)/\∀ a,ApA a [c,d]->∀ k,j<=k->wL k [a]->ACalls prog 264 [.ag 9] [.str b,.sv a
 9 [c,d] 2] k (λb c=>k<=c->Off [a] b/\(Bel c b->zN E [.var [.sv none 0 [] 0,.int .i64 0,.int .i64 0]]/\∀ a,c<=a
 -> Q b e f g h i a)))))) (∀ a,i<=a->BCalls prog 156 [.str,.sl 0,.int .i64,.int .i64,.sl 0] [.pb 0 0 0 0,.sb 1 0 0 2 2] [Bx.var
 [.sv c 0 e f,.int .i64 g,.int .i64 h],Bx.arr 9 0 [D.lit (.string (bytes [61])),D.lit (.string (bytes [60]))] 2] a (λb c d e f
 g h i j k=>a<=k->Bel k (D.sl c 0 d e)->Bel k (D.sl h 0 i j)->∀ a,k<=a->BCalls prog 154 [.ag 9,
 .sl 0,.int .i64,.int .i64] [.pb 0 0 0 0,.sv a1 4 e1 c1,.dg 2 x,.int .i64 n3,.int .i64 (IntKind.i64.wrap (n4 - 1))] [Bx.var [.sv c 0 d e,.int .i64
 f,.int .i64 g]] a (λc d e f g h i=>a<=i->Bel i c->Bel i (D.sl d 0 e f)->∀ a,i<=a->BCalls
 prog 154 [.ag 9,.sl 0,.int .i64,.int .i64] [.pb 0 0 0 0,.sv a1 4 e1 c1,.dg 2 x,.int .i64 n3,.int .i64 (IntKind.i64.wrap (n4 - 1))] [Bx.var [.sv d 0 e
 f,.int .i64 g,.int .i64 h]] a (λd e f g h i j=>a<=j->Bel j d->Bel j (D.sl e 0 f g)->(2=([c,
 d]).length/\2=2)/\∀ a,ApA a [c,d]->∀ k,j<=k->wL k [a]->ACalls prog 264 [.ag 9] [.str b,.sv a 9 [c,d] 2] k
 (λb c=>k<=c->Off [a] b/\(Bel c b->zN E [.var [.sv none 0 [] 0,.int .i64 0,.int .i64 0]]/\∀ a,c<=a->Q b e
 f g h i a)))))))))))):BCalls prog 215 [(Sh.ag 9),(Sh.sl 0),(Sh.int IntKind.i64),(Sh.int IntKind.i64)] [.pb 0 0 0 0,.sv a1 4 e1 c1,.dg 2 x2,.int .i64 n3,.int .i64 n4] [.var [.sv I 0 J O,.int .i64 U,.int .i64 Y]] N Q:=
  bE (H:=zHk) (by kernel_rfl) (λE=>by kernel_rfl) h
theorem zEO (E:Env) (Q:QT [(Sh.ag 9),(Sh.sl 0),(Sh.int IntKind.i64),(Sh.int IntKind.i64)]) (N0:Nat) (a1:Option Addr) (e1:List D) (c1:Nat) (n3 n4:Int) (I:Option Addr) (J:List D) (O:Nat) (U Y:Int) (y1:D) (aa:Int) (ab ac:ByteArray) (ae ah:Int) (ai:Option Addr) (aj:List D) (ak:Nat) (al:Int) (am:Option Addr) (ao:List D) (aq:Nat) (au:Option Addr) (aw:List D) (ax:Nat) (N:Nat) (h :
∃ a b,∃ c:Nat,(y1.cell 1)=D.sl a 2 b c/\((0:Int)<=(0:Int)/\0<(b.length:Int))/\∀ a,N<=a->BCalls prog 154 [.ag 9,.sl 0,.int .i64,.int
 .i64] [.pb 0 0 0 0,.sv a1 4 e1 c1,.dg 2 (List.getD b 0 default),.int .i64 (IntKind.i64.wrap (n3+1)),.int .i64 (IntKind.i64.wrap (n4 - 1))] [Bx.var [.sv I
 0 J O,.int .i64 U,.int .i64 Y]] a (λx b c d n e f=>a<=f->Bel f x->Bel f (D.sl b 0 c d)->(1=([x]).length/\1
 = 1)/\∀ a,ApA a [x]->∀ g,f<=g->wL g [a]->ACalls prog 210 [.ag 9] [.int .i64 10,.sv a 9 [x] 1] g (λf h=>g<=h->Off [a]
 f/\(Bel h f->zN E [.var [.sv none 0 [] 0,.int .i64 0,.int .i64 0]]/\∀ a,h<=a->Q f b c d n e a)))):wq E Q N0 a1 e1 c1 n3 n4 I J O U Y y1 aa ab ac ae ah ai aj ak al am ao aq au aw ax N:=
  hE (H:=rU) (by kernel_rfl) h
theorem zC3 (N:Nat) (n1:Int) (I:Option Addr) (J:List D) (O:Nat) (U Y:Int) (Q:QT [(Sh.ag 2),(Sh.sl 0),(Sh.int IntKind.i64),(Sh.int IntKind.i64)]) (h:∀ E:Env,
Bel N (D.sl I 0 J O)->∀ d,N<=d->ACalls prog 150 [.ag 2] [] d (λx e=>d<=e->Bel e x->Br (decide (n1<2)) (∀ d,e<=d ->
 BCalls prog 91 [.bool,.sl 0,.int .i64,.int .i64] [.pb 0 0 0 0,.int .i64 2] [Bx.var [.sv I 0 J O,.int .i64 U,.int .i64 Y]] d (λb a
 c e n f g=>d<=g->Bel g (D.sl a 0 c e)->Br b (∀ b,g<=b->ACalls prog 152 [.ag 2] [.dg 2 x] b (λd g=>b<=g->Bel g d ->
 zN E [.var [.sv none 0 [] 0,.int .i64 0,.int .i64 0]]/\∀ b,g<=b->Q d a c e n f b)) (∀ b,g<=b->BCalls prog 91 [.bool,.sl 0,.int .i64,
 .int .i64] [.pb 0 0 0 0,.int .i64 3] [Bx.var [.sv a 0 c e,.int .i64 n,.int .i64 f]] b (λa c d e f g h=>b<=h->Bel h (D.sl c
 0 d e)->Br a (∀ a,h<=a->ACalls prog 153 [.ag 2] [.dg 2 x,.dg 2 x] a (λb h=>a<=h->Bel h b->zN E [.var [.sv none 0
 [] 0,.int .i64 0,.int .i64 0]]/\∀ a,h<=a->Q b c d e f g a)) (zN E [.var [.sv none 0 [] 0,.int .i64 0,.int .i64 0]]/\∀ a,h
 <= a->Q x c d e f g a))))) (∀ a,e<=a->BCalls prog 91 [.bool,.sl 0,.int .i64,.int .i64] [.pb 0 0 0 0,.int .i64 3] [Bx.var [.sv I
 0 J O,.int .i64 U,.int .i64 Y]] a (λb c d e f g h=>a<=h->Bel h (D.sl c 0 d e)->Br b (∀ a,h
 <= a->ACalls prog 153 [.ag 2] [.dg 2 x,.dg 2 x] a (λb h=>a<=h->Bel h b->zN E [.var [.sv none 0 [] 0,.int .i64 0,.int .i64 0]]
 /\ ∀ a,h<=a->Q b c d e f g a)) (zN E [.var [.sv none 0 [] 0,.int .i64 0,.int .i64 0]]/\∀ a,h<=a->Q x c d e f
 g a))))):BCalls prog 260 [(Sh.ag 2),(Sh.sl 0),(Sh.int IntKind.i64),(Sh.int IntKind.i64)] [.pb 0 0 0 0,.int .i64 n1] [.var [.sv I 0 J O,.int .i64 U,.int .i64 Y]] N Q:=
  bE (H:=zIz) (by kernel_rfl) (λE=>by kernel_rfl) h
end Go.Proofs.YtmfjakahanbnlaaGreatDoor
set_option maxRecDepth 100000
namespace Go.Proofs.YtmfjakahanbnlaaGreatDoor
open Go Go.Proofs Go.Proofs.Tryz
def zM8:Hint:=⟨[],[],[]⟩
theorem zM2 (N:Nat) (a0:Option Addr) (e0:List D) (c0:Nat) (Q:QT [.bool]) (h :
Bel N (D.sl a0 0 e0 c0)->∀ a,N<=a->Q (decide ((e0.length:Int)>1048576)) a):ACalls prog 28 [.bool] [PV.sv a0 0 e0 c0] N Q:=
 eE (H:=zM8) (by kernel_rfl) (by kernel_rfl) h
end Go.Proofs.YtmfjakahanbnlaaGreatDoor
