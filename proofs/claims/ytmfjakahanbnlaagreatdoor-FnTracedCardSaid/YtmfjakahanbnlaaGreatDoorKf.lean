/- Printed by gen.py: what the functions come to. -/
import Derived.Test.YtmfjakahanbnlaaGreatDoorJh
set_option linter.unusedVariables false
set_option maxRecDepth 100000
namespace Go.Proofs.YtmfjakahanbnlaaGreatDoor
open Go Go.Proofs Go.Proofs.Tryz
def zGL:Hint:=⟨[],[],[(1,hs 7 [ec 1 [16]]),(2,hs 14 [ec 6 [25],ec 10 [20,26,28,29]]),(3,hs 4 [ec 1 [33]]),(4,[en 0,en 1,en 2,en 3,en 4,en 5,en 6,en 7,en 8,en 9,eh 10,ec 11 [42,45],en 12,eh 13])]⟩
def vX:Hint:=⟨[hc 10 [3,4,5,6,7,8,9,39,40,41],hc 19 [4,5,6,8,9,12,75,76,77]],[],[(3,hs 3 [ec 1 [22]]),(4,hs 3 [ec 1 [24]]),(5,hs 7 [ec 1 [27]]),(7,hs 4 [ec 2 [33]]),(8,hs 4 [ec 1 [36]]),(13,[en 0,en 1,en 2,en 3,en 4,en 5,ec 6 [52,54],en 7,eh 8]),(15,[en 0,en 1,eh 2,en 3,en 4,en 5,en 6,en 7,en 8,en 10,ec 9 [66],eh 11,en 12,en 13]),(17,hs 3 [ec 1 [73]]),(22,hs 7 [ec 5 [84]]),(24,[en 0,en 1,en 2,en 3,en 4,en 5,en 6,en 7,en 8,en 9,ec 10 [98,100],en 11,eh 12])]⟩
def zAC:Hint:=⟨[],[],[(1,hs 5 [ec 3 [5,7]])]⟩
def pG:Hint:=⟨[hc 4 [1,2,3,8,9,10,12]],[],[(1,hs 4 [ec 1 [16]]),(8,hs 15 [ec 6 [46]]),(9,[en 0,en 1,en 2,en 3,en 4,en 5,en 6,en 7,en 8,en 9,en 10,en 11,en 12,eh 13,ec 14 [62,68],en 15,eh 16])]⟩
def su:Hint:=⟨[hc 9 [1,5,6,7,9,10,11]],[],[(2,hs 3 [ec 1 [21]]),(3,hs 4 [ec 1 [23]]),(6,hs 17 [ec 12 [45]]),(7,[en 0,en 1,en 2,en 3,ec 4 [54],ec 5 [51],eh 6]),(12,[en 0,en 1,en 2,en 3,en 4,en 5,en 6,en 7,en 8,en 9,ec 10 [78,80],en 11,eh 12])]⟩
def uW:Hint:=⟨[hc 3 [1,2,4,5,10,11,12] [(5,35,9)]],[],[(5,hs 7 [{ i:=3,hard:=true,cl:=[18],fs:=[5,18] },{ i:=4,hard:=true,cl:=[19],fs:=[5,19] }]),(7,hs 4 [{ i:=2,hard:=true,cl:=[23],fs:=[5,23] }])]⟩
def yL (Q:QT [.ag 9]) (N0:Nat) (a7:Option Addr) (e7:List D) (c7:Nat) (n8:Int) (bb:Option Addr) (bc:List D) (bd:Nat) (bg bh:Int) (y0:D) (I:ByteArray) (y2:D) (J:Int) (O U:ByteArray) (Y aa:Int) (ab:Option Addr) (ac:List D) (ae:Nat) (ah:Int) (ai:Option Addr) (aj:List D) (ak:Nat) (al:Option Addr) (am:List D) (ao:Nat) (aq:Int) (au aw:ByteArray) (ax:Int) (ay az a1 a6:D) (a8 ba:Nat) (r5:List D) (q5:Nat) (N:Nat):Prop:=AT prog 228 [.ag 9] Q N0 .ord (zC prog 228 10) ⟨an 3 (.pb 0 0 0 0::.pb 1 0 0 0::.pb 2 0 0 0::.pb 3 0 0 0::.sv a7 0 e7 c7::.int .i64 n8::.pb 4 0 0 0::an 29 (.sv bb 9 bc bd::.int .i64 bg::.int .i64 bh::an 62 [])),[.vd y0 9,.var [.str I],.vd y2 9,.var [.int .i64 J,.str O,.str U,.int .i64 Y,.int .i64 aa,.sv ab 2 ac ae,.int .i64 ah,.sv ai 2 aj ak,.sv al 9 am ao],.var [.int .i64 aq,.str au,.str aw,.int .i64 ax,.dc ay,.dc az,.dc a1,.dc a6,.sb 5 9 0 a8 ba],.arr 35 9 r5 q5],N,none⟩
def yS (Q:QT [.pk,.int .i64,.str,.str,.int .i64,.dc,.dc,.dc,.dc,.row 35 9]) (N0:Nat) (n1:Int) (s2:ByteArray) (a3:Option Addr) (e3:List D) (c3:Nat) (a8:Option Addr) (ba:List D) (bb:Nat) (bc I:Int) (J O:ByteArray) (U Y:Int) (aa:Option Addr) (ab:List D) (ac:Nat) (ae:Int) (ah:Option Addr) (ai:List D) (aj:Nat) (ak:Option Addr) (al:List D) (am:Nat) (ao:Int) (aq au:ByteArray) (aw:Int) (ax ay az a1:D) (a6 a7:Nat) (r2:List D) (q2:Nat) (N:Nat):Prop:=AT prog 256 [.pk,.int .i64,.str,.str,.int .i64,.dc,.dc,.dc,.dc,.row 35 9] Q N0 .ord (zC prog 256 4) ⟨an 1 (.int .i64 n1::.str s2::.sv a3 0 e3 c3::an 4 (.pb 0 0 0 0::.pb 1 0 0 0::.sv a8 0 ba bb::an 1 (.int .i64 bc::an 65 []))),[.var [.int .i64 I,.str J,.str O,.int .i64 U,.int .i64 Y,.sv aa 2 ab ac,.int .i64 ae,.sv ah 2 ai aj,.sv ak 9 al am],.var [.int .i64 ao,.str aq,.str au,.int .i64 aw,.dc ax,.dc ay,.dc az,.dc a1,.sb 2 9 0 a6 a7],.arr 35 9 r2 q2],N,none⟩
def zD (Q:QT [.ag 9]) (N0:Nat) (s1:ByteArray) (n9:Int) (a8:Bool) (ba:Int) (y0:D) (I:Int) (J O:ByteArray) (U Y:Int) (aa:Option Addr) (ab:List D) (ac:Nat) (ae:Int) (ah:Option Addr) (ai:List D) (aj:Nat) (ak:Option Addr) (al:List D) (am:Nat) (ao:Int) (aq au:ByteArray) (aw:Int) (ax ay az a1:D) (a6 a7:Nat) (r3:List D) (q3:Nat) (N:Nat):Prop:=AT prog 209 [.ag 9] Q N0 .ord (zC prog 209 9) ⟨an 1 (.str s1::an 3 (.pb 0 0 0 0::.pb 1 0 0 0::.pb 2 0 0 0::an 1 (.int .i64 n9::.bool a8::.int .i64 ba::an 72 []))),[.vd y0 9,.var [.int .i64 I,.str J,.str O,.int .i64 U,.int .i64 Y,.sv aa 2 ab ac,.int .i64 ae,.sv ah 2 ai aj,.sv ak 9 al am],.var [.int .i64 ao,.str aq,.str au,.int .i64 aw,.dc ax,.dc ay,.dc az,.dc a1,.sb 3 9 0 a6 a7],.arr 35 9 r3 q3],N,none⟩
def yT (Q:QT [.pk,.int .i64,.str,.str,.int .i64,.dc,.dc,.dc,.dc,.row 35 9]) (N0:Nat) (O:Addr) (I:D) (U:Addr) (J:D) (m5 c5:Nat) (ax:Option Addr) (ay:List D) (az:Nat) (a1 a6:Int) (y0:D) (Y:Int) (aa ab:ByteArray) (ac ae:Int) (ah:Option Addr) (ai:List D) (aj:Nat) (ak:Int) (al:Option Addr) (am:List D) (ao:Nat) (aq:Option Addr) (au:List D) (aw:Nat) (r2:List D) (q2:Nat) (N:Nat):Prop:=AT prog 160 [.pk,.int .i64,.str,.str,.int .i64,.dc,.dc,.dc,.dc,.row 35 9] Q N0 .ord (zC prog 160 3) ⟨an 1 (.fn 271 [.pd O 0 I,.pd U 9 J]::.pb 0 0 0 0::an 1 (.pb 1 0 0 0::.sb 2 9 0 m5 c5::an 4 (.sv ax 9 ay az::.int .i64 a1::.int .i64 a6::an 13 []))),[.vd y0 9,.var [.int .i64 Y,.str aa,.str ab,.int .i64 ac,.int .i64 ae,.sv ah 2 ai aj,.int .i64 ak,.sv al 2 am ao,.sv aq 9 au aw],.arr 35 9 r2 q2],N,none⟩
def yK (Q:QT [.ag 9]) (N0:Nat) (n8:Int) (ba bb:Nat) (a75:Option Addr) (bc:List D) (bd:Nat) (bg bh:Int) (I:ByteArray) (y1:D) (J:Int) (O U:ByteArray) (Y aa:Int) (ab:Option Addr) (ac:List D) (ae:Nat) (ah:Int) (ai:Option Addr) (aj:List D) (ak:Nat) (al:Option Addr) (am:List D) (ao:Nat) (aq:Int) (au aw:ByteArray) (ax:Int) (ay az a1 a6:D) (a7 a8:Nat) (r4:List D) (q4:Nat) (r5:List D) (q5:Nat) (N:Nat):Prop:=AT prog 228 [.ag 9] Q N0 .ord (zC prog 228 19) ⟨an 4 (.pb 0 0 0 0::.pb 1 0 0 0::.pb 2 0 0 0::an 1 (.int .i64 n8::.pb 3 0 0 0::an 2 (.sb 4 0 0 ba bb::an 62 (.sv a75 0 bc bd::.int .i64 bg::.int .i64 bh::an 26 [])))),[.var [.str I],.vd y1 9,.var [.int .i64 J,.str O,.str U,.int .i64 Y,.int .i64 aa,.sv ab 2 ac ae,.int .i64 ah,.sv ai 2 aj ak,.sv al 9 am ao],.var [.int .i64 aq,.str au,.str aw,.int .i64 ax,.dc ay,.dc az,.dc a1,.dc a6,.sb 5 9 0 a7 a8],.arr 9 0 r4 q4,.arr 35 9 r5 q5],N,none⟩
theorem zFo (N:Nat) (I:D) (n1:Int) (Y:ByteArray) (a3:Option Addr) (O:List D) (U:Nat) (J:ByteArray) (Q:QT [.pk,.int .i64,.str,.str,.int .i64,.dc,.dc,.dc,.dc,.row 35 9]) (h :
Bel N I->Bel N (D.sl a3 0 O U)->∀ b,N<=b->ACalls prog 181 [.sl 0,.int .i64] [.dg 9 I] b (λa c d _ e=>b<=e->Bel e (D.sl a 0 c d)
 -> ∃ b f,∃ g:Nat,(I.cell 8)=D.sl b 9 f g/\(0<=n1/\n1<(f.length:Int))/\∀ b,e<=b->ACalls prog 116 [.row (OfNat.ofNat 9) 0]
 [.dg 9 (List.getD f n1.toNat default)] b (λe f g=>b<=g->Bel g (D.ag e)->(e.length=e.length/\f=f)/\∀ b h,g<=h
 -> Fresh N h b [D.ag e]->(1=([D.lit (.string J)]).length/\1=1)/\∀ g i,h<=i->Fresh N i g [D.ag [D.lit (.string J)]]->(4=([D.sl a3
 0 O U,D.sl b 0 e f,D.sl g 0 [D.lit (.string J)] 1,D.sl a 0 c d]).length/\4=4)/\∀ h,ApA h [D.sl a3 0 O U,D.sl b 0 e f,D.sl g
 0 [D.lit (.string J)] 1,D.sl a 0 c d]->∀ j,i<=j->wL j [h]->ACalls prog 242 [.sl 0] [.sv h 0 [D.sl a3 0 O U,D.sl b 0 e f,D.sl g
 0 [D.lit (.string J)] 1,D.sl a 0 c d] 4] j (λa b c d=>j<=d->Off [h] (D.sl a 0 b c)/\(Bel d (D.sl a 0 b c)->∀ e,d
 <= e->ACalls prog 293 [.str] [.sv a 0 b c] e (λs a=>e<=a->∀ b,a<=b->ACalls prog 101 [Sh.pk,.int .i64,.str,.str,.int .i64,
 Sh.dc,Sh.dc,Sh.dc,Sh.dc,.row (OfNat.ofNat 35) 9] [.dg 9 I] b (λa c d e x f g h i j k=>b<=k->Bel k (D.ag i)->∃ b
 l,∃ m:Nat,(I.cell 8)=D.sl b 9 l m/\(0<=n1/\n1<(l.length:Int))/\∀ b,k<=b->ACalls prog 294 [.ag 9] [.str s] b (λk
 m=>b<=m->Bel m k->∀ b,m<=b->ACalls prog 228 [.ag 9] [.dg 9 (List.getD l n1.toNat default),.str Y,.dg 9 k] b (λk l
 => b<=l->Bel l k->(0<=n1/\n1<(i.length:Int)/\(0+n1.toNat:Nat)<i.length)/\(0+n1.toNat:Nat)<i.length/\∃ b,(I.cell 1)
 = D.lit (.string b)/\Br (ByteArray.toList b==ByteArray.toList Y) ((i.length=(List.set i (0+n1.toNat:Nat) k).length/\j=j)/\∀ b,l
 <= b->Q a s d e x f g h (List.set i (0+n1.toNat:Nat) k) j b) ((i.length=(List.set i (0+n1.toNat:Nat) k).length/\j =
 j)/\∀ b,l<=b->Q a c s e x f g h (List.set i (0+n1.toNat:Nat) k) j b)))))))))):ACalls prog 272 [.pk,.int .i64,.str,.str,.int .i64,.dc,.dc,.dc,.dc,.row 35 9] [PV.dg 9 I,PV.int .i64 n1,PV.str Y,PV.sv a3 0 O U,PV.str J] N Q:=
  eE (H:=zGL) (by kernel_rfl) (by kernel_rfl) h
theorem zDL (N:Nat) (I:D) (O:ByteArray) (J:D) (Q:QT [.ag 9]) (h :
Bel N I->Bel N J->∃ n:Int,(I.cell 0)=D.lit (.int .i64 n)/\Br (n==1) (∃ s,(I.cell 1)=D.lit (.string s)/\Br (ByteArray.toList s==ByteArray.toList
 O) (∀ b,N<=b->ACalls prog 101 [Sh.pk,.int .i64,.str,.str,.int .i64,Sh.dc,Sh.dc,Sh.dc,Sh.dc,.row (OfNat.ofNat 35) 9] [.dg 9 J] b (λc d
 e f x g h i j k l=>b<=l->Bel l (D.ag j)->(j.length=j.length/\k=k)/\(j.length=j.length/\k=k)/\∀ a b,l<=b->Fresh
 N b a [D.ag j,x,g,h,i]->∀ l,b<=l->Q (D.ag [D.lit (.int .i64 c),D.lit (.string d),D.lit (.string e),D.lit (.int .i64 f),x,g,
 h,i,D.sl a 9 j k]) l)) (∀ a,N<=a->ACalls prog 101 [Sh.pk,.int .i64,.str,.str,.int .i64,Sh.dc,Sh.dc,Sh.dc,Sh.dc,.row (OfNat.ofNat 35) 9]
 [.dg 9 I] a (λb c d e f g h i j k l=>a<=l->Bel l (D.ag j)->(j.length=j.length/\k=k)/\(j.length=j.length
 /\ k=k)/\∀ a m,l<=m->Fresh N m a [D.ag j,f,g,h,i]->∀ l,m<=l->Q (D.ag [D.lit (.int .i64 b),D.lit (.string c),D.lit
 (.string d),D.lit (.int .i64 e),f,g,h,i,D.sl a 9 j k]) l))) (∀ a,N<=a->ACalls prog 181 [.sl 0,.int .i64] [.dg 9 I] a (λb
 c d e f=>a<=f->Bel f (D.sl b 0 c d)->Br (decide (e<0)) (∀ a,ApA (Option.some a) [D.lit (.string O)]->Off [Option.some a]
 I->∀ b,ApA (Option.some b) [J]->Off [Option.some b] I->∀ c,f<=c->wL c [Option.some a,Option.some b]->ACalls prog 160 [Sh.pk,
 .int .i64,.str,.str,.int .i64,Sh.dc,Sh.dc,Sh.dc,Sh.dc,.row (OfNat.ofNat 35) 9] [.dg 9 I,.fn 271 [.pd a 0 (D.lit (.string O)),.pd b 9 J]] c (fun
 d e f g h i j k l m n=>c<=n->Off [Option.some a,Option.some b] h/\Off [Option.some a,Option.some b] i/\Off [Option.some
 a,Option.some b] j/\Off [Option.some a,Option.some b] k/\Off [Option.some a,Option.some b] (D.ag l)/\(Bel n (D.ag l)->(l.length
 = l.length/\m=m)/\(l.length=l.length/\m=m)/\∀ a b,n<=b->Fresh N b a [D.ag l,h,i,j,k]->∀ c,b
 <= c->Q (D.ag [D.lit (.int .i64 d),D.lit (.string e),D.lit (.string f),D.lit (.int .i64 g),h,i,j,k,D.sl a 9 l m]) c))) (∀
 a,f<=a->ACalls prog 101 [Sh.pk,.int .i64,.str,.str,.int .i64,Sh.dc,Sh.dc,Sh.dc,Sh.dc,.row (OfNat.ofNat 35) 9] [.dg 9 I] a (λf g h
 i j k l m n o p=>a<=p->Bel p (D.ag n)->∃ a q,∃ r:Nat,(I.cell 8)=D.sl a 9 q r/\yL Q
 N b c d e a q r (q.length:Int) 0 I O J 0 (bytes []) (bytes []) 0 0 Option.none [] 0 0 Option.none [] 0 Option.none [] 0 f g h i j
 k l m n.length o n o p))))):ACalls prog 228 [.ag 9] [PV.dg 9 I,PV.str O,PV.dg 9 J] N Q:=
  eE (H:=vX) (by kernel_rfl) (by kernel_rfl) h
theorem zFT (N:Nat) (I:D) (n1:Int) (U:ByteArray) (a3:Option Addr) (J:List D) (O:Nat) (Q:QT [.pk,.int .i64,.str,.str,.int .i64,.dc,.dc,.dc,.dc,.row 35 9]) (h :
Bel N I->Bel N (D.sl a3 0 J O)->∀ b,N<=b->ACalls prog 83 [Sh.pk,.int .i64,.str,.str,.int .i64,Sh.dc,Sh.dc,Sh.dc,Sh.dc,.row (OfNat.ofNat 35)
 9] [.dg 9 I] b (λn s c d x e f g h i j=>b<=j->Bel j (D.ag h)->∀ b,j<=b->ACalls prog 172 [.sl 0,.int .i64] [.dg 9 I] b
 (λa j k _ l=>b<=l->Bel l (D.sl a 0 j k)->yS Q N n1 U a3 J O a j k 0 0 (bytes []) (bytes []) 0 0 Option.none []
 0 0 Option.none [] 0 Option.none [] 0 n s c d x e f g h.length i h i l))):ACalls prog 256 [.pk,.int .i64,.str,.str,.int .i64,.dc,.dc,.dc,.dc,.row 35 9] [PV.dg 9 I,PV.int .i64 n1,PV.str U,PV.sv a3 0 J O] N Q:=
  eE (H:=pG) (by kernel_rfl) (by kernel_rfl) h
theorem zCh (N:Nat) (O:D) (I:ByteArray) (J:D) (Q:QT [.ag 9]) (h :
Bel N O->Bel N J->∃ n:Int,(O.cell 0)=D.lit (.int .i64 n)/\Br (n==1) (∃ s,(O.cell 1)=D.lit (.string s)/\Br (ByteArray.toList s==ByteArray.toList
 I) (∀ b,N<=b->ACalls prog 83 [Sh.pk,.int .i64,.str,.str,.int .i64,Sh.dc,Sh.dc,Sh.dc,Sh.dc,.row (OfNat.ofNat 35) 9] [.dg 9 J] b (λc d e
 f x g h i j k l=>b<=l->Bel l (D.ag j)->(j.length=j.length/\k=k)/\(j.length=j.length/\k=k)/\∀ a b,l<=b->Fresh N b
 a [D.ag j,x,g,h,i]->∀ l,b<=l->Q (D.ag [D.lit (.int .i64 c),D.lit (.string d),D.lit (.string e),D.lit (.int .i64 f),x,g,h,
 i,D.sl a 9 j k]) l)) (∀ a,N<=a->ACalls prog 83 [Sh.pk,.int .i64,.str,.str,.int .i64,Sh.dc,Sh.dc,Sh.dc,Sh.dc,.row (OfNat.ofNat 35) 9] [.dg 9
 O] a (λb c d e f g h i j k l=>a<=l->Bel l (D.ag j)->∀ a,l<=a->ACalls prog 172 [.sl 0,.int .i64] [.dg 9 O] a
 (λl m n o p=>a<=p->Bel p (D.sl l 0 m n)->∀ a,p<=a->ACalls prog 234 [.int .i64] [.sv l 0 m n,.str I] a (λl
 m=>a<=m->Br (decide (o≥0)) (Br (!(decide (l≥0))) (∃ a n,∃ p:Nat,(O.cell 8)=D.sl a 9 n p/\(0<=o/\o<(n.length
 : Int))/\∀ a,m<=a->ACalls prog 109 [.sl 0] [.dg 9 (List.getD n o.toNat default)] a (λm n p q=>a<=q->Bel q (D.sl m
 0 n p)->∀ a,q<=a->ACalls prog 234 [.int .i64] [.sv m 0 n p,.str I] a (λm n=>a<=n->Br (decide (m≥0)) (∀ a,
 n<=a->ACalls prog 109 [.sl 0] [.dg 9 J] a (λb c d e=>a<=e->Bel e (D.sl b 0 c d)->∀ a,e<=a->ACalls prog
 256 [Sh.pk,.int .i64,.str,.str,.int .i64,Sh.dc,Sh.dc,Sh.dc,Sh.dc,.row (OfNat.ofNat 35) 9] [.dg 9 O,.int .i64 o,.str I,.sv b 0 c d] a (fun
 b c d e f g h i j k m=>a<=m->Bel m (D.ag j)->zD Q N I o (decide (l≥0)) 0 J 0 (bytes []) (bytes
 []) 0 0 Option.none [] 0 0 Option.none [] 0 Option.none [] 0 b c d e f g h i j.length k j k m))) (zD Q N I o (decide
 (l≥0)) 0 J 0 (bytes []) (bytes []) 0 0 Option.none [] 0 0 Option.none [] 0 Option.none [] 0 b c d e f g h i j.length k j k n))))
 (zD Q N I o (decide (l≥0)) 0 J 0 (bytes []) (bytes []) 0 0 Option.none [] 0 0 Option.none [] 0 Option.none [] 0 b c d e f g h
 i j.length k j k m)) (zD Q N I o (decide (l≥0)) 0 J 0 (bytes []) (bytes []) 0 0 Option.none [] 0 0 Option.none [] 0 Option.none
 [] 0 b c d e f g h i j.length k j k m)))))) (∀ a,N<=a->ACalls prog 83 [Sh.pk,.int .i64,.str,.str,.int .i64,Sh.dc,Sh.dc,
 Sh.dc,Sh.dc,.row (OfNat.ofNat 35) 9] [.dg 9 O] a (λb c d e f g h i j k l=>a<=l->Bel l (D.ag j)->∀ a,l
 <= a->ACalls prog 172 [.sl 0,.int .i64] [.dg 9 O] a (λl m n o p=>a<=p->Bel p (D.sl l 0 m n)->∀ a,p<=a->ACalls
 prog 234 [.int .i64] [.sv l 0 m n,.str I] a (λl m=>a<=m->Br (decide (o≥0)) (Br (!(decide (l≥0))) (∃ a n,∃ p:Nat,
 (O.cell 8)=D.sl a 9 n p/\(0<=o/\o<(n.length:Int))/\∀ a,m<=a->ACalls prog 109 [.sl 0] [.dg 9 (List.getD n o.toNat default)]
 a (λm n p q=>a<=q->Bel q (D.sl m 0 n p)->∀ a,q<=a->ACalls prog 234 [.int .i64] [.sv m 0 n p,.str I]
 a (λm n=>a<=n->Br (decide (m≥0)) (∀ a,n<=a->ACalls prog 109 [.sl 0] [.dg 9 J] a (λb c d e=>a<=e
 -> Bel e (D.sl b 0 c d)->∀ a,e<=a->ACalls prog 256 [Sh.pk,.int .i64,.str,.str,.int .i64,Sh.dc,Sh.dc,Sh.dc,Sh.dc,.row (OfNat.ofNat
 35) 9] [.dg 9 O,.int .i64 o,.str I,.sv b 0 c d] a (λb c d e f g h i j k m=>a<=m->Bel m (D.ag
 j)->zD Q N I o (decide (l≥0)) 0 J 0 (bytes []) (bytes []) 0 0 Option.none [] 0 0 Option.none [] 0 Option.none [] 0 b c d e
 f g h i j.length k j k m))) (zD Q N I o (decide (l≥0)) 0 J 0 (bytes []) (bytes []) 0 0 Option.none [] 0 0
 Option.none [] 0 Option.none [] 0 b c d e f g h i j.length k j k n)))) (zD Q N I o (decide (l≥0)) 0 J
 0 (bytes []) (bytes []) 0 0 Option.none [] 0 0 Option.none [] 0 Option.none [] 0 b c d e f g h i j.length k j k m)) (zD
 Q N I o (decide (l≥0)) 0 J 0 (bytes []) (bytes []) 0 0 Option.none [] 0 0 Option.none [] 0 Option.none [] 0 b c d e f g h i j.length
 k j k m)))))):ACalls prog 209 [.ag 9] [PV.dg 9 O,PV.str I,PV.dg 9 J] N Q:=
  eE (H:=su) (by kernel_rfl) (by kernel_rfl) h
theorem rA (N:Nat) (Y:D) (O:Addr) (I:D) (U:Addr) (J:D) (Q:QT [.pk,.int .i64,.str,.str,.int .i64,.dc,.dc,.dc,.dc,.row 35 9]) (h :
Bel N Y->∃ a b,∃ c:Nat,(Y.cell 8)=D.sl a 9 b c/\yT Q N O I U J 0 0 a b c (b.length:Int) 0 Y 0 (bytes []) (bytes
 []) 0 0 Option.none [] 0 0 Option.none [] 0 Option.none [] 0 [] 0 N):ACalls prog 160 [.pk,.int .i64,.str,.str,.int .i64,.dc,.dc,.dc,.dc,.row 35 9] [.dg 9 Y,.fn 271 [.pd O 0 I,.pd U 9 J]] N Q:=
  eE (H:=uW) (by kernel_rfl) (by kernel_rfl) h
theorem uH (Q:QT [.ag 9]) (N0:Nat) (a7:Option Addr) (e7:List D) (c7:Nat) (n8:Int) (bg:Option Addr) (bc:List D) (bh:Nat) (bd O:Int) (y0:D) (ac:ByteArray) (y2:D) (ak:Int) (al am:ByteArray) (ao aq:Int) (au:Option Addr) (aw:List D) (ax:Nat) (ay:Int) (az:Option Addr) (a1:List D) (a6:Nat) (a8:Option Addr) (ba:List D) (bb:Nat) (ae:Int) (ah ai:ByteArray) (aj:Int) (U Y aa ab:D) (I J:Nat) (r5:List D) (q5:Nat) (N:Nat) (h :
Br (decide (O<bd)) ((0<=O/\O<(bc.length:Int))/\Br (bne O n8) (∀ a,N<=a->ACalls prog 228 [.ag 9] [.dg 9 (List.getD bc O.toNat default),
 .str ac,.dg 9 y2] a (λx b=>a<=b->Bel b x->(0<=O/\O<(I:Int)/\(0+O.toNat:Nat)<r5.length)/\(0+O.toNat:Nat)<r5.length
 /\ yL Q N0 a7 e7 c7 n8 bg bc bh bd (IntKind.i64.wrap (O+1)) y0 ac y2 ak al am ao aq au aw ax ay az a1 a6 a8 ba
 bb ae ah ai aj U Y aa ab I J (List.set r5 (0+O.toNat:Nat) x) q5 b)) (yL Q N0 a7 e7 c7 n8 bg bc bh bd (IntKind.i64.wrap
 (O+1)) y0 ac y2 ak al am ao aq au aw ax ay az a1 a6 a8 ba bb ae ah ai aj U Y aa ab I J r5 q5 N)) (∀ d,
 N<=d->ACalls prog 184 [.bool] [.sv a7 0 e7 c7,.str ac] d (λb e=>d<=e->Br b ((I=r5.length/\J=q5)/\(I=r5.length/\J=q5)
 /\ (I=r5.length/\J=q5)/\∀ a b,e<=b->Fresh N0 b a [D.ag r5,U,Y,aa,ab]->∀ c,b<=c->Q (D.ag [D.lit (.int .i64 ae),D.lit
 (.string ah),D.lit (.string ai),D.lit (.int .i64 aj),U,Y,aa,ab,D.sl a 9 r5 q5]) c) (∃ a b,∃ c:Nat,(y0.cell 8)=D.sl a 9 b c /\
 (0<=n8/\n8<(b.length:Int))/\∀ a,e<=a->ACalls prog 116 [.row (OfNat.ofNat 9) 0] [.dg 9 (List.getD b n8.toNat default)] a (λb c d=>
 a<=d->Bel d (D.ag b)->(b.length=b.length/\c=c)/\∀ a,ApA a b->∀ e,d<=e->wL e [a]->ACalls prog 184 [.bool] [.sv
 a 0 b c,.str ac] e (λa b=>e<=b->Br (!a) ((I=r5.length/\J=q5)/\(I=r5.length/\J=q5)/\(I=r5.length/\J
 = q5)/\∀ a c,b<=c->Fresh N0 c a [D.ag r5,U,Y,aa,ab]->∀ b,c<=b->Q (D.ag [D.lit (.int .i64 ae),D.lit (.string ah),
 D.lit (.string ai),D.lit (.int .i64 aj),U,Y,aa,ab,D.sl a 9 r5 q5]) b) (∀ a,b<=a->ACalls prog 116 [.row (OfNat.ofNat 9) 0] [.dg
 9 y2] a (λb c d=>a<=d->Bel d (D.ag b)->yK Q N0 n8 b.length c a7 e7 c7 (e7.length:Int) 0 ac y2 ak al
 am ao aq au aw ax ay az a1 a6 a8 ba bb ae ah ai aj U Y aa ab I J b c r5 q5 d)))))))):yL Q N0 a7 e7 c7 n8 bg bc bh bd O y0 ac y2 ak al am ao aq au aw ax ay az a1 a6 a8 ba bb ae ah ai aj U Y aa ab I J r5 q5 N:=
  hE (H:=vX) (by kernel_rfl) h
theorem s6 (Q:QT [.pk,.int .i64,.str,.str,.int .i64,.dc,.dc,.dc,.dc,.row 35 9]) (N0:Nat) (n1:Int) (s2:ByteArray) (a3:Option Addr) (e3:List D) (c3:Nat) (bb:Option Addr) (ah:List D) (bc:Nat) (O ak:Int) (al am:ByteArray) (ao aq:Int) (au:Option Addr) (aw:List D) (ax:Nat) (ay:Int) (az:Option Addr) (a1:List D) (a6:Nat) (a7:Option Addr) (a8:List D) (ba:Nat) (U:Int) (ai aj:ByteArray) (Y:Int) (aa ab ac ae:D) (I J:Nat) (r2:List D) (q2:Nat) (N:Nat) (h :
Br (decide (O<(ah.length:Int))) ((0<=O/\O<(ah.length:Int))/\∃ s,List.getD ah O.toNat default=D.lit (.string s)/\∀ b,N<=b->ACalls
 prog 234 [.int .i64] [.sv a3 0 e3 c3,.str s] b (λn d=>b<=d->Br (decide (n<0)) (yS Q N0 n1 s2 a3 e3 c3 bb ah bc (IntKind.i64.wrap
 (O+1)) ak al am ao aq au aw ax ay az a1 a6 a7 a8 ba U ai aj Y aa ab ac ae I J r2 q2 d) ((I=r2.length
 /\ J=q2)/\∀ a,ApA a r2->∀ b,d<=b->wL b [a]->ACalls prog 172 [.sl 0,.int .i64] [.dg 9 (D.ag [D.lit (.int .i64 U),D.lit (.string ai),D.lit
 (.string aj),D.lit (.int .i64 Y),aa,ab,ac,ae,D.sl a 9 r2 J])] b (λc d e _ f=>b<=f->Off [a] (D.sl c 0 d e)/\(Bel f
 (D.sl c 0 d e)->(0<=n1/\n1<(I:Int)/\(0+n1.toNat:Nat)<r2.length)/\(0+n1.toNat:Nat)<r2.length/\∀ a,f<=a->ACalls prog 109 [.sl
 0] [.dg 9 (List.getD r2 (0+n1.toNat:Nat) default)] a (λb c e f=>a<=f->Bel f (D.sl b 0 c e)->∀ a,f<=a->ACalls prog 175
 [.row (OfNat.ofNat 9) 0] [.sv a3 0 e3 c3,.sv b 0 c e] a (λb c e=>a<=e->Bel e (D.ag b)->(b.length=b.length/\c=c)
 /\ zB b [D.lit (.string s2)] 16/\∀ (a:Nat),((b++[D.lit (.string s2)]).length=(b++[D.lit (.string s2)]).length/\a=a)/\zB (b
 ++ [D.lit (.string s2)]) d 16/\∀ (a:Nat),((b++[D.lit (.string s2)]++d).length=(b++[D.lit (.string s2)]++d).length/\a=a)/\∀ c,
 ApA c (b++[D.lit (.string s2)]++d)->∀ f,e<=f->wL f [c]->ACalls prog 282 [.str] [.sv c 0 (b++[D.lit (.string s2)]++d) a] f
 (λa b=>f<=b->(0<=n1/\n1<(I:Int)/\(0+n1.toNat:Nat)<r2.length)/\(0+n1.toNat:Nat)<r2.length/\(0<=O/\O<(ah.length :
 Int))/\∃ c,List.getD ah O.toNat default=D.lit (.string c)/\∀ d,b<=d->ACalls prog 157 [.ag 9] [.str a] d (λx b=>d<=b ->
 Bel b x->∀ d,b<=d->ACalls prog 209 [.ag 9] [.dg 9 (List.getD r2 (0+n1.toNat:Nat) default),.str c,.dg 9 x] d (λb c=>d<=c
 -> Bel c b->(0<=n1/\n1<(I:Int)/\(0+n1.toNat:Nat)<r2.length)/\(0+n1.toNat:Nat)<r2.length/\Br (O==0) (yS Q N0 n1 s2
 a3 e3 c3 bb ah bc (IntKind.i64.wrap (O+1)) ak al am ao aq au aw ax ay az a1 a6 a7 a8 ba U a aj Y aa ab ac ae
 I J (List.set r2 (0+n1.toNat:Nat) b) q2 c) (yS Q N0 n1 s2 a3 e3 c3 bb ah bc (IntKind.i64.wrap (O+1)) ak al am ao aq
 au aw ax ay az a1 a6 a7 a8 ba U ai a Y aa ab ac ae I J (List.set r2 (0+n1.toNat:Nat) b) q2 c))))))))))) ((I
 = r2.length/\J=q2)/\∀ a,N<=a->Q U ai aj Y aa ab ac ae r2 J a)):yS Q N0 n1 s2 a3 e3 c3 bb ah bc O ak al am ao aq au aw ax ay az a1 a6 a7 a8 ba U ai aj Y aa ab ac ae I J r2 q2 N:=
  hE (H:=pG) (by kernel_rfl) h
theorem tD (Q:QT [.ag 9]) (N0:Nat) (s1:ByteArray) (n9:Int) (ba:Bool) (I:Int) (y0:D) (aj:Int) (ak al:ByteArray) (am ao:Int) (aq:Option Addr) (au:List D) (aw:Nat) (ax:Int) (ay:Option Addr) (az:List D) (a1:Nat) (a6:Option Addr) (a7:List D) (a8:Nat) (ac:Int) (ae ah:ByteArray) (ai:Int) (U Y aa ab:D) (J O:Nat) (r3:List D) (q3:Nat) (N:Nat) (h :
Br (decide (I<(J:Int))) (Br (bne I n9) ((0<=I/\I<(J:Int)/\(0+I.toNat:Nat)<r3.length)/\(0+I.toNat:Nat)<r3.length/\∀ a,
 N<=a->ACalls prog 209 [.ag 9] [.dg 9 (List.getD r3 (0+I.toNat:Nat) default),.str s1,.dg 9 y0] a (λx b=>a<=b->Bel b x->(0<=I/\I
 < (J:Int)/\(0+I.toNat:Nat)<r3.length)/\(0+I.toNat:Nat)<r3.length/\zD Q N0 s1 n9 ba (IntKind.i64.wrap (I+1)) y0 aj
 ak al am ao aq au aw ax ay az a1 a6 a7 a8 ac ae ah ai U Y aa ab J O (List.set r3 (0+I.toNat:Nat) x) q3
 b)) (Br (!ba) ((0<=I/\I<(J:Int)/\(0+I.toNat:Nat)<r3.length)/\(0+I.toNat:Nat)<r3.length/\∀ a,N<=a->ACalls prog 209 [.ag
 9] [.dg 9 (List.getD r3 (0+I.toNat:Nat) default),.str s1,.dg 9 y0] a (λb c=>a<=c->Bel c b->(0<=I/\I<(J:Int)/\(0+I.toNat
 : Nat)<r3.length)/\(0+I.toNat:Nat)<r3.length/\zD Q N0 s1 n9 ba (IntKind.i64.wrap (I+1)) y0 aj ak al am ao aq au aw
 ax ay az a1 a6 a7 a8 ac ae ah ai U Y aa ab J O (List.set r3 (0+I.toNat:Nat) b) q3 c)) (zD Q N0 s1
 n9 ba (IntKind.i64.wrap (I+1)) y0 aj ak al am ao aq au aw ax ay az a1 a6 a7 a8 ac ae ah ai U Y aa ab J O
 r3 q3 N))) ((J=r3.length/\O=q3)/\(J=r3.length/\O=q3)/\(J=r3.length/\O=q3)/\(J=r3.length/\O=q3)/\∀ a b,N<=b
 -> Fresh N0 b a [D.ag r3,U,Y,aa,ab]->∀ c,b<=c->Q (D.ag [D.lit (.int .i64 ac),D.lit (.string ae),D.lit (.string ah),D.lit (.int
 .i64 ai),U,Y,aa,ab,D.sl a 9 r3 q3]) c)):zD Q N0 s1 n9 ba I y0 aj ak al am ao aq au aw ax ay az a1 a6 a7 a8 ac ae ah ai U Y aa ab J O r3 q3 N:=
  hE (H:=su) (by kernel_rfl) h
theorem vR (Q:QT [.pk,.int .i64,.str,.str,.int .i64,.dc,.dc,.dc,.dc,.row 35 9]) (N0:Nat) (U:Addr) (I:D) (Y:Addr) (J:D) (m5 c5:Nat) (a1:Option Addr) (aa:List D) (a6:Nat) (az O:Int) (y0:D) (ab:Int) (ac ae:ByteArray) (ah ai:Int) (aj:Option Addr) (ak:List D) (al:Nat) (am:Int) (ao:Option Addr) (aq:List D) (au:Nat) (aw:Option Addr) (ax:List D) (ay:Nat) (r2:List D) (q2:Nat) (N:Nat) (h :
Br (decide (O<az)) ((0<=O/\O<(aa.length:Int))/\∀ a,N<=a->ACalls prog 271 [.ag 9] [.dg 9 (List.getD aa O.toNat default),.pd U 0 I,
 .pd Y 9 J] a (λx b=>a<=b->Bel b x->(m5=r2.length/\c5=q2)/\zB r2 [x] 136/\∀ (c:Nat),yT Q N0 U I Y
 J (r2++[x]).length c a1 aa a6 az (IntKind.i64.wrap (O+1)) y0 ab ac ae ah ai aj ak al am ao aq au aw ax ay (r2++[x])
 c b)) ((m5=r2.length/\c5=q2)/\∀ a,ApA a r2->Off [a] y0->∀ b,N<=b->wL b [a]->ACalls prog 164 [Sh.pk,.int .i64,.str,.str,.int .i64,Sh.dc,
 Sh.dc,Sh.dc,Sh.dc,Sh.bk 1] [.dg 9 y0,.sv a 9 r2 c5] b (λn s c d e f g h i j=>b<=j->i=D.sl a 9 r2 c5/\Off [a] e/\Off [a]
 f/\Off [a] g/\Off [a] h/\(m5=r2.length/\c5=q2)/\∀ a,j<=a->Q n s c d e f g h r2 c5 a))):yT Q N0 U I Y J m5 c5 a1 aa a6 az O y0 ab ac ae ah ai aj ak al am ao aq au aw ax ay r2 q2 N:=
  hE (H:=uW) (by kernel_rfl) h
theorem v8 (Q:QT [.ag 9]) (N0:Nat) (O:Int) (ao ah:Nat) (a75:Option Addr) (aq:List D) (bj:Nat) (bi ai:Int) (Y:ByteArray) (y1:D) (au:Int) (aw ax:ByteArray) (ay az:Int) (a1:Option Addr) (a6:List D) (a7:Nat) (a8:Int) (ba:Option Addr) (bb:List D) (bc:Nat) (bd:Option Addr) (bg:List D) (bh:Nat) (aj:Int) (ak al:ByteArray) (am:Int) (aa ab ac ae:D) (I J:Nat) (r4:List D) (q4:Nat) (U:List D) (q5:Nat) (N:Nat) (h :
Br (decide (ai<bi)) ((0<=ai/\ai<(aq.length:Int))/\∃ s,List.getD aq ai.toNat default=D.lit (.string s)/\(ao=r4.length/\ah=q4)/\∀ a,ApA
 a r4->∀ d,N<=d->wL d [a]->ACalls prog 184 [.bool] [.sv a 0 r4 ah,.str s] d (λb a=>d<=a->Br b ((I=U.length/\J=q5)/\(I
 = U.length/\J=q5)/\∀ b d,a<=d->Fresh N0 d b [D.ag U]->(ao=r4.length/\ah=q4)/\∀ a,ApA a r4->∀ e,d<=e->wL e [a]
 -> ACalls prog 272 [Sh.pk,.int .i64,.str,.str,.int .i64,Sh.dc,Sh.dc,Sh.dc,Sh.dc,.row (OfNat.ofNat 35) 9] [.dg 9 (D.ag [D.lit (.int .i64 aj),D.lit (.string
 ak),D.lit (.string al),D.lit (.int .i64 am),aa,ab,ac,ae,D.sl b 9 U q5]),.int .i64 O,.str s,.sv a 0 r4 ah,.str Y] e (λn b
 c d x f g h i j k=>e<=k->Off [a] x/\Off [a] f/\Off [a] g/\Off [a] h/\Off [a] (D.ag i)/\(Bel k (D.ag i)->yK
 Q N0 O ao ah a75 aq bj bi (IntKind.i64.wrap (ai+1)) Y y1 au aw ax ay az a1 a6 a7 a8 ba bb bc bd bg bh n b c d x f
 g h i.length j r4 q4 i j k))) (yK Q N0 O ao ah a75 aq bj bi (IntKind.i64.wrap (ai+1)) Y y1 au aw ax ay az a1 a6
 a7 a8 ba bb bc bd bg bh aj ak al am aa ab ac ae I J r4 q4 U q5 a))) ((0<=O/\O<(I:Int)/\(0+O.toNat:Nat)
 < U.length)/\(0+O.toNat:Nat)<U.length/\∀ a,N<=a->ACalls prog 228 [.ag 9] [.dg 9 (List.getD U (0+O.toNat:Nat) default),.str Y,.dg 9 y1]
 a (λb c=>a<=c->Bel c b->(0<=O/\O<(I:Int)/\(0+O.toNat:Nat)<U.length)/\(0+O.toNat:Nat)<U.length/\(I=(List.set
 U (0+O.toNat:Nat) b).length/\J=q5)/\(I=(List.set U (0+O.toNat:Nat) b).length/\J=q5)/\(I=(List.set U (0+O.toNat:Nat)
 b).length/\J=q5)/\(I=(List.set U (0+O.toNat:Nat) b).length/\J=q5)/\(I=(List.set U (0+O.toNat:Nat) b).length/\J=q5)
 /\ ∀ a d,c<=d->Fresh N0 d a [D.ag (List.set U (0+O.toNat:Nat) b),aa,ab,ac,ae]->∀ c,d<=c->Q (D.ag [D.lit (.int .i64 aj),
 D.lit (.string ak),D.lit (.string al),D.lit (.int .i64 am),aa,ab,ac,ae,D.sl a 9 (List.set U (0+O.toNat:Nat) b) q5]) c))):yK Q N0 O ao ah a75 aq bj bi ai Y y1 au aw ax ay az a1 a6 a7 a8 ba bb bc bd bg bh aj ak al am aa ab ac ae I J r4 q4 U q5 N:=
  hE (H:=vX) (by kernel_rfl) h
theorem rS (N:Nat) (O:D) (U:Addr) (I:D) (a2:Addr) (J:D) (Q:QT [.ag 9]) (h :
Bel N O->∃ s,I=D.lit (.string s)/\∀ a,N<=a->ACalls prog 228 [.ag 9] [.dg 9 O,.str s,.dg 9 J] a (λx b=>a<=b->Bel b x->∀ a,
 b<=a->Q x a)):ACalls prog 271 [.ag 9] [.dg 9 O,.pd U 0 I,.pd a2 9 J] N Q:=
  eE (H:=zAC) (by kernel_rfl) (by kernel_rfl) h
end Go.Proofs.YtmfjakahanbnlaaGreatDoor
set_option maxRecDepth 100000
namespace Go.Proofs.YtmfjakahanbnlaaGreatDoor
open Go Go.Proofs Go.Proofs.Tryz
def zCt:Hint:=⟨[],[],[(8,hs 10 [ec 1 [12],ec 7 [18]])]⟩
def zAo:Hint:=⟨[hc 4 [1,2,5]],[],[(6,[en 0,en 1,en 2,en 3,en 4,en 5,en 6,ec 7 [25],ec 8 [24],en 9])]⟩
def rI:Hint:=⟨[hc 6 [1,2,4,5,6],hc 12 [1,2,4,5,9]],[],[(8,hs 7 [ec 5 [37]]),(9,hs 9 [ec 2 [41]]),(17,[en 0,en 1,en 2,en 3,en 4,en 5,en 6,en 7,eh 8,en 9,en 10,en 11,en 12,en 13])]⟩
def zJp:Hint:=⟨[],[],[(1,hs 12 [ec 5 [13]]),(4,hs 7 [ec 3 [21,23]])]⟩
def zFk:Hint:=⟨[],[],[(1,hs 4 [ec 1 [8]])]⟩
def zAO:Hint:=⟨[hc 3 [1,2,4,5]],[],[(5,hs 7 [ec 5 [20]]),(6,hs 9 [ec 2 [24]]),(10,[en 0,en 1,en 2,en 3,en 4,en 5,en 6,en 7,en 8,en 9,ec 10 [38,44],eh 11,en 12]),(12,[en 0,en 1,en 2,en 3,en 4,en 5,en 6,en 8,en 9,en 10,en 11,en 12,en 13,ec 7 [51,54],ec 14 [55,61],eh 15,en 16])]⟩
def pJ:Hint:=⟨[hc 10 [1,2,4,10]],[],[(3,hs 3 [ec 1 [25]]),(4,hs 8 [ec 1 [29]]),(7,hs 8 [ec 4 [41]]),(12,[en 0,en 1,en 2,en 3,en 4,en 5,en 6,en 13,ec 7 [57],ec 8 [56],en 9,en 10,en 11,en 12,eh 14,en 15,en 16]),(14,hs 8 [ec 3 [65,67]])]⟩
def zH2:Hint:=⟨[],[],[(2,hs 3 [ec 1 [11]]),(3,hs 8 [ec 1 [15]]),(6,hs 10 [ec 7 [36]]),(8,[en 0,en 1,en 2,en 3,en 4,en 5,en 6,ec 7 [45,48],eh 8,en 9]),(10,hs 7 [ec 4 [62]])]⟩
def zGF:Hint:=⟨[],[],[(1,hs 2 [ec 1 [13]]),(5,hs 8 [ec 1 [21]]),(8,hs 8 [ec 1 [30]]),(11,hs 13 [ec 4 [42]]),(12,hs 6 [ec 2 [47,48]]),(17,hs 8 [ec 1 [57]])]⟩
def zJo:Hint:=⟨[],[],[]⟩
def zIc:Hint:=⟨[],[],[]⟩
def zGO:Hint:=⟨[],[],[]⟩
def zH7:Hint:=⟨[],[],[]⟩
def zKH:Hint:=⟨[],[],[]⟩
def yp (Q:QT [.bool]) (N0:Nat) (n1 I:Int) (J:D) (N:Nat):Prop:=AT prog 142 [.bool] Q N0 .ord (zC prog 142 4) ⟨an 1 (.int .i64 n1::.pb 0 0 0 0::an 2 (.int .i64 I::an 24 [])),[.vd J 9],N,none⟩
def yE (Q:QT [.ag 9,.int .i64]) (N0:Nat) (n4:Int) (m5 c5:Nat) (n6:Int) (y0:D) (I:Int) (J O:ByteArray) (U Y:Int) (aa:Option Addr) (ab:List D) (ac:Nat) (ae:Int) (ah:Option Addr) (ai:List D) (aj:Nat) (ak:Option Addr) (al:List D) (am:Nat) (r2:List D) (q2:Nat) (N:Nat):Prop:=AT prog 143 [.ag 9,.int .i64] Q N0 .ord (zC prog 143 6) ⟨an 1 (.pb 0 0 0 0::.pb 1 0 0 0::an 1 (.int .i64 n4::.sb 2 0 0 m5 c5::.int .i64 n6::an 95 [])),[.vd y0 9,.var [.int .i64 I,.str J,.str O,.int .i64 U,.int .i64 Y,.sv aa 2 ab ac,.int .i64 ae,.sv ah 2 ai aj,.sv ak 9 al am],.arr 3 0 r2 q2],N,none⟩
def wc (Q:QT [.ag 9,.int .i64]) (N0:Nat) (n5:Int) (y0:D) (I:Int) (J O:ByteArray) (U Y:Int) (aa:Option Addr) (ab:List D) (ac:Nat) (ae:Int) (ah:Option Addr) (ai:List D) (aj:Nat) (ak:Option Addr) (al:List D) (am:Nat) (y2:D) (N:Nat):Prop:=AT prog 144 [.ag 9,.int .i64] Q N0 .ord (zC prog 144 3) ⟨an 1 (.pb 0 0 0 0::.pb 1 0 0 0::an 1 (.pb 2 0 0 0::.int .i64 n5::an 58 [])),[.vd y0 9,.var [.int .i64 I,.str J,.str O,.int .i64 U,.int .i64 Y,.sv aa 2 ab ac,.int .i64 ae,.sv ah 2 ai aj,.sv ak 9 al am],.vd y2 9],N,none⟩
def yF (Q:QT [.ag 9,.int .i64,.bool]) (N0:Nat) (n1 ao:Int) (y0:D) (I:Int) (J O:ByteArray) (U Y:Int) (aa:Option Addr) (ab:List D) (ac:Nat) (ae:Int) (ah:Option Addr) (ai:List D) (aj:Nat) (ak:Option Addr) (al:List D) (am:Nat) (N:Nat):Prop:=AT prog 145 [.ag 9,.int .i64,.bool] Q N0 .ord (zC prog 145 10) ⟨an 1 (.int .i64 n1::.pb 0 0 0 0::an 1 (.pb 1 0 0 0::an 5 (.int .i64 ao::an 60 []))),[.vd y0 9,.var [.int .i64 I,.str J,.str O,.int .i64 U,.int .i64 Y,.sv aa 2 ab ac,.int .i64 ae,.sv ah 2 ai aj,.sv ak 9 al am]],N,none⟩
def yq (Q:QT [.ag 9,.int .i64]) (N0:Nat) (n4:Int) (m5 c5:Nat) (n9:Int) (y0:D) (I:Int) (J O:ByteArray) (U Y:Int) (aa:Option Addr) (ab:List D) (ac:Nat) (ae:Int) (ah:Option Addr) (ai:List D) (aj:Nat) (ak:Option Addr) (al:List D) (am:Nat) (r2:List D) (q2:Nat) (N:Nat):Prop:=AT prog 143 [.ag 9,.int .i64] Q N0 .ord (zC prog 143 12) ⟨an 1 (.pb 0 0 0 0::.pb 1 0 0 0::an 1 (.int .i64 n4::.sb 2 0 0 m5 c5::an 3 (.int .i64 n9::an 92 []))),[.vd y0 9,.var [.int .i64 I,.str J,.str O,.int .i64 U,.int .i64 Y,.sv aa 2 ab ac,.int .i64 ae,.sv ah 2 ai aj,.sv ak 9 al am],.arr 3 0 r2 q2],N,none⟩
theorem zCu (N:Nat) (I:D) (Q:QT [.bool]) (h :
Bel N I->∃ n:Int,(I.cell 0)=D.lit (.int .i64 n)/\Br (n==2) (∀ a,N<=a->Q true a) (Br (n==3) (∀ a,N<=a->Q true a) (Br (n==6) (∀ a,
 N<=a->Q true a) (Br (n==9) (∀ a,N<=a->Q true a) (Br (n==10) (∀ d,N<=d->ACalls prog 140 [.bool] [.dg 9 I,.int .i64 0] d (λb e=>
 d<=e->Br b (∃ a b,∃ c:Nat,(I.cell 8)=D.sl a 9 b c/\((0:Int)<=(0:Int)/\0<(b.length:Int))/\∀ a,e<=a->ACalls prog 142 [.bool] [.dg
 9 (List.getD b 0 default),.int .i64 1] a (λb c=>a<=c->∀ a,c<=a->Q b a)) (∀ a,e<=a->Q false a))) (∀ a,N<=a ->
 Q false a)))))):ACalls prog 85 [.bool] [PV.dg 9 I] N Q:=
  eE (H:=zCt) (by kernel_rfl) (by kernel_rfl) h
theorem zIC (N:Nat) (I:D) (n1:Int) (Q:QT [.bool]) (h :
Bel N I->∃ n:Int,(I.cell 0)=D.lit (.int .i64 n)/\Br (n==11) (Br (n1==1) (∀ a,N<=a->Q false a) (yp Q N n1 0 I N)) (yp
 Q N n1 0 I N)):ACalls prog 142 [.bool] [PV.dg 9 I,PV.int .i64 n1] N Q:=
  eE (H:=zAo) (by kernel_rfl) (by kernel_rfl) h
theorem zJG (N:Nat) (I:D) (Q:QT [.ag 9,.int .i64]) (h :
Bel N I->∃ s,(I.cell 1)=D.lit (.string s)/\Br (ByteArray.toList s==ByteArray.toList (bytes [38])) (yE Q N 3 2 2 0 I 0 (bytes []) (bytes [])
 0 0 Option.none [] 0 0 Option.none [] 0 Option.none [] 0 [D.lit (.int .i64 0),D.lit (.int .i64 0)] 2 N) (∃ a,(I.cell 1)=D.lit (.string a)/\Br (ByteArray.toList
 a==ByteArray.toList (bytes [124])) (yE Q N 3 2 2 0 I 0 (bytes []) (bytes []) 0 0 Option.none [] 0 0 Option.none [] 0 Option.none [] 0 [D.lit (.int
 .i64 0),D.lit (.int .i64 0)] 2 N) (∃ a,(I.cell 1)=D.lit (.string a)/\Br (ByteArray.toList a==ByteArray.toList (bytes [33])) (yE Q N 3 2
 2 0 I 0 (bytes []) (bytes []) 0 0 Option.none [] 0 0 Option.none [] 0 Option.none [] 0 [D.lit (.int .i64 0),D.lit (.int .i64 0)] 2 N) (yE Q N 2 2 2
 0 I 0 (bytes []) (bytes []) 0 0 Option.none [] 0 0 Option.none [] 0 Option.none [] 0 [D.lit (.int .i64 0),D.lit (.int .i64 0)] 2 N)))):ACalls prog 143 [.ag 9,.int .i64] [PV.dg 9 I] N Q:=
  eE (H:=rI) (by kernel_rfl) (by kernel_rfl) h
theorem zI7 (N:Nat) (I:D) (n1:Int) (Q:QT [.ag 9,.int .i64]) (h :
Bel N I->∃ a b,∃ c:Nat,(I.cell 8)=D.sl a 9 b c/\(0<=n1/\n1<(b.length:Int))/\∀ a,N<=a->ACalls prog 86 [.ag 9,.int .i64] [.dg 9 (List.getD
 b n1.toNat default)] a (λx n b=>a<=b->Bel b x->Br (n==0) (∀ a,b<=a->Q I n a) (∀ a,b<=a->ACalls prog 146 [.ag 9] [.dg 9
 I,.int .i64 n1,.dg 9 x] a (λb c=>a<=c->Bel c b->∀ a,c<=a->Q b n a)))):ACalls prog 205 [.ag 9,.int .i64] [PV.dg 9 I,PV.int .i64 n1] N Q:=
  eE (H:=zJp) (by kernel_rfl) (by kernel_rfl) h
theorem zF5 (N:Nat) (x0:D) (n1:Int) (x2:D) (Q:QT [.ag 9]) (h :
Bel N x0->Bel N x2->∀ b,N<=b->ACalls prog 83 [Sh.pk,.int .i64,.str,.str,.int .i64,Sh.dc,Sh.dc,Sh.dc,Sh.dc,.row (OfNat.ofNat 35) 9] [.dg 9 x0] b
 (fun n s c d x e f g h i j=>b<=j->Bel j (D.ag h)->(0<=n1/\n1<(h.length:Int)/\(0+n1.toNat:Nat)<h.length)/\(0+n1.toNat :
 Nat)<h.length/\(h.length=(List.set h (0+n1.toNat:Nat) x2).length/\i=i)/\(h.length=(List.set h (0+n1.toNat:Nat) x2).length/\i=i)/\(h.length
 = (List.set h (0+n1.toNat:Nat) x2).length/\i=i)/\(h.length=(List.set h (0+n1.toNat:Nat) x2).length/\i=i)/\(h.length=(List.set h (0+n1.toNat
 : Nat) x2).length/\i=i)/\∀ a b,j<=b->Fresh N b a [D.ag (List.set h (0+n1.toNat:Nat) x2),x,e,f,g]->∀ j,b<=j->Q (D.ag [D.lit
 (.int .i64 n),D.lit (.string s),D.lit (.string c),D.lit (.int .i64 d),x,e,f,g,D.sl a 9 (List.set h (0+n1.toNat:Nat) x2) i]) j)):ACalls prog 146 [.ag 9] [PV.dg 9 x0,PV.int .i64 n1,PV.dg 9 x2] N Q:=
  eE (H:=zFk) (by kernel_rfl) (by kernel_rfl) h
theorem zHl (N:Nat) (I:D) (Q:QT [.ag 9,.int .i64]) (h :
Bel N I->∃ a b,∃ c:Nat,(I.cell 8)=D.sl a 9 b c/\((0:Int)<=(0:Int)/\0<(b.length:Int))/\wc Q N 0 I 0 (bytes []) (bytes []) 0
 0 Option.none [] 0 0 Option.none [] 0 Option.none [] 0 (List.getD b 0 default) N):ACalls prog 144 [.ag 9,.int .i64] [PV.dg 9 I] N Q:=
  eE (H:=zAO) (by kernel_rfl) (by kernel_rfl) h
theorem zF6 (N:Nat) (I:D) (n1:Int) (Q:QT [.ag 9,.int .i64,.bool]) (h :
Bel N I->∃ n:Int,(I.cell 0)=D.lit (.int .i64 n)/\Br (n==11) (Br (n1==1) (∃ a d,∃ c:Nat,(I.cell 8)=D.sl a 9 d c/\((0:Int)<=(0:Int)/\0
 < (d.length:Int))/\∀ a,N<=a->ACalls prog 85 [.bool] [.dg 9 (List.getD d 0 default)] a (λb c=>a<=c->Br (!b) (∀ a,c<=a->ACalls
 prog 205 [.ag 9,.int .i64] [.dg 9 I,.int .i64 0] a (λx b c=>a<=c->Bel c x->∀ a,c<=a->Q x b true a)) (∃ a:Int,D.cell (List.getD
 d 0 default) 0=D.lit (.int .i64 a)/\Br (a==10) (∃ a b,∃ e:Nat,D.cell (List.getD d 0 default) 8=D.sl a 9 b e/\((0:Int)<=(0:Int)
 /\ 0<(b.length:Int))/\∀ a,c<=a->ACalls prog 83 [Sh.pk,.int .i64,.str,.str,.int .i64,Sh.dc,Sh.dc,Sh.dc,Sh.dc,.row (OfNat.ofNat 35) 9] [.dg
 9 (List.getD b 0 default)] a (λb s c d e f g h i j k=>a<=k->Bel k (D.ag i)->(i.length=i.length/\j=j) /\
 (i.length=i.length/\j=j)/\∀ a l,k<=l->Fresh N l a [D.ag i,e,f,g,h]->∀ k,l<=k->Q (D.ag [D.lit (.int .i64 b),
 D.lit (.string s),D.lit (.string c),D.lit (.int .i64 d),e,f,g,h,D.sl a 9 i j]) 6 true k)) (∀ a,c<=a->Q I 0 true a))))
 (yF Q N n1 0 I 0 (bytes []) (bytes []) 0 0 Option.none [] 0 0 Option.none [] 0 Option.none [] 0 N)) (yF Q N n1 0 I 0 (bytes []) (bytes
 []) 0 0 Option.none [] 0 0 Option.none [] 0 Option.none [] 0 N)):ACalls prog 145 [.ag 9,.int .i64,.bool] [PV.dg 9 I,PV.int .i64 n1] N Q:=
  eE (H:=pJ) (by kernel_rfl) (by kernel_rfl) h
theorem zH9 (N:Nat) (I:D) (Q:QT [.ag 9,.int .i64]) (h :
Bel N I->∃ a d,∃ c:Nat,(I.cell 8)=D.sl a 9 d c/\((0:Int)<=(0:Int)/\0<(d.length:Int))/\∀ a,N<=a->ACalls prog 85 [.bool] [.dg 9 (List.getD
 d 0 default)] a (λb c=>a<=c->Br (!b) (∀ a,c<=a->ACalls prog 205 [.ag 9,.int .i64] [.dg 9 I,.int .i64 0] a (λx n b=>a<=b
 -> Bel b x->∀ a,b<=a->Q x n a)) (∃ a:Int,(I.cell 0)=D.lit (.int .i64 a)/\Br (a==5) (∃ a:Int,D.cell (List.getD d 0 default) 0 =
 D.lit (.int .i64 a)/\Br (a==3) (∃ a b,∃ e:Nat,(I.cell 8)=D.sl a 9 b e/\∃ a:Int,D.cell (List.getD d 0 default) 3=D.lit (.int
 .i64 a)/\(0<=IntKind.i64.wrap (2 - a)/\IntKind.i64.wrap (2 - a)<(b.length:Int))/\∀ d,c<=d->ACalls prog 83 [Sh.pk,.int .i64,.str,.str,
 .int .i64,Sh.dc,Sh.dc,Sh.dc,Sh.dc,.row (OfNat.ofNat 35) 9] [.dg 9 (List.getD b (IntKind.i64.wrap (2 - a)).toNat default)] d (λa s b c e f
 g h i j k=>d<=k->Bel k (D.ag i)->(i.length=i.length/\j=j)/\(i.length=i.length/\j=j)/\∀ d l,k<=l
 -> Fresh N l d [D.ag i,e,f,g,h]->∀ k,l<=k->Q (D.ag [D.lit (.int .i64 a),D.lit (.string s),D.lit (.string b),D.lit (.int .i64 c),
 e,f,g,h,D.sl d 9 i j]) 2 k)) (∃ a:Int,(I.cell 0)=D.lit (.int .i64 a)/\Br (a==8) (∃ a b,∃ e:Nat,(I.cell 8)=D.sl
 a 9 b e/\((0:Int)<=(1:Int)/\1<(b.length:Int))/\∃ a,(I.cell 1)=D.lit (.string a)/\∀ e,c<=e->ACalls prog 209 [.ag 9] [.dg
 9 (List.getD b 1 default),.str a,.dg 9 (List.getD d 0 default)] e (λa b=>e<=b->Bel b a->∀ c,b<=c->Q a 5 c)) (∃
 a:Int,(I.cell 0)=D.lit (.int .i64 a)/\Br (a==12) (∃ a:Int,D.cell (List.getD d 0 default) 0=D.lit (.int .i64 a)/\Br (a==10) (∃ a b,
 ∃ e:Nat,D.cell (List.getD d 0 default) 8=D.sl a 9 b e/\((0:Int)<=(0:Int)/\0<(b.length:Int))/\∀ a,c<=a->ACalls prog 83 [Sh.pk,
 .int .i64,.str,.str,.int .i64,Sh.dc,Sh.dc,Sh.dc,Sh.dc,.row (OfNat.ofNat 35) 9] [.dg 9 (List.getD b 0 default)] a (λb c d e f g h
 i j k l=>a<=l->Bel l (D.ag j)->(j.length=j.length/\k=k)/\(j.length=j.length/\k=k)/\∀ a m,l <=
 m->Fresh N m a [D.ag j,f,g,h,i]->∀ l,m<=l->Q (D.ag [D.lit (.int .i64 b),D.lit (.string c),D.lit (.string d),D.lit (.int
 .i64 e),f,g,h,i,D.sl a 9 j k]) 7 l)) (∃ a:Int,(I.cell 0)=D.lit (.int .i64 a)/\Br (a==13) (∃ a:Int,D.cell (List.getD
 d 0 default) 0=D.lit (.int .i64 a)/\Br (a==2) ((1=([List.getD d 0 default]).length/\1=1)/\∀ a,ApA a [List.getD d 0 default]->∀ b,c
 <= b->wL b [a]->ACalls prog 210 [.ag 9] [.int .i64 10,.sv a 9 [List.getD d 0 default] 1] b (λc d=>b<=d->Off [a] c/\(Bel
 d c->∀ a,d<=a->Q c 8 a))) (∃ a:Int,D.cell (List.getD d 0 default) 0=D.lit (.int .i64 a)/\Br (a==3) ((1=([List.getD d
 0 default]).length/\1=1)/\∀ a,ApA a [List.getD d 0 default]->∀ b,c<=b->wL b [a]->ACalls prog 210 [.ag 9] [.int .i64 10,.sv a 9 [List.getD
 d 0 default] 1] b (λc d=>b<=d->Off [a] c/\(Bel d c->∀ a,d<=a->Q c 8 a))) (∀ a,c<=a->Q I 0 a)))
 (∀ a,c<=a->Q I 0 a))) (∃ a:Int,(I.cell 0)=D.lit (.int .i64 a)/\Br (a==13) (∃ a:Int,D.cell (List.getD d 0 default) 0=D.lit
 (.int .i64 a)/\Br (a==2) ((1=([List.getD d 0 default]).length/\1=1)/\∀ a,ApA a [List.getD d 0 default]->∀ b,c<=b->wL b [a]
 -> ACalls prog 210 [.ag 9] [.int .i64 10,.sv a 9 [List.getD d 0 default] 1] b (λc d=>b<=d->Off [a] c/\(Bel d c->∀ a,d
 <= a->Q c 8 a))) (∃ a:Int,D.cell (List.getD d 0 default) 0=D.lit (.int .i64 a)/\Br (a==3) ((1=([List.getD d 0 default]).length/\1
 = 1)/\∀ a,ApA a [List.getD d 0 default]->∀ b,c<=b->wL b [a]->ACalls prog 210 [.ag 9] [.int .i64 10,.sv a 9 [List.getD d 0 default]
 1] b (λc d=>b<=d->Off [a] c/\(Bel d c->∀ a,d<=a->Q c 8 a))) (∀ a,c<=a->Q I 0 a))) (∀ a,c
 <= a->Q I 0 a))))) (∃ a:Int,(I.cell 0)=D.lit (.int .i64 a)/\Br (a==8) (∃ a b,∃ e:Nat,(I.cell 8)=D.sl a 9 b e/\((0
 : Int)<=(1:Int)/\1<(b.length:Int))/\∃ a,(I.cell 1)=D.lit (.string a)/\∀ e,c<=e->ACalls prog 209 [.ag 9] [.dg 9 (List.getD b 1
 default),.str a,.dg 9 (List.getD d 0 default)] e (λa b=>e<=b->Bel b a->∀ c,b<=c->Q a 5 c)) (∃ a:Int,(I.cell
 0)=D.lit (.int .i64 a)/\Br (a==12) (∃ a:Int,D.cell (List.getD d 0 default) 0=D.lit (.int .i64 a)/\Br (a==10) (∃ a b,∃ e:Nat,
 D.cell (List.getD d 0 default) 8=D.sl a 9 b e/\((0:Int)<=(0:Int)/\0<(b.length:Int))/\∀ a,c<=a->ACalls prog 83 [Sh.pk,.int .i64,
 .str,.str,.int .i64,Sh.dc,Sh.dc,Sh.dc,Sh.dc,.row (OfNat.ofNat 35) 9] [.dg 9 (List.getD b 0 default)] a (λb c d e f g h i j
 k l=>a<=l->Bel l (D.ag j)->(j.length=j.length/\k=k)/\(j.length=j.length/\k=k)/\∀ a m,l<=m->Fresh
 N m a [D.ag j,f,g,h,i]->∀ l,m<=l->Q (D.ag [D.lit (.int .i64 b),D.lit (.string c),D.lit (.string d),D.lit (.int .i64
 e),f,g,h,i,D.sl a 9 j k]) 7 l)) (∃ a:Int,(I.cell 0)=D.lit (.int .i64 a)/\Br (a==13) (∃ a:Int,D.cell (List.getD
 d 0 default) 0=D.lit (.int .i64 a)/\Br (a==2) ((1=([List.getD d 0 default]).length/\1=1)/\∀ a,ApA a [List.getD d 0 default]->∀ b,
 c<=b->wL b [a]->ACalls prog 210 [.ag 9] [.int .i64 10,.sv a 9 [List.getD d 0 default] 1] b (λc d=>b<=d->Off [a] c
 /\ (Bel d c->∀ a,d<=a->Q c 8 a))) (∃ a:Int,D.cell (List.getD d 0 default) 0=D.lit (.int .i64 a)/\Br (a==3) ((1=([List.getD
 d 0 default]).length/\1=1)/\∀ a,ApA a [List.getD d 0 default]->∀ b,c<=b->wL b [a]->ACalls prog 210 [.ag 9] [.int .i64 10,.sv a
 9 [List.getD d 0 default] 1] b (λc d=>b<=d->Off [a] c/\(Bel d c->∀ a,d<=a->Q c 8 a))) (∀ a,c<=a
 -> Q I 0 a))) (∀ a,c<=a->Q I 0 a))) (∃ a:Int,(I.cell 0)=D.lit (.int .i64 a)/\Br (a==13) (∃ a:Int,D.cell (List.getD d 0
 default) 0=D.lit (.int .i64 a)/\Br (a==2) ((1=([List.getD d 0 default]).length/\1=1)/\∀ a,ApA a [List.getD d 0 default]->∀ b,c <=
 b->wL b [a]->ACalls prog 210 [.ag 9] [.int .i64 10,.sv a 9 [List.getD d 0 default] 1] b (λc d=>b<=d->Off [a] c/\(Bel
 d c->∀ a,d<=a->Q c 8 a))) (∃ a:Int,D.cell (List.getD d 0 default) 0=D.lit (.int .i64 a)/\Br (a==3) ((1=([List.getD d
 0 default]).length/\1=1)/\∀ a,ApA a [List.getD d 0 default]->∀ b,c<=b->wL b [a]->ACalls prog 210 [.ag 9] [.int .i64 10,.sv a
 9 [List.getD d 0 default] 1] b (λc d=>b<=d->Off [a] c/\(Bel d c->∀ a,d<=a->Q c 8 a))) (∀ a,c<=a
 -> Q I 0 a))) (∀ a,c<=a->Q I 0 a))))))):ACalls prog 147 [.ag 9,.int .i64] [PV.dg 9 I] N Q:=
  eE (H:=zH2) (by kernel_rfl) (by kernel_rfl) h
theorem zF8 (N:Nat) (I:D) (Q:QT [.ag 9,.int .i64]) (h :
Bel N I->∀ d,N<=d->ACalls prog 85 [.bool] [.dg 9 I] d (λb e=>d<=e->Br b (∀ a,e<=a->Q I 0 a) (∃ n:Int,(I.cell 0)=D.lit
 (.int .i64 n)/\Br (n==4) (∀ a,e<=a->ACalls prog 143 [.ag 9,.int .i64] [.dg 9 I] a (λx b c=>a<=c->Bel c x->∀ a,c<=a->Q
 x b a)) (Br (n==7) (∀ a,e<=a->ACalls prog 144 [.ag 9,.int .i64] [.dg 9 I] a (λb c d=>a<=d->Bel d b->∀ a,d<=a->Q
 b c a)) (Br (n==10) (∃ a b,∃ c:Nat,(I.cell 8)=D.sl a 9 b c/\((0:Int)<=(0:Int)/\0<(b.length:Int))/\∀ a,e<=a->ACalls prog
 145 [.ag 9,.int .i64,.bool] [.dg 9 (List.getD b 0 default),.int .i64 1] a (λb c _ d=>a<=d->Bel d b->∀ a,d<=a->ACalls
 prog 146 [.ag 9] [.dg 9 I,.int .i64 0,.dg 9 b] a (λb d=>a<=d->Bel d b->∀ a,d<=a->Q b c a))) (Br (n==5) (∀ a,
 e<=a->ACalls prog 147 [.ag 9,.int .i64] [.dg 9 I] a (λb c d=>a<=d->Bel d b->∀ a,d<=a->Q b c a)) (Br (n ==
 8) (∀ a,e<=a->ACalls prog 147 [.ag 9,.int .i64] [.dg 9 I] a (λb c d=>a<=d->Bel d b->∀ a,d<=a->Q b c a))
 (Br (n==12) (∀ a,e<=a->ACalls prog 147 [.ag 9,.int .i64] [.dg 9 I] a (λb c d=>a<=d->Bel d b->∀ a,d<=a->Q
 b c a)) (Br (n==13) (∀ a,e<=a->ACalls prog 147 [.ag 9,.int .i64] [.dg 9 I] a (λb c d=>a<=d->Bel d b->∀ a,d
 <= a->Q b c a)) (∀ a,e<=a->Q I 0 a)))))))))):ACalls prog 86 [.ag 9,.int .i64] [PV.dg 9 I] N Q:=
  eE (H:=zGF) (by kernel_rfl) (by kernel_rfl) h
theorem zCK (N:Nat) (n0:Int) (Q:QT [.ag 9]) (h :
∀ a,N<=a->Q (D.ag [D.lit (.int .i64 2),D.lit (.string (bytes [])),D.lit (.string (bytes [])),D.lit (.int .i64 n0),D.lit (.int .i64 0),D.sl Option.none
 2 [] 0,D.lit (.int .i64 0),D.sl Option.none 2 [] 0,D.sl Option.none 9 [] 0]) a):ACalls prog 207 [.ag 9] [PV.int .i64 n0] N Q:=
  eE (H:=zJo) (by kernel_rfl) (by kernel_rfl) h
theorem zA9 (N:Nat) (n0:Int) (Q:QT [.ag 9]) (h :
∀ a,N<=a->Q (D.ag [D.lit (.int .i64 3),D.lit (.string (bytes [])),D.lit (.string (bytes [])),D.lit (.int .i64 n0),D.lit (.int .i64 0),D.sl Option.none
 2 [] 0,D.lit (.int .i64 0),D.sl Option.none 2 [] 0,D.sl Option.none 9 [] 0]) a):ACalls prog 208 [.ag 9] [PV.int .i64 n0] N Q:=
  eE (H:=zIc) (by kernel_rfl) (by kernel_rfl) h
theorem zGD (N:Nat) (I:ByteArray) (n1 J:Int) (Q:QT [.int .i64,.bool]) (h :
∀ a,N<=a->ACalls prog 63 [.bool] [.int .i64 n1,.int .i64 0,.int .i64 10006] a (λb c=>a<=c->Br (!b) (∀ a,c<=a->Q 0 false a) (∀
 a,c<=a->ACalls prog 63 [.bool] [.int .i64 J,.int .i64 0,.int .i64 10006] a (λb c=>a<=c->Br (!b) (∀ a,c<=a->Q 0 false a)
 (Br (ByteArray.toList I==ByteArray.toList (bytes [43])) (∀ a,c<=a->ACalls prog 255 [.int .i64] [.int .i64 (IntKind.i64.wrap (n1+J))] a (λn b
 => a<=b->∀ a,b<=a->Q n true a)) (Br (ByteArray.toList I==ByteArray.toList (bytes [45])) (∀ a,c<=a->ACalls prog 255 [.int .i64] [.int
 .i64 (IntKind.i64.wrap (n1 - J))] a (λb c=>a<=c->∀ a,c<=a->Q b true a)) (Br (ByteArray.toList I==ByteArray.toList (bytes
 [42])) (∀ a,c<=a->ACalls prog 255 [.int .i64] [.int .i64 (IntKind.i64.wrap (n1*J))] a (λb c=>a<=c->∀ a,c<=a->Q b
 true a)) (Br (ByteArray.toList I==ByteArray.toList (bytes [61])) (∀ a,c<=a->ACalls prog 95 [.int .i64] [.bool (n1==J)] a (λb c=>
 a<=c->∀ a,c<=a->Q b true a)) (Br (ByteArray.toList I==ByteArray.toList (bytes [60])) (∀ a,c<=a->ACalls prog 95 [.int .i64]
 [.bool (decide (n1<J))] a (λb c=>a<=c->∀ a,c<=a->Q b true a)) (Br (ByteArray.toList I==ByteArray.toList (bytes [38]))
 (Br (n1==1) (∀ a,c<=a->ACalls prog 95 [.int .i64] [.bool (J==1)] a (λb c=>a<=c->∀ a,c<=a->Q b true a)) (∀ a,
 c<=a->ACalls prog 95 [.int .i64] [.bool false] a (λb c=>a<=c->∀ a,c<=a->Q b true a))) (Br (ByteArray.toList I==ByteArray.toList
 (bytes [124])) (Br (n1==1) (∀ a,c<=a->ACalls prog 95 [.int .i64] [.bool true] a (λb c=>a<=c->∀ a,c<=a->Q b true a))
 (∀ a,c<=a->ACalls prog 95 [.int .i64] [.bool (J==1)] a (λb c=>a<=c->∀ a,c<=a->Q b true a))) (Br (ByteArray.toList
 I==ByteArray.toList (bytes [33])) (∀ a,c<=a->ACalls prog 95 [.int .i64] [.bool (n1==0)] a (λb c=>a<=c->∀ a,c<=a ->
 Q b true a)) (∀ a,c<=a->Q 0 false a))))))))))))):ACalls prog 206 [.int .i64,.bool] [PV.str I,PV.int .i64 n1,PV.int .i64 J] N Q:=
  eE (H:=zGO) (by kernel_rfl) (by kernel_rfl) h
theorem zH6 (N:Nat) (n0:Int) (Q:QT [.int .i64]) (h :
(10007:Int)≠(0:Int)/\Br (decide (Int.tmod n0 10007<0)) (∀ a,N<=a->Q (IntKind.i64.wrap (Int.tmod n0 10007+10007)) a) (∀ a,N<=a->Q (Int.tmod
 n0 10007) a)):ACalls prog 255 [.int .i64] [PV.int .i64 n0] N Q:=
  eE (H:=zH7) (by kernel_rfl) (by kernel_rfl) h
theorem zJ8 (N:Nat) (b0:Bool) (Q:QT [.int .i64]) (h :
Br b0 (∀ a,N<=a->Q 1 a) (∀ a,N<=a->Q 0 a)):ACalls prog 95 [.int .i64] [PV.bool b0] N Q:=
 eE (H:=zKH) (by kernel_rfl) (by kernel_rfl) h
theorem rZ (Q:QT [.bool]) (N0:Nat) (n1 n5:Int) (y0:D) (N:Nat) (h :
∃ a d,∃ c:Nat,(y0.cell 8)=D.sl a 9 d c/\Br (decide (n5<(d.length:Int))) (∃ a c,∃ d:Nat,(y0.cell 8)=D.sl a 9 c d/\(0<=n5/\n5
 < (c.length:Int))/\∀ a,N<=a->ACalls prog 204 [.int .i64] [.dg 9 y0,.int .i64 n1] a (fun n d=>a<=d->∀ a,d<=a->ACalls prog 142 [.bool]
 [.dg 9 (List.getD c n5.toNat default),.int .i64 n] a (fun b c=>a<=c->Br (!b) (∀ a,c<=a->Q false a) (yp Q N0 n1 (IntKind.i64.wrap
 (n5+1)) y0 c)))) (∀ a,N<=a->Q true a)):yp Q N0 n1 n5 y0 N:=
  hE (H:=zAo) (by kernel_rfl) h
theorem pP (Q:QT [.ag 9,.int .i64]) (N0:Nat) (n4:Int) (m5 c5:Nat) (n6:Int) (y0:D) (I:Int) (J O:ByteArray) (U Y:Int) (aa:Option Addr) (ab:List D) (ac:Nat) (ae:Int) (ah:Option Addr) (ai:List D) (aj:Nat) (ak:Option Addr) (al:List D) (am:Nat) (r2:List D) (q2:Nat) (N:Nat) (h :
∃ a d,∃ c:Nat,(y0.cell 8)=D.sl a 9 d c/\Br (decide (n6<(d.length:Int))) (∃ a c,∃ d:Nat,(y0.cell 8)=D.sl a 9 c d/\(0<=n6/\n6
 < (c.length:Int))/\∀ a,N<=a->ACalls prog 85 [.bool] [.dg 9 (List.getD c n6.toNat default)] a (λb c=>a<=c->Br (!b) (∀ a,c<=a
 -> ACalls prog 205 [.ag 9,.int .i64] [.dg 9 y0,.int .i64 n6] a (λx n b=>a<=b->Bel b x->∀ a,b<=a->Q x n a)) (yE Q N0 n4
 m5 c5 (IntKind.i64.wrap (n6+1)) y0 I J O U Y aa ab ac ae ah ai aj ak al am r2 q2 c))) (yq Q N0 n4 m5 c5 0 y0
 I J O U Y aa ab ac ae ah ai aj ak al am r2 q2 N)):yE Q N0 n4 m5 c5 n6 y0 I J O U Y aa ab ac ae ah ai aj ak al am r2 q2 N:=
  hE (H:=rI) (by kernel_rfl) h
theorem qI (Q:QT [.ag 9,.int .i64]) (N0:Nat) (n5:Int) (y0:D) (J:Int) (O U:ByteArray) (Y aa:Int) (ab:Option Addr) (ac:List D) (ae:Nat) (ah:Int) (ai:Option Addr) (aj:List D) (ak:Nat) (al:Option Addr) (am:List D) (ao:Nat) (I:D) (N:Nat) (h :
Br (decide (n5<2)) (∃ a d,∃ c:Nat,(y0.cell 8)=D.sl a 9 d c/\(0<=n5/\n5<(d.length:Int))/\∀ a,N<=a->ACalls prog 85 [.bool] [.dg 9 (List.getD
 d n5.toNat default)] a (λb c=>a<=c->Br (!b) (∀ a,c<=a->ACalls prog 205 [.ag 9,.int .i64] [.dg 9 y0,.int .i64 n5] a (λx n b=>a
 <= b->Bel b x->∀ a,b<=a->Q x n a)) (wc Q N0 (IntKind.i64.wrap (n5+1)) y0 J O U Y aa ab ac ae ah ai aj ak
 al am ao I c))) (∃ a:Int,(I.cell 0)=D.lit (.int .i64 a)/\Br (a==6) (∃ a b,∃ c:Nat,(I.cell 8)=D.sl a 9 b c/\((0:Int)
 <= (0:Int)/\0<(b.length:Int))/\∃ s,(I.cell 1)=D.lit (.string s)/\∃ a c,∃ d:Nat,(y0.cell 8)=D.sl a 9 c d/\((0:Int)<=(1:Int)
 /\ 1<(c.length:Int))/\∀ a,N<=a->ACalls prog 209 [.ag 9] [.dg 9 (List.getD b 0 default),.str s,.dg 9 (List.getD c 1 default)] a (λb c
 => a<=c->Bel c b->∀ a,c<=a->Q b 3 a)) (Br (a==9) (∃ a b,∃ c:Nat,(I.cell 8)=D.sl a 9 b c/\((0:Int)<=(0:Int)
 /\ 0<(b.length:Int))/\∃ a,(I.cell 1)=D.lit (.string a)/\∃ c,(I.cell 2)=D.lit (.string c)/\∃ d e,∃ f:Nat,(y0.cell 8)=D.sl d
 9 e f/\((0:Int)<=(1:Int)/\1<(e.length:Int))/\∀ d,N<=d->ACalls prog 209 [.ag 9] [.dg 9 (List.getD b 0 default),.str a,.dg 9 I]
 d (λa b=>d<=b->Bel b a->∀ d,b<=d->ACalls prog 209 [.ag 9] [.dg 9 a,.str c,.dg 9 (List.getD e 1 default)] d (fun
 a b=>d<=b->Bel b a->∀ c,b<=c->Q a 4 c))) (∀ a,N<=a->Q y0 0 a)))):wc Q N0 n5 y0 J O U Y aa ab ac ae ah ai aj ak al am ao I N:=
  hE (H:=zAO) (by kernel_rfl) h
theorem ti (Q:QT [.ag 9,.int .i64,.bool]) (N0:Nat) (n1 n10:Int) (y0:D) (n1_0:Int) (s1_1 s1_2:ByteArray) (n1_3 n1_4:Int) (a1_5:Option Addr) (e1_5:List D) (c1_5:Nat) (n1_6:Int) (a1_7:Option Addr) (e1_7:List D) (c1_7:Nat) (a1_8:Option Addr) (e1_8:List D) (c1_8:Nat) (N:Nat) (h :
∃ a d,∃ c:Nat,(y0.cell 8)=D.sl a 9 d c/\Br (decide (n10<(d.length:Int))) (∃ a c,∃ d:Nat,(y0.cell 8)=D.sl a 9 c d/\(0<=n10/\n10
 < (c.length:Int))/\∀ a,N<=a->ACalls prog 204 [.int .i64] [.dg 9 y0,.int .i64 n1] a (fun n d=>a<=d->∀ a,d<=a->ACalls prog 145 [.ag
 9,.int .i64,.bool] [.dg 9 (List.getD c n10.toNat default),.int .i64 n] a (fun x b c d=>a<=d->Bel d x->Br c (∀ a,d<=a->ACalls prog
 146 [.ag 9] [.dg 9 y0,.int .i64 n10,.dg 9 x] a (fun c d=>a<=d->Bel d c->∀ a,d<=a->Q c b true a)) (yF Q N0 n1 (IntKind.i64.wrap
 (n10+1)) y0 n1_0 s1_1 s1_2 n1_3 n1_4 a1_5 e1_5 c1_5 n1_6 a1_7 e1_7 c1_7 a1_8 e1_8 c1_8 d)))) (∀ a,N<=a->Q y0 0 false a)):yF Q N0 n1 n10 y0 n1_0 s1_1 s1_2 n1_3 n1_4 a1_5 e1_5 c1_5 n1_6 a1_7 e1_7 c1_7 a1_8 e1_8 c1_8 N:=
  hE (H:=pJ) (by kernel_rfl) h
theorem qK (Q:QT [.ag 9,.int .i64]) (N0:Nat) (n4:Int) (m5 c5:Nat) (I:Int) (J:D) (U:Int) (Y aa:ByteArray) (ab ac:Int) (ae:Option Addr) (ah:List D) (ai:Nat) (aj:Int) (ak:Option Addr) (al:List D) (am:Nat) (ao:Option Addr) (aq:List D) (au:Nat) (O:List D) (q2:Nat) (N:Nat) (h :
∃ a d,∃ c:Nat,(J.cell 8)=D.sl a 9 d c/\Br (decide (I<(d.length:Int))) (∃ a b,∃ c:Nat,(J.cell 8)=D.sl a 9 b c/\(0<=I/\I
 < (b.length:Int))/\∃ n:Int,(if 0=0 then D.cell (List.getD b I.toNat default) 0 else D.sub (List.getD b I.toNat default) 0 0)=D.lit (.int .i64
 n)/\Br (bne n n4) (∀ a,N<=a->Q J 0 a) (∃ a b,∃ c:Nat,(J.cell 8)=D.sl a 9 b c/\(0<=I/\I<(b.length:Int))/\∃ a:Int,
 (if 0=0 then D.cell (List.getD b I.toNat default) 3 else D.sub (List.getD b I.toNat default) 3 0)=D.lit (.int .i64 a)/\(0<=I/\I<(m5:Int) /\
 (0+I.toNat:Nat)<O.length)/\(0+I.toNat:Nat)<O.length/\yq Q N0 n4 m5 c5 (IntKind.i64.wrap (I+1)) J U Y aa ab ac ae
 ah ai aj ak al am ao aq au (List.set O (0+I.toNat:Nat) (D.lit (.int .i64 a))) q2 N)) (∃ s,(J.cell 1)=D.lit (.string s)/\((0:Int)
 <= (0:Int)/\0<(m5:Int)/\0<O.length)/\0<O.length/\∃ a:Int,List.getD O 0 default=D.lit (.int .i64 a)/\((0:Int)<=(1:Int)/\1<(m5 :
 Int)/\1<O.length)/\1<O.length/\∃ c:Int,List.getD O 1 default=D.lit (.int .i64 c)/\∀ d,N<=d->ACalls prog 206 [.int .i64,.bool] [.str s,
 .int .i64 a,.int .i64 c] d (λa _ b=>d<=b->∃ c,(J.cell 1)=D.lit (.string c)/\Br (ByteArray.toList c==ByteArray.toList (bytes [43]))
 (∀ c,b<=c->ACalls prog 207 [.ag 9] [.int .i64 a] c (λx a=>c<=a->Bel a x->∀ b,a<=b->Q x 1 b)) (∃ c,(J.cell 1)=D.lit
 (.string c)/\Br (ByteArray.toList c==ByteArray.toList (bytes [45])) (∀ c,b<=c->ACalls prog 207 [.ag 9] [.int .i64 a] c (λa b=>c <=
 b->Bel b a->∀ c,b<=c->Q a 1 c)) (∃ c,(J.cell 1)=D.lit (.string c)/\Br (ByteArray.toList c==ByteArray.toList (bytes [42])) (∀ c,
 b<=c->ACalls prog 207 [.ag 9] [.int .i64 a] c (λa b=>c<=b->Bel b a->∀ c,b<=c->Q a 1 c)) (∀ c,b<=c
 -> ACalls prog 208 [.ag 9] [.int .i64 a] c (λa b=>c<=b->Bel b a->∀ c,b<=c->Q a 1 c))))))):yq Q N0 n4 m5 c5 I J U Y aa ab ac ae ah ai aj ak al am ao aq au O q2 N:=
  hE (H:=rI) (by kernel_rfl) h
end Go.Proofs.YtmfjakahanbnlaaGreatDoor
set_option maxRecDepth 100000
namespace Go.Proofs.YtmfjakahanbnlaaGreatDoor
open Go Go.Proofs Go.Proofs.Tryz
def zJ2:Hint:=⟨[],[],[(3,hs 4 [ec 1 [13]])]⟩
theorem zJm (N:Nat) (O:ByteArray) (J I:D) (Q:QT [.ag 9]) (h :
Bel N J->Bel N I->(1=([I]).length/\1=1)/\∀ a,ApA a [I]->∀ b,N<=b->wL b [a]->ACalls prog 210 [.ag 9] [.int .i64 6,.sv a 9 [I] 1] b (fun
 x c=>b<=c->Off [a] x/\(Bel c x->∀ a,c<=a->ACalls prog 141 [.ag 2] [.dg 2 J] a (λb c=>a<=c->Bel c b->∀ a,c<=a
 -> Q (D.ag [(x.cell 0),D.lit (.string O),(x.cell 2),(x.cell 3),(b.cell 0),(b.cell 1),(x.cell 6),(x.cell 7),(x.cell 8)]) a)))):ACalls prog 216 [.ag 9] [PV.str O,PV.dg 2 J,PV.dg 9 I] N Q:=
  eE (H:=zJ2) (by kernel_rfl) (by kernel_rfl) h
end Go.Proofs.YtmfjakahanbnlaaGreatDoor
