/- Printed by gen.py: what the functions come to. -/
import Derived.Test.YtligajflgjpdnaaGreatDoorJh
set_option linter.unusedVariables false
set_option maxRecDepth 100000
namespace Go.Proofs.YtligajflgjpdnaaGreatDoor
open Go Go.Proofs Go.Proofs.Tryz
def HH:Hint:=⟨[],[],[(1,hs 7 [ec 1 [16]]),(2,hs 14 [ec 6 [25],ec 10 [20,26,28,29]]),(3,hs 4 [ec 1 [33]]),(4,[en 0,en 1,en 2,en 3,en 4,en 5,en 6,en 7,en 8,en 9,eh 10,ec 11 [42,45],en 12,eh 13])]⟩
def uo:Hint:=⟨[hc 10 [3,4,5,6,7,8,9,39,40,41],hc 19 [4,5,6,8,9,12,75,76,77]],[],[(3,hs 3 [ec 1 [22]]),(4,hs 3 [ec 1 [24]]),(5,hs 7 [ec 1 [27]]),(7,hs 4 [ec 2 [33]]),(8,hs 4 [ec 1 [36]]),(13,[en 0,en 1,en 2,en 3,en 4,en 5,ec 6 [52,54],en 7,eh 8]),(15,[en 0,en 1,eh 2,en 3,en 4,en 5,en 6,en 7,en 8,en 10,ec 9 [66],eh 11,en 12,en 13]),(17,hs 3 [ec 1 [73]]),(22,hs 7 [ec 5 [84]]),(24,[en 0,en 1,en 2,en 3,en 4,en 5,en 6,en 7,en 8,en 9,ec 10 [98,100],en 11,eh 12])]⟩
def CI:Hint:=⟨[],[],[(1,hs 5 [ec 3 [5,7]])]⟩
def AW:Hint:=⟨[hc 4 [1,2,3,8,9,10,12]],[],[(1,hs 4 [ec 1 [16]]),(8,hs 15 [ec 6 [46]]),(9,[en 0,en 1,en 2,en 3,en 4,en 5,en 6,en 7,en 8,en 9,en 10,en 11,en 12,eh 13,ec 14 [62,68],en 15,eh 16])]⟩
def qQ:Hint:=⟨[hc 9 [1,5,6,7,9,10,11]],[],[(2,hs 3 [ec 1 [21]]),(3,hs 4 [ec 1 [23]]),(6,hs 17 [ec 12 [45]]),(7,[en 0,en 1,en 2,en 3,ec 4 [54],ec 5 [51],eh 6]),(12,[en 0,en 1,en 2,en 3,en 4,en 5,en 6,en 7,en 8,en 9,ec 10 [78,80],en 11,eh 12])]⟩
def tY:Hint:=⟨[hc 3 [1,2,4,5,10,11,12] [(5,29,9)]],[],[(5,hs 7 [{ i:=3,hard:=true,cl:=[18],fs:=[5,18] },{ i:=4,hard:=true,cl:=[19],fs:=[5,19] }]),(7,hs 4 [{ i:=2,hard:=true,cl:=[23],fs:=[5,23] }])]⟩
def ya (Q:QT [.ag 9])(N0:Nat)(a7:Option Addr)(e7:List D)(c7:Nat)(n8:Int)(bg:Option Addr)(bh:List D)(bi:Nat)(bj bm:Int)(y0:D)(I:ByteArray)(y2:D)(J:Int)(O U:ByteArray)(Y aa:Int)(ab:Option Addr)(ac:List D)(ae:Nat)(ah:Int)(ai:Option Addr)(aj:List D)(ak:Nat)(al:Option Addr)(am:List D)(ao:Nat)(aq:Int)(au aw:ByteArray)(ax:Int)(ay az a6 a8:D)(ba bc:Nat)(r5:List D)(q5:Nat)(N:Nat):Prop:=AT prog 92 [.ag 9] Q N0 .ord (zG prog 92 10) ⟨an 3 (.pb 0 0 0 0::.pb 1 0 0 0::.pb 2 0 0 0::.pb 3 0 0 0::.sv a7 0 e7 c7::.int .i64 n8::.pb 4 0 0 0::an 29 (.sv bg 9 bh bi::.int .i64 bj::.int .i64 bm::an 62 [])),[.vd y0 9,.var [.str I],.vd y2 9,.var [.int .i64 J,.str O,.str U,.int .i64 Y,.int .i64 aa,.sv ab 2 ac ae,.int .i64 ah,.sv ai 2 aj ak,.sv al 9 am ao],.var [.int .i64 aq,.str au,.str aw,.int .i64 ax,.dc ay,.dc az,.dc a6,.dc a8,.sb 5 9 0 ba bc],.arr 29 9 r5 q5],N,none⟩
def ye (Q:QT [.pk,.int .i64,.str,.str,.int .i64,.dc,.dc,.dc,.dc,.row 29 9])(N0:Nat)(n1:Int)(s2:ByteArray)(a3:Option Addr)(e3:List D)(c3:Nat)(ba:Option Addr)(bc:List D)(bg:Nat)(bh I:Int)(J O:ByteArray)(U Y:Int)(aa:Option Addr)(ab:List D)(ac:Nat)(ae:Int)(ah:Option Addr)(ai:List D)(aj:Nat)(ak:Option Addr)(al:List D)(am:Nat)(ao:Int)(aq au:ByteArray)(aw:Int)(ax ay az a6:D)(a7 a8:Nat)(r2:List D)(q2:Nat)(N:Nat):Prop:=AT prog 143 [.pk,.int .i64,.str,.str,.int .i64,.dc,.dc,.dc,.dc,.row 29 9] Q N0 .ord (zG prog 143 4) ⟨an 1 (.int .i64 n1::.str s2::.sv a3 0 e3 c3::an 4 (.pb 0 0 0 0::.pb 1 0 0 0::.sv ba 0 bc bg::an 1 (.int .i64 bh::an 65 []))),[.var [.int .i64 I,.str J,.str O,.int .i64 U,.int .i64 Y,.sv aa 2 ab ac,.int .i64 ae,.sv ah 2 ai aj,.sv ak 9 al am],.var [.int .i64 ao,.str aq,.str au,.int .i64 aw,.dc ax,.dc ay,.dc az,.dc a6,.sb 2 9 0 a7 a8],.arr 29 9 r2 q2],N,none⟩
def zF (Q:QT [.ag 9])(N0:Nat)(s1:ByteArray)(n9:Int)(ba:Bool)(bc:Int)(y0:D)(I:Int)(J O:ByteArray)(U Y:Int)(aa:Option Addr)(ab:List D)(ac:Nat)(ae:Int)(ah:Option Addr)(ai:List D)(aj:Nat)(ak:Option Addr)(al:List D)(am:Nat)(ao:Int)(aq au:ByteArray)(aw:Int)(ax ay az a6:D)(a7 a8:Nat)(r3:List D)(q3:Nat)(N:Nat):Prop:=AT prog 98 [.ag 9] Q N0 .ord (zG prog 98 9) ⟨an 1 (.str s1::an 3 (.pb 0 0 0 0::.pb 1 0 0 0::.pb 2 0 0 0::an 1 (.int .i64 n9::.bool ba::.int .i64 bc::an 72 []))),[.vd y0 9,.var [.int .i64 I,.str J,.str O,.int .i64 U,.int .i64 Y,.sv aa 2 ab ac,.int .i64 ae,.sv ah 2 ai aj,.sv ak 9 al am],.var [.int .i64 ao,.str aq,.str au,.int .i64 aw,.dc ax,.dc ay,.dc az,.dc a6,.sb 3 9 0 a7 a8],.arr 29 9 r3 q3],N,none⟩
def yo (Q:QT [.pk,.int .i64,.str,.str,.int .i64,.dc,.dc,.dc,.dc,.row 29 9])(N0:Nat)(O:Addr)(I:D)(U:Addr)(J:D)(m5 c5:Nat)(ax:Option Addr)(ay:List D)(az:Nat)(a6 a7:Int)(y0:D)(Y:Int)(aa ab:ByteArray)(ac ae:Int)(ah:Option Addr)(ai:List D)(aj:Nat)(ak:Int)(al:Option Addr)(am:List D)(ao:Nat)(aq:Option Addr)(au:List D)(aw:Nat)(r2:List D)(q2:Nat)(N:Nat):Prop:=AT prog 51 [.pk,.int .i64,.str,.str,.int .i64,.dc,.dc,.dc,.dc,.row 29 9] Q N0 .ord (zG prog 51 3) ⟨an 1 (.fn 133 [.pd O 0 I,.pd U 9 J]::.pb 0 0 0 0::an 1 (.pb 1 0 0 0::.sb 2 9 0 m5 c5::an 4 (.sv ax 9 ay az::.int .i64 a6::.int .i64 a7::an 13 []))),[.vd y0 9,.var [.int .i64 Y,.str aa,.str ab,.int .i64 ac,.int .i64 ae,.sv ah 2 ai aj,.int .i64 ak,.sv al 2 am ao,.sv aq 9 au aw],.arr 29 9 r2 q2],N,none⟩
def yc (Q:QT [.ag 9])(N0:Nat)(n8:Int)(bc bg:Nat)(bh:Option Addr)(bi:List D)(bj:Nat)(bm bp:Int)(I:ByteArray)(y1:D)(J:Int)(O U:ByteArray)(Y aa:Int)(ab:Option Addr)(ac:List D)(ae:Nat)(ah:Int)(ai:Option Addr)(aj:List D)(ak:Nat)(al:Option Addr)(am:List D)(ao:Nat)(aq:Int)(au aw:ByteArray)(ax:Int)(ay az a6 a7:D)(a8 ba:Nat)(r4:List D)(q4:Nat)(r5:List D)(q5:Nat)(N:Nat):Prop:=AT prog 92 [.ag 9] Q N0 .ord (zG prog 92 19) ⟨an 4 (.pb 0 0 0 0::.pb 1 0 0 0::.pb 2 0 0 0::an 1 (.int .i64 n8::.pb 3 0 0 0::an 2 (.sb 4 0 0 bc bg::an 62 (.sv bh 0 bi bj::.int .i64 bm::.int .i64 bp::an 26 [])))),[.var [.str I],.vd y1 9,.var [.int .i64 J,.str O,.str U,.int .i64 Y,.int .i64 aa,.sv ab 2 ac ae,.int .i64 ah,.sv ai 2 aj ak,.sv al 9 am ao],.var [.int .i64 aq,.str au,.str aw,.int .i64 ax,.dc ay,.dc az,.dc a6,.dc a7,.sb 5 9 0 a8 ba],.arr 9 0 r4 q4,.arr 29 9 r5 q5],N,none⟩
theorem HQ (N:Nat) (J:D) (I:Int) (s2:ByteArray) (a3:Option Addr) (U:List D) (Y:Nat) (O:ByteArray) (Q:QT [.pk,.int .i64,.str,.str,.int .i64,.dc,.dc,.dc,.dc,.row 29 9]) (h :
Bel N J->Bel N (D.sl a3 0 U Y)->∀ b,N<=b->ACalls prog 132 [.sl 0,.i] [.dg 9 J] b (λa c d _ e=>b<=e->Bel e (D.sl a 0 c d)->∃ b
 f,∃ g:Nat,(J.cell 8)=D.sl b 9 f g/\(0<=I/\I<(f.length:Int))/\∀ b,e<=b->ACalls prog 94 [.row 9 0] [.dg 9 (List.getD f
 I.toNat default)] b (λe f g=>b<=g->Bel g (D.ag e)->(e.length=e.length/\f=f)/\∀ b h,g<=h->Fresh N h b [D.ag
 e]->(1=([D.t O]).length/\1=1)/\∀ g i,h<=i->Fresh N i g [D.ag [D.t O]]->(4=([D.sl a3 0 U Y,D.sl b 0 e f,D.sl g 0 [D.t O]
 1,D.sl a 0 c d]).length/\4=4)/\∀ h,ApA h [D.sl a3 0 U Y,D.sl b 0 e f,D.sl g 0 [D.t O] 1,D.sl a 0 c d]->∀ j,i<=j->w8 j [h]
 -> ACalls prog 160 [.sl 0] [.sv h 0 [D.sl a3 0 U Y,D.sl b 0 e f,D.sl g 0 [D.t O] 1,D.sl a 0 c d] 4] j (λa b c d=>j<=d->Off
 [h] (D.sl a 0 b c)/\(Bel d (D.sl a 0 b c)->kS 159 [.sv a 0 b c] d (λs a=>∀ b,a<=b->ACalls prog 24 [.pk,.i,.str,
 .str,.i,.dc,.dc,.dc,.dc,.row 29 9] [.dg 9 J] b (λa c d e x f g h i j k=>b<=k->Bel k (D.ag i)->∃ b l,∃ m :
 Nat,(J.cell 8)=D.sl b 9 l m/\(0<=I/\I<(l.length:Int))/\kA 9 161 [.str s] k (λb k=>kA 9 92 [.dg 9 (List.getD l I.toNat
 default),.str s2,.dg 9 b] k (λb k=>(0<=I/\I<(i.length:Int)/\(0+I.toNat:Nat)<i.length)/\(0+I.toNat:Nat)<i.length
 /\ ∃ l,(J.cell 1)=D.t l/\Br (ByteArray.toList l==ByteArray.toList s2) ((i.length=(List.set i (0+I.toNat:Nat) b).length/\j=j) /\
 uP k (Q a s d e x f g h (List.set i (0+I.toNat:Nat) b) j)) ((i.length=(List.set i (0+I.toNat:Nat) b).length/\j =
 j)/\uP k (Q a c s e x f g h (List.set i (0+I.toNat:Nat) b) j))))))))))):ACalls prog 134 [.pk,.int .i64,.str,.str,.int .i64,.dc,.dc,.dc,.dc,.row 29 9] [PV.dg 9 J,PV.int .i64 I,PV.str s2,PV.sv a3 0 U Y,PV.str O] N Q:=
  eE HH h
theorem ED (N:Nat) (I:D) (O:ByteArray) (J:D) (Q:QT [.ag 9]) (h :
Bel N I->Bel N J->∃ n:Int,(I.cell 0)=D.j n/\Br (n==1) (∃ s,(I.cell 1)=D.t s/\Br (ByteArray.toList s==ByteArray.toList O) (∀ b,N<=b
 -> ACalls prog 24 [.pk,.i,.str,.str,.i,.dc,.dc,.dc,.dc,.row 29 9] [.dg 9 J] b (λc d e f x g h i j k l=>b<=l->Bel l (D.ag j)
 -> w2 (j.length=j.length/\k=k) (∀ a b,l<=b->Fresh N b a [D.ag j,x,g,h,i]->uP b (Q (D.ag [D.j c,D.t d,D.t e,D.j f,x,g,
 h,i,D.sl a 9 j k]))))) (∀ a,N<=a->ACalls prog 24 [.pk,.i,.str,.str,.i,.dc,.dc,.dc,.dc,.row 29 9] [.dg 9 I] a (λb c d e f g
 h i j k l=>a<=l->Bel l (D.ag j)->w2 (j.length=j.length/\k=k) (∀ a m,l<=m->Fresh N m a [D.ag j,f,g,h,
 i]->uP m (Q (D.ag [D.j b,D.t c,D.t d,D.j e,f,g,h,i,D.sl a 9 j k])))))) (∀ a,N<=a->ACalls prog 132 [.sl 0,.i] [.dg 9 I]
 a (λb c d e f=>a<=f->Bel f (D.sl b 0 c d)->Br (decide (e<0)) (∀ a,ApA (Option.some a) [D.t O]->Off [Option.some a] I
 -> ∀ b,ApA (Option.some b) [J]->Off [Option.some b] I->∀ c,f<=c->w8 c [Option.some a,Option.some b]->ACalls prog 51 [.pk,.i,
 .str,.str,.i,.dc,.dc,.dc,.dc,.row 29 9] [.dg 9 I,.fn 133 [.pd a 0 (D.t O),.pd b 9 J]] c (λd e f g h i j k l m n=>
 c<=n->Off [Option.some a,Option.some b] h/\Off [Option.some a,Option.some b] i/\Off [Option.some a,Option.some b] j/\Off
 [Option.some a,Option.some b] k/\Off [Option.some a,Option.some b] (D.ag l)/\(Bel n (D.ag l)->w2 (l.length=l.length/\m=m)
 (∀ a b,n<=b->Fresh N b a [D.ag l,h,i,j,k]->uP b (Q (D.ag [D.j d,D.t e,D.t f,D.j g,h,i,j,k,D.sl a
 9 l m])))))) (∀ a,f<=a->ACalls prog 24 [.pk,.i,.str,.str,.i,.dc,.dc,.dc,.dc,.row 29 9] [.dg 9 I] a (λf g h i j k l
 m n o p=>a<=p->Bel p (D.ag n)->∃ a q,∃ r:Nat,(I.cell 8)=D.sl a 9 q r/\ya Q N b c d e a
 q r (q.length:Int) 0 I O J 0 b0 b0 0 0 none [] 0 0 none [] 0 none [] 0 f g h i j k l m n.length o n o p))))):ACalls prog 92 [.ag 9] [PV.dg 9 I,PV.str O,PV.dg 9 J] N Q:=
  eE uo h
theorem Gp (N:Nat) (I:D) (U:Int) (Y:ByteArray) (a3:Option Addr) (J:List D) (O:Nat) (Q:QT [.pk,.int .i64,.str,.str,.int .i64,.dc,.dc,.dc,.dc,.row 29 9]) (h :
Bel N I->Bel N (D.sl a3 0 J O)->∀ b,N<=b->ACalls prog 27 [.pk,.i,.str,.str,.i,.dc,.dc,.dc,.dc,.row 29 9] [.dg 9 I] b (λn s c d
 x e f g h i j=>b<=j->Bel j (D.ag h)->∀ b,j<=b->ACalls prog 142 [.sl 0,.i] [.dg 9 I] b (λa j k _ l=>b<=l->Bel l (D.sl
 a 0 j k)->ye Q N U Y a3 J O a j k 0 0 b0 b0 0 0 none [] 0 0 none [] 0 none [] 0 n s c d x e f g h.length i h i l))):ACalls prog 143 [.pk,.int .i64,.str,.str,.int .i64,.dc,.dc,.dc,.dc,.row 29 9] [PV.dg 9 I,PV.int .i64 U,PV.str Y,PV.sv a3 0 J O] N Q:=
  eE AW h
theorem ET (N:Nat) (O:D) (I:ByteArray) (J:D) (Q:QT [.ag 9]) (h :
Bel N O->Bel N J->∃ n:Int,(O.cell 0)=D.j n/\Br (n==1) (∃ s,(O.cell 1)=D.t s/\Br (ByteArray.toList s==ByteArray.toList I) (∀ b,N<=b
 -> ACalls prog 27 [.pk,.i,.str,.str,.i,.dc,.dc,.dc,.dc,.row 29 9] [.dg 9 J] b (λc d e f x g h i j k l=>b<=l->Bel l (D.ag j)
 -> w2 (j.length=j.length/\k=k) (∀ a b,l<=b->Fresh N b a [D.ag j,x,g,h,i]->uP b (Q (D.ag [D.j c,D.t d,D.t e,D.j f,x,g,
 h,i,D.sl a 9 j k]))))) (∀ a,N<=a->ACalls prog 27 [.pk,.i,.str,.str,.i,.dc,.dc,.dc,.dc,.row 29 9] [.dg 9 O] a (λb c d e f g
 h i j k l=>a<=l->Bel l (D.ag j)->∀ a,l<=a->ACalls prog 142 [.sl 0,.i] [.dg 9 O] a (λl m n o p=>a<=p->Bel p
 (D.sl l 0 m n)->∀ a,p<=a->ACalls prog 99 [.i] [.sv l 0 m n,.str I] a (λl m=>a<=m->Br (decide (o≥0)) (Br (!(decide (l
 ≥ 0))) (∃ a n,∃ p:Nat,(O.cell 8)=D.sl a 9 n p/\(0<=o/\o<(n.length:Int))/\kL 0 100 [.dg 9 (List.getD n o.toNat default)]
 m (λa m n p=>∀ q,p<=q->ACalls prog 99 [.i] [.sv a 0 m n,.str I] q (λa m=>q<=m->Br (decide (a≥0)) (kL 0
 100 [.dg 9 J] m (λa b c d=>∀ e,d<=e->ACalls prog 143 [.pk,.i,.str,.str,.i,.dc,.dc,.dc,.dc,.row 29 9] [.dg 9 O,.j o,.str
 I,.sv a 0 b c] e (λa b c d f g h i j k m=>e<=m->Bel m (D.ag j)->zF Q N I o (decide (l
 ≥ 0)) 0 J 0 b0 b0 0 0 none [] 0 0 none [] 0 none [] 0 a b c d f g h i j.length k j k m))) (zF Q N I o (decide
 (l≥0)) 0 J 0 b0 b0 0 0 none [] 0 0 none [] 0 none [] 0 b c d e f g h i j.length k j k m)))) (zF Q N I o
 (decide (l≥0)) 0 J 0 b0 b0 0 0 none [] 0 0 none [] 0 none [] 0 b c d e f g h i j.length k j k m)) (zF Q N I
 o (decide (l≥0)) 0 J 0 b0 b0 0 0 none [] 0 0 none [] 0 none [] 0 b c d e f g h i j.length k j k m)))))) (∀ a,N<=a ->
 ACalls prog 27 [.pk,.i,.str,.str,.i,.dc,.dc,.dc,.dc,.row 29 9] [.dg 9 O] a (λb c d e f g h i j k l=>a<=l ->
 Bel l (D.ag j)->∀ a,l<=a->ACalls prog 142 [.sl 0,.i] [.dg 9 O] a (λl m n o p=>a<=p->Bel p (D.sl l 0 m n)->∀
 a,p<=a->ACalls prog 99 [.i] [.sv l 0 m n,.str I] a (λl m=>a<=m->Br (decide (o≥0)) (Br (!(decide (l≥0))) (∃ a
 n,∃ p:Nat,(O.cell 8)=D.sl a 9 n p/\(0<=o/\o<(n.length:Int))/\kL 0 100 [.dg 9 (List.getD n o.toNat default)] m (fun
 a m n p=>∀ q,p<=q->ACalls prog 99 [.i] [.sv a 0 m n,.str I] q (λa m=>q<=m->Br (decide (a≥0)) (kL 0 100
 [.dg 9 J] m (λa b c d=>∀ e,d<=e->ACalls prog 143 [.pk,.i,.str,.str,.i,.dc,.dc,.dc,.dc,.row 29 9] [.dg 9 O,.j o,.str
 I,.sv a 0 b c] e (λa b c d f g h i j k m=>e<=m->Bel m (D.ag j)->zF Q N I o
 (decide (l≥0)) 0 J 0 b0 b0 0 0 none [] 0 0 none [] 0 none [] 0 a b c d f g h i j.length k j k m)))
 (zF Q N I o (decide (l≥0)) 0 J 0 b0 b0 0 0 none [] 0 0 none [] 0 none [] 0 b c d e f g h i j.length k j
 k m)))) (zF Q N I o (decide (l≥0)) 0 J 0 b0 b0 0 0 none [] 0 0 none [] 0 none [] 0 b c d e f g h i
 j.length k j k m)) (zF Q N I o (decide (l≥0)) 0 J 0 b0 b0 0 0 none [] 0 0 none [] 0 none [] 0 b c d e f g
 h i j.length k j k m)))))):ACalls prog 98 [.ag 9] [PV.dg 9 O,PV.str I,PV.dg 9 J] N Q:=
  eE qQ h
theorem qZ (N:Nat) (Y:D) (O:Addr) (I:D) (U:Addr) (J:D) (Q:QT [.pk,.int .i64,.str,.str,.int .i64,.dc,.dc,.dc,.dc,.row 29 9]) (h :
Bel N Y->∃ a b,∃ c:Nat,(Y.cell 8)=D.sl a 9 b c/\yo Q N O I U J 0 0 a b c (b.length:Int) 0 Y 0 b0 b0 0 0
 none [] 0 0 none [] 0 none [] 0 [] 0 N):ACalls prog 51 [.pk,.int .i64,.str,.str,.int .i64,.dc,.dc,.dc,.dc,.row 29 9] [.dg 9 Y,.fn 133 [.pd O 0 I,.pd U 9 J]] N Q:=
  eE tY h
theorem tN {Q:QT [.ag 9]} {N0:Nat} {a7:Option Addr} {e7:List D} {c7:Nat} {n8:Int} {bj:Option Addr} {bh:List D} {bm:Nat} {bi I:Int} {y0:D} {aa:ByteArray} {y2:D} {ak:Int} {al am:ByteArray} {ao aq:Int} {au:Option Addr} {aw:List D} {ax:Nat} {ay:Int} {az:Option Addr} {a6:List D} {a8:Nat} {ba:Option Addr} {bc:List D} {bg:Nat} {ac:Int} {ae ah:ByteArray} {ai:Int} {J O U Y:D} {ab aj:Nat} {r5:List D} {q5:Nat} {N:Nat} (h :
Br (decide (I<bi)) ((0<=I/\I<(bh.length:Int))/\Br (bne I n8) (kA 9 92 [.dg 9 (List.getD bh I.toNat default),.str aa,.dg 9 y2] N
 (λx a=>(0<=I/\I<(ab:Int)/\(0+I.toNat:Nat)<r5.length)/\(0+I.toNat:Nat)<r5.length/\ya Q N0 a7 e7 c7 n8 bj
 bh bm bi (IntKind.i64.wrap (I+1)) y0 aa y2 ak al am ao aq au aw ax ay az a6 a8 ba bc bg ac ae ah ai J O
 U Y ab aj (List.set r5 (0+I.toNat:Nat) x) q5 a)) (ya Q N0 a7 e7 c7 n8 bj bh bm bi (IntKind.i64.wrap (I+1)) y0 aa y2
 ak al am ao aq au aw ax ay az a6 a8 ba bc bg ac ae ah ai J O U Y ab aj r5 q5 N)) (kB 93 [.sv a7 0 e7 c7,
 .str aa] N (λb d=>Br b (w3 (ab=r5.length/\aj=q5) (∀ a b,d<=b->Fresh N0 b a [D.ag r5,J,O,U,Y]->uP b (Q (D.ag [D.j ac,
 D.t ae,D.t ah,D.j ai,J,O,U,Y,D.sl a 9 r5 q5])))) (∃ a b,∃ c:Nat,(y0.cell 8)=D.sl a 9 b c/\(0<=n8/\n8<(b.length :
 Int))/\∀ a,d<=a->ACalls prog 94 [.row 9 0] [.dg 9 (List.getD b n8.toNat default)] a (λb c d=>a<=d->Bel d (D.ag b)->(b.length =
 b.length/\c=c)/\∀ a,ApA a b->∀ e,d<=e->w8 e [a]->ACalls prog 93 [.bool] [.sv a 0 b c,.str aa] e (λa b=>e <=
 b->Br (!a) (w3 (ab=r5.length/\aj=q5) (∀ a c,b<=c->Fresh N0 c a [D.ag r5,J,O,U,Y]->uP c (Q (D.ag [D.j ac,D.t
 ae,D.t ah,D.j ai,J,O,U,Y,D.sl a 9 r5 q5])))) (∀ a,b<=a->ACalls prog 94 [.row 9 0] [.dg 9 y2] a (λb c d=>a <=
 d->Bel d (D.ag b)->yc Q N0 n8 b.length c a7 e7 c7 (e7.length:Int) 0 aa y2 ak al am ao aq au aw ax ay az
 a6 a8 ba bc bg ac ae ah ai J O U Y ab aj b c r5 q5 d)))))))):ya Q N0 a7 e7 c7 n8 bj bh bm bi I y0 aa y2 ak al am ao aq au aw ax ay az a6 a8 ba bc bg ac ae ah ai J O U Y ab aj r5 q5 N:=
  hE uo h
theorem qK {Q:QT [.pk,.int .i64,.str,.str,.int .i64,.dc,.dc,.dc,.dc,.row 29 9]} {N0:Nat} {U:Int} {s2:ByteArray} {a3:Option Addr} {e3:List D} {c3:Nat} {bh:Option Addr} {ai:List D} {bi:Nat} {O al:Int} {am ao:ByteArray} {aq au:Int} {aw:Option Addr} {ax:List D} {ay:Nat} {az:Int} {a6:Option Addr} {a7:List D} {a8:Nat} {ba:Option Addr} {bc:List D} {bg:Nat} {Y:Int} {aj ak:ByteArray} {aa:Int} {ab ac ae ah:D} {I J:Nat} {r2:List D} {q2:Nat} {N:Nat} (h :
Br (decide (O<(ai.length:Int))) ((0<=O/\O<(ai.length:Int))/\∃ s,List.getD ai O.toNat default=D.t s/\∀ b,N<=b->ACalls prog 99
 [.i] [.sv a3 0 e3 c3,.str s] b (λn d=>b<=d->Br (decide (n<0)) (ye Q N0 U s2 a3 e3 c3 bh ai bi (IntKind.i64.wrap (O+1)) al
 am ao aq au aw ax ay az a6 a7 a8 ba bc bg Y aj ak aa ab ac ae ah I J r2 q2 d) ((I=r2.length/\J =
 q2)/\∀ a,ApA a r2->∀ b,d<=b->w8 b [a]->ACalls prog 142 [.sl 0,.i] [.dg 9 (D.ag [D.j Y,D.t aj,D.t ak,D.j aa,ab,ac,ae,ah,
 D.sl a 9 r2 J])] b (λc d e _ f=>b<=f->Off [a] (D.sl c 0 d e)/\(Bel f (D.sl c 0 d e)->(0<=U/\U<(I:Int)/\(0+U.toNat :
 Nat)<r2.length)/\(0+U.toNat:Nat)<r2.length/\kL 0 100 [.dg 9 (List.getD r2 (0+U.toNat:Nat) default)] f (λa b c e=>∀ f,e<=f ->
 ACalls prog 145 [.row 9 0] [.sv a3 0 e3 c3,.sv a 0 b c] f (λa b c=>f<=c->Bel c (D.ag a)->(a.length=a.length/\b=b) /\
 zC a [D.t s2] 16/\∀(b:Nat),((a++[D.t s2]).length=(a++[D.t s2]).length/\b=b)/\zC (a++[D.t s2]) d 16/\∀(b :
 Nat),((a++[D.t s2]++d).length=(a++[D.t s2]++d).length/\b=b)/\∀ e,ApA e (a++[D.t s2]++d)->∀ f,c<=f->w8 f [e]
 -> ACalls prog 163 [.str] [.sv e 0 (a++[D.t s2]++d) b] f (λa b=>f<=b->(0<=U/\U<(I:Int)/\(0+U.toNat:Nat)<r2.length)
 /\ (0+U.toNat:Nat)<r2.length/\(0<=O/\O<(ai.length:Int))/\∃ c,List.getD ai O.toNat default=D.t c/\kA 9 41 [.str a] b (λx b
 => kA 9 98 [.dg 9 (List.getD r2 (0+U.toNat:Nat) default),.str c,.dg 9 x] b (λb c=>(0<=U/\U<(I:Int)/\(0+U.toNat:Nat) <
 r2.length)/\(0+U.toNat:Nat)<r2.length/\Br (O==0) (ye Q N0 U s2 a3 e3 c3 bh ai bi (IntKind.i64.wrap (O+1)) al am ao aq
 au aw ax ay az a6 a7 a8 ba bc bg Y a ak aa ab ac ae ah I J (List.set r2 (0+U.toNat:Nat) b) q2 c)
 (ye Q N0 U s2 a3 e3 c3 bh ai bi (IntKind.i64.wrap (O+1)) al am ao aq au aw ax ay az a6 a7 a8 ba bc bg Y
 aj a aa ab ac ae ah I J (List.set r2 (0+U.toNat:Nat) b) q2 c))))))))))) ((I=r2.length/\J=q2)/\uP N (Q Y aj ak
 aa ab ac ae ah r2 J))):ye Q N0 U s2 a3 e3 c3 bh ai bi O al am ao aq au aw ax ay az a6 a7 a8 ba bc bg Y aj ak aa ab ac ae ah I J r2 q2 N:=
  hE AW h
theorem sR {Q:QT [.ag 9]} {N0:Nat} {s1:ByteArray} {n9:Int} {bc:Bool} {I:Int} {y0:D} {aj:Int} {ak al:ByteArray} {am ao:Int} {aq:Option Addr} {au:List D} {aw:Nat} {ax:Int} {ay:Option Addr} {az:List D} {a6:Nat} {a7:Option Addr} {a8:List D} {ba:Nat} {ab:Int} {ac ae:ByteArray} {ah:Int} {O U Y aa:D} {J ai:Nat} {r3:List D} {q3:Nat} {N:Nat} (h :
Br (decide (I<(J:Int))) (Br (bne I n9) ((0<=I/\I<(J:Int)/\(0+I.toNat:Nat)<r3.length)/\(0+I.toNat:Nat)<r3.length /\
 kA 9 98 [.dg 9 (List.getD r3 (0+I.toNat:Nat) default),.str s1,.dg 9 y0] N (λx a=>(0<=I/\I<(J:Int)/\(0+I.toNat:Nat) <
 r3.length)/\(0+I.toNat:Nat)<r3.length/\zF Q N0 s1 n9 bc (IntKind.i64.wrap (I+1)) y0 aj ak al am ao aq au aw ax
 ay az a6 a7 a8 ba ab ac ae ah O U Y aa J ai (List.set r3 (0+I.toNat:Nat) x) q3 a)) (Br (!bc) ((0<=I/\I<(J
 : Int)/\(0+I.toNat:Nat)<r3.length)/\(0+I.toNat:Nat)<r3.length/\kA 9 98 [.dg 9 (List.getD r3 (0+I.toNat:Nat) default),.str s1,.dg 9
 y0] N (λa b=>(0<=I/\I<(J:Int)/\(0+I.toNat:Nat)<r3.length)/\(0+I.toNat:Nat)<r3.length/\zF Q N0 s1 n9 bc
 (IntKind.i64.wrap (I+1)) y0 aj ak al am ao aq au aw ax ay az a6 a7 a8 ba ab ac ae ah O U Y aa J ai
 (List.set r3 (0+I.toNat:Nat) a) q3 b)) (zF Q N0 s1 n9 bc (IntKind.i64.wrap (I+1)) y0 aj ak al am ao aq au aw ax
 ay az a6 a7 a8 ba ab ac ae ah O U Y aa J ai r3 q3 N))) (w4 (J=r3.length/\ai=q3) (∀ a b,N<=b->Fresh N0 b a
 [D.ag r3,O,U,Y,aa]->uP b (Q (D.ag [D.j ab,D.t ac,D.t ae,D.j ah,O,U,Y,aa,D.sl a 9 r3 q3]))))):zF Q N0 s1 n9 bc I y0 aj ak al am ao aq au aw ax ay az a6 a7 a8 ba ab ac ae ah O U Y aa J ai r3 q3 N:=
  hE qQ h
theorem uV {Q:QT [.pk,.int .i64,.str,.str,.int .i64,.dc,.dc,.dc,.dc,.row 29 9]} {N0:Nat} {U:Addr} {I:D} {Y:Addr} {J:D} {m5 c5:Nat} {a6:Option Addr} {aa:List D} {a7:Nat} {az O:Int} {y0:D} {ab:Int} {ac ae:ByteArray} {ah ai:Int} {aj:Option Addr} {ak:List D} {al:Nat} {am:Int} {ao:Option Addr} {aq:List D} {au:Nat} {aw:Option Addr} {ax:List D} {ay:Nat} {r2:List D} {q2:Nat} {N:Nat} (h :
Br (decide (O<az)) ((0<=O/\O<(aa.length:Int))/\kA 9 133 [.dg 9 (List.getD aa O.toNat default),.pd U 0 I,.pd Y 9 J] N
 (λx a=>(m5=r2.length/\c5=q2)/\zC r2 [x] 136/\∀(c:Nat),yo Q N0 U I Y J (r2++[x]).length c a6 aa a7
 az (IntKind.i64.wrap (O+1)) y0 ab ac ae ah ai aj ak al am ao aq au aw ax ay (r2++[x]) c a)) ((m5=r2.length/\c5=q2) /\
 ∀ a,ApA a r2->Off [a] y0->∀ b,N<=b->w8 b [a]->ACalls prog 90 [.pk,.i,.str,.str,.i,.dc,.dc,.dc,.dc,Sh.bk 1] [.dg 9 y0,.sv a 9 r2 c5] b
 (λn s c d e f g h i j=>b<=j->i=D.sl a 9 r2 c5/\Off [a] e/\Off [a] f/\Off [a] g/\Off [a] h/\(m5=r2.length/\c5=q2) /\
 uP j (Q n s c d e f g h r2 c5)))):yo Q N0 U I Y J m5 c5 a6 aa a7 az O y0 ab ac ae ah ai aj ak al am ao aq au aw ax ay r2 q2 N:=
  hE tY h
theorem t8 {Q:QT [.ag 9]} {N0:Nat} {n8:Int} {al ab:Nat} {bm:Option Addr} {am:List D} {bp:Nat} {bj ac:Int} {J:ByteArray} {y1:D} {ao:Int} {aq au:ByteArray} {aw ax:Int} {ay:Option Addr} {az:List D} {a6:Nat} {a7:Int} {a8:Option Addr} {ba:List D} {bc:Nat} {bg:Option Addr} {bh:List D} {bi:Nat} {ae:Int} {ah ai:ByteArray} {aj:Int} {O U Y aa:D} {I ak:Nat} {r4:List D} {q4:Nat} {r5:List D} {q5:Nat} {N:Nat} (h :
Br (decide (ac<bj)) ((0<=ac/\ac<(am.length:Int))/\∃ s,List.getD am ac.toNat default=D.t s/\(al=r4.length/\ab=q4)/\∀ a,ApA a r4
 -> ∀ d,N<=d->w8 d [a]->ACalls prog 93 [.bool] [.sv a 0 r4 ab,.str s] d (λb a=>d<=a->Br b (w2 (I=r5.length/\ak=q5) (∀ b d,a <=
 d->Fresh N0 d b [D.ag r5]->(al=r4.length/\ab=q4)/\∀ a,ApA a r4->∀ e,d<=e->w8 e [a]->ACalls prog 134 [.pk,.i,.str,.str,.i,
 .dc,.dc,.dc,.dc,.row 29 9] [.dg 9 (D.ag [D.j ae,D.t ah,D.t ai,D.j aj,O,U,Y,aa,D.sl b 9 r5 q5]),.j n8,.str s,.sv a 0 r4
 ab,.str J] e (λn b c d x f g h i j k=>e<=k->Off [a] x/\Off [a] f/\Off [a] g/\Off [a] h/\Off [a] (D.ag i) /\
 (Bel k (D.ag i)->yc Q N0 n8 al ab bm am bp bj (IntKind.i64.wrap (ac+1)) J y1 ao aq au aw ax ay az a6 a7 a8
 ba bc bg bh bi n b c d x f g h i.length j r4 q4 i j k)))) (yc Q N0 n8 al ab bm am bp bj (IntKind.i64.wrap (ac +
 1)) J y1 ao aq au aw ax ay az a6 a7 a8 ba bc bg bh bi ae ah ai aj O U Y aa I ak r4 q4 r5 q5 a))) ((0 <=
 n8/\n8<(I:Int)/\(0+n8.toNat:Nat)<r5.length)/\(0+n8.toNat:Nat)<r5.length/\kA 9 92 [.dg 9 (List.getD r5 (0+n8.toNat:Nat) default),.str
 J,.dg 9 y1] N (λa b=>(0<=n8/\n8<(I:Int)/\(0+n8.toNat:Nat)<r5.length)/\(0+n8.toNat:Nat)<r5.length/\w5 (I=(List.set r5 (0
 + n8.toNat:Nat) a).length/\ak=q5) (∀ c d,b<=d->Fresh N0 d c [D.ag (List.set r5 (0+n8.toNat:Nat) a),O,U,Y,aa]->∀ b,d
 <= b->Q (D.ag [D.j ae,D.t ah,D.t ai,D.j aj,O,U,Y,aa,D.sl c 9 (List.set r5 (0+n8.toNat:Nat) a) q5]) b)))):yc Q N0 n8 al ab bm am bp bj ac J y1 ao aq au aw ax ay az a6 a7 a8 ba bc bg bh bi ae ah ai aj O U Y aa I ak r4 q4 r5 q5 N:=
  hE uo h
theorem pM (N:Nat) (O:D) (a1:Addr) (I:D) (a2:Addr) (J:D) (Q:QT [.ag 9]) (h :
Bel N O->∃ s,I=D.t s/\kA 9 92 [.dg 9 O,.str s,.dg 9 J] N (λx a=>uP a (Q x))):ACalls prog 133 [.ag 9] [.dg 9 O,.pd a1 0 I,.pd a2 9 J] N Q:=
 eE CI h
end Go.Proofs.YtligajflgjpdnaaGreatDoor
set_option maxRecDepth 100000
namespace Go.Proofs.YtligajflgjpdnaaGreatDoor
open Go Go.Proofs Go.Proofs.Tryz
def EB:Hint:=⟨[],[],[(8,hs 10 [ec 1 [12],ec 7 [18]])]⟩
def B8:Hint:=⟨[hc 4 [1,2,5]],[],[(6,[en 0,en 1,en 2,en 3,en 4,en 5,en 6,ec 7 [25],ec 8 [24],en 9])]⟩
def qf:Hint:=⟨[hc 6 [1,2,4,5,6],hc 12 [1,2,4,5,9]],[],[(8,hs 7 [ec 5 [37]]),(9,hs 9 [ec 2 [41]]),(17,[en 0,en 1,en 2,en 3,en 4,en 5,en 6,en 7,eh 8,en 9,en 10,en 11,en 12,en 13])]⟩
def Ks:Hint:=⟨[],[],[(1,hs 12 [ec 5 [13]]),(4,hs 7 [ec 3 [21,23]])]⟩
def HN:Hint:=⟨[],[],[(1,hs 4 [ec 1 [8]])]⟩
def Bb:Hint:=⟨[hc 3 [1,2,4,5]],[],[(5,hs 7 [ec 5 [20]]),(6,hs 9 [ec 2 [24]]),(10,[en 0,en 1,en 2,en 3,en 4,en 5,en 6,en 7,en 8,en 9,ec 10 [38,44],eh 11,en 12]),(12,[en 0,en 1,en 2,en 3,en 4,en 5,en 6,en 8,en 9,en 10,en 11,en 12,en 13,ec 7 [51,54],ec 14 [55,61],eh 15,en 16])]⟩
def AQ:Hint:=⟨[hc 10 [1,2,4,10]],[],[(3,hs 3 [ec 1 [25]]),(4,hs 8 [ec 1 [29]]),(7,hs 8 [ec 4 [41]]),(12,[en 0,en 1,en 2,en 3,en 4,en 5,en 6,en 13,ec 7 [57],ec 8 [56],en 9,en 10,en 11,en 12,eh 14,en 15,en 16]),(14,hs 8 [ec 3 [65,67]])]⟩
def JY:Hint:=⟨[],[],[(2,hs 3 [ec 1 [11]]),(3,hs 8 [ec 1 [15]]),(6,hs 10 [ec 7 [36]]),(8,[en 0,en 1,en 2,en 3,en 4,en 5,en 6,ec 7 [45,48],eh 8,en 9]),(10,hs 7 [ec 4 [62]])]⟩
def G4:Hint:=⟨[],[],[(1,hs 2 [ec 1 [13]]),(5,hs 8 [ec 1 [21]]),(8,hs 8 [ec 1 [30]]),(11,hs 13 [ec 4 [42]]),(12,hs 6 [ec 2 [47,48]]),(17,hs 8 [ec 1 [57]])]⟩
def xF (Q:QT [.bool])(N0:Nat)(I J:Int)(O:D)(N:Nat):Prop:=AT prog 62 [.bool] Q N0 .ord (zG prog 62 4) ⟨an 1 (.int .i64 I::.pb 0 0 0 0::an 2 (.int .i64 J::an 24 [])),[.vd O 9],N,none⟩
def zi (Q:QT [.ag 9,.int .i64])(N0:Nat)(n4:Int)(m5 c5:Nat)(n6:Int)(y0:D)(I:Int)(J O:ByteArray)(U Y:Int)(aa:Option Addr)(ab:List D)(ac:Nat)(ae:Int)(ah:Option Addr)(ai:List D)(aj:Nat)(ak:Option Addr)(al:List D)(am:Nat)(r2:List D)(q2:Nat)(N:Nat):Prop:=AT prog 63 [.ag 9,.int .i64] Q N0 .ord (zG prog 63 6) ⟨an 1 (.pb 0 0 0 0::.pb 1 0 0 0::an 1 (.int .i64 n4::.sb 2 0 0 m5 c5::.int .i64 n6::an 95 [])),[.vd y0 9,.var [.int .i64 I,.str J,.str O,.int .i64 U,.int .i64 Y,.sv aa 2 ab ac,.int .i64 ae,.sv ah 2 ai aj,.sv ak 9 al am],.arr 3 0 r2 q2],N,none⟩
def xp (Q:QT [.ag 9,.int .i64])(N0:Nat)(n5:Int)(y0:D)(I:Int)(J O:ByteArray)(U Y:Int)(aa:Option Addr)(ab:List D)(ac:Nat)(ae:Int)(ah:Option Addr)(ai:List D)(aj:Nat)(ak:Option Addr)(al:List D)(am:Nat)(y2:D)(N:Nat):Prop:=AT prog 64 [.ag 9,.int .i64] Q N0 .ord (zG prog 64 3) ⟨an 1 (.pb 0 0 0 0::.pb 1 0 0 0::an 1 (.pb 2 0 0 0::.int .i64 n5::an 58 [])),[.vd y0 9,.var [.int .i64 I,.str J,.str O,.int .i64 U,.int .i64 Y,.sv aa 2 ab ac,.int .i64 ae,.sv ah 2 ai aj,.sv ak 9 al am],.vd y2 9],N,none⟩
def yX (Q:QT [.ag 9,.int .i64,.bool])(N0:Nat)(n1 ao:Int)(y0:D)(I:Int)(J O:ByteArray)(U Y:Int)(aa:Option Addr)(ab:List D)(ac:Nat)(ae:Int)(ah:Option Addr)(ai:List D)(aj:Nat)(ak:Option Addr)(al:List D)(am:Nat)(N:Nat):Prop:=AT prog 65 [.ag 9,.int .i64,.bool] Q N0 .ord (zG prog 65 10) ⟨an 1 (.int .i64 n1::.pb 0 0 0 0::an 1 (.pb 1 0 0 0::an 5 (.int .i64 ao::an 60 []))),[.vd y0 9,.var [.int .i64 I,.str J,.str O,.int .i64 U,.int .i64 Y,.sv aa 2 ab ac,.int .i64 ae,.sv ah 2 ai aj,.sv ak 9 al am]],N,none⟩
def xD (Q:QT [.ag 9,.int .i64])(N0:Nat)(n4:Int)(m5 c5:Nat)(n9:Int)(y0:D)(I:Int)(J O:ByteArray)(U Y:Int)(aa:Option Addr)(ab:List D)(ac:Nat)(ae:Int)(ah:Option Addr)(ai:List D)(aj:Nat)(ak:Option Addr)(al:List D)(am:Nat)(r2:List D)(q2:Nat)(N:Nat):Prop:=AT prog 63 [.ag 9,.int .i64] Q N0 .ord (zG prog 63 12) ⟨an 1 (.pb 0 0 0 0::.pb 1 0 0 0::an 1 (.int .i64 n4::.sb 2 0 0 m5 c5::an 3 (.int .i64 n9::an 92 []))),[.vd y0 9,.var [.int .i64 I,.str J,.str O,.int .i64 U,.int .i64 Y,.sv aa 2 ab ac,.int .i64 ae,.sv ah 2 ai aj,.sv ak 9 al am],.arr 3 0 r2 q2],N,none⟩
theorem qH (N:Nat) (I:D) (Q:QT [.bool]) (h :
Bel N I->∃ n:Int,(I.cell 0)=D.j n/\Br (n==2) (uP N (Q true)) (Br (n==3) (uP N (Q true)) (Br (n==6) (uP N (Q true)) (Br (n==9) (uP N (Q
 true)) (Br (n==10) (kB 60 [.dg 9 I,.j 0] N (λb d=>Br b (∃ a b,∃ c:Nat,(I.cell 8)=D.sl a 9 b c/\((0:Int)<=(0:Int)/\0<(b.length :
 Int))/\kB 62 [.dg 9 (List.getD b 0 default),.j 1] d (λa b=>uP b (Q a))) (uP d (Q false)))) (uP N (Q false))))))):ACalls prog 35 [.bool] [PV.dg 9 I] N Q:=
  eE EB h
theorem I7 (N:Nat) (I:D) (J:Int) (Q:QT [.bool]) (h :
Bel N I->∃ n:Int,(I.cell 0)=D.j n/\Br (n==11) (Br (J==1) (uP N (Q false)) (xF Q N J 0 I N)) (xF Q N J 0 I N)):ACalls prog 62 [.bool] [PV.dg 9 I,PV.int .i64 J] N Q:=
 eE B8 h
theorem Dj (N:Nat) (I:D) (Q:QT [.ag 9,.int .i64]) (h :
Bel N I->∃ s,(I.cell 1)=D.t s/\Br (ByteArray.toList s==ByteArray.toList (bytes [38])) (zi Q N 3 2 2 0 I 0 b0 b0 0 0 none [] 0 0 none
 [] 0 none [] 0 [D.j 0,D.j 0] 2 N) (∃ a,(I.cell 1)=D.t a/\Br (ByteArray.toList a==ByteArray.toList (bytes [124])) (zi Q N 3 2 2 0 I 0
 b0 b0 0 0 none [] 0 0 none [] 0 none [] 0 [D.j 0,D.j 0] 2 N) (∃ a,(I.cell 1)=D.t a/\Br (ByteArray.toList a==ByteArray.toList (bytes [33]))
 (zi Q N 3 2 2 0 I 0 b0 b0 0 0 none [] 0 0 none [] 0 none [] 0 [D.j 0,D.j 0] 2 N) (zi Q N 2 2 2 0 I 0 b0 b0 0 0 none [] 0 0 none [] 0
 none [] 0 [D.j 0,D.j 0] 2 N)))):ACalls prog 63 [.ag 9,.int .i64] [PV.dg 9 I] N Q:=
  eE qf h
theorem Dz (N:Nat) (I:D) (J:Int) (Q:QT [.ag 9,.int .i64]) (h :
Bel N I->∃ a b,∃ c:Nat,(I.cell 8)=D.sl a 9 b c/\(0<=J/\J<(b.length:Int))/\∀ a,N<=a->ACalls prog 36 [.ag 9,.i] [.dg 9 (List.getD
 b J.toNat default)] a (λx n b=>a<=b->Bel b x->Br (n==0) (uP b (Q I n)) (kA 9 66 [.dg 9 I,.j J,.dg 9 x] b (λa b=>uP b (Q a
 n))))):ACalls prog 110 [.ag 9,.int .i64] [PV.dg 9 I,PV.int .i64 J] N Q:=
  eE Ks h
theorem HG (N:Nat) (O:D) (I:Int) (J:D) (Q:QT [.ag 9]) (h :
Bel N O->Bel N J->∀ b,N<=b->ACalls prog 27 [.pk,.i,.str,.str,.i,.dc,.dc,.dc,.dc,.row 29 9] [.dg 9 O] b (λn s c d x e f g
 h i j=>b<=j->Bel j (D.ag h)->(0<=I/\I<(h.length:Int)/\(0+I.toNat:Nat)<h.length)/\(0+I.toNat:Nat)<h.length/\w5 (h.length
 = (List.set h (0+I.toNat:Nat) J).length/\i=i) (∀ a b,j<=b->Fresh N b a [D.ag (List.set h (0+I.toNat:Nat) J),x,e,f,g]->∀ j,
 b<=j->Q (D.ag [D.j n,D.t s,D.t c,D.j d,x,e,f,g,D.sl a 9 (List.set h (0+I.toNat:Nat) J) i]) j))):ACalls prog 66 [.ag 9] [PV.dg 9 O,PV.int .i64 I,PV.dg 9 J] N Q:=
  eE HN h
theorem Bk (N:Nat) (I:D) (Q:QT [.ag 9,.int .i64]) (h :
Bel N I->∃ a b,∃ c:Nat,(I.cell 8)=D.sl a 9 b c/\((0:Int)<=(0:Int)/\0<(b.length:Int))/\xp Q N 0 I 0 b0 b0 0 0 none []
 0 0 none [] 0 none [] 0 (List.getD b 0 default) N):ACalls prog 64 [.ag 9,.int .i64] [PV.dg 9 I] N Q:=
  eE Bb h
theorem Gx (N:Nat) (x0:D) (n1:Int) (Q:QT [.ag 9,.int .i64,.bool]) (h :
Bel N x0->∃ n:Int,(x0.cell 0)=D.j n/\Br (n==11) (Br (n1==1) (∃ a d,∃ c:Nat,(x0.cell 8)=D.sl a 9 d c/\((0:Int)<=(0:Int)/\0 <
 (d.length:Int))/\kB 35 [.dg 9 (List.getD d 0 default)] N (fun b a=>Br (!b) (∀ b,a<=b->ACalls prog 110 [.ag 9,.i] [.dg 9 x0,.j 0] b (fun x a
 c=>b<=c->Bel c x->uP c (Q x a true))) (∃ b:Int,D.cell (List.getD d 0 default) 0=D.j b/\Br (b==10) (∃ b c,∃ e:Nat,D.cell
 (List.getD d 0 default) 8=D.sl b 9 c e/\((0:Int)<=(0:Int)/\0<(c.length:Int))/\∀ b,a<=b->ACalls prog 27 [.pk,.i,.str,.str,.i,
 .dc,.dc,.dc,.dc,.row 29 9] [.dg 9 (List.getD c 0 default)] b (fun a s c d e f g h i j k=>b<=k->Bel k (D.ag i)->w2
 (i.length=i.length/\j=j) (∀ b l,k<=l->Fresh N l b [D.ag i,e,f,g,h]->uP l (Q (D.ag [D.j a,D.t s,D.t c,D.j d,
 e,f,g,h,D.sl b 9 i j]) 6 true)))) (uP a (Q x0 0 true))))) (yX Q N n1 0 x0 0 b0 b0 0 0 none [] 0 0 none [] 0 none [] 0 N))
 (yX Q N n1 0 x0 0 b0 b0 0 0 none [] 0 0 none [] 0 none [] 0 N)):ACalls prog 65 [.ag 9,.int .i64,.bool] [PV.dg 9 x0,PV.int .i64 n1] N Q:=
  eE AQ h
theorem B3 (N:Nat) (I:D) (Q:QT [.ag 9,.int .i64]) (h :
Bel N I->∃ a d,∃ c:Nat,(I.cell 8)=D.sl a 9 d c/\((0:Int)<=(0:Int)/\0<(d.length:Int))/\kB 35 [.dg 9 (List.getD d 0 default)] N (fun
 b a=>Br (!b) (∀ b,a<=b->ACalls prog 110 [.ag 9,.i] [.dg 9 I,.j 0] b (λx n a=>b<=a->Bel a x->uP a (Q x n))) (∃ b:Int,(I.cell 0) =
 D.j b/\Br (b==5) (∃ b:Int,D.cell (List.getD d 0 default) 0=D.j b/\Br (b==3) (∃ b c,∃ e:Nat,(I.cell 8)=D.sl b 9 c e /\
 ∃ b:Int,D.cell (List.getD d 0 default) 3=D.j b/\(0<=IntKind.i64.wrap (2 - b)/\IntKind.i64.wrap (2 - b)<(c.length:Int))/\∀ d,a<=d ->
 ACalls prog 27 [.pk,.i,.str,.str,.i,.dc,.dc,.dc,.dc,.row 29 9] [.dg 9 (List.getD c (IntKind.i64.wrap (2 - b)).toNat default)] d (λa s b
 c e f g h i j k=>d<=k->Bel k (D.ag i)->w2 (i.length=i.length/\j=j) (∀ d l,k<=l->Fresh N l d [D.ag i,
 e,f,g,h]->uP l (Q (D.ag [D.j a,D.t s,D.t b,D.j c,e,f,g,h,D.sl d 9 i j]) 2)))) (∃ b:Int,(I.cell 0)=D.j b/\Br
 (b==8) (∃ b c,∃ e:Nat,(I.cell 8)=D.sl b 9 c e/\((0:Int)<=(1:Int)/\1<(c.length:Int))/\∃ b,(I.cell 1)=D.t b/\kA 9
 98 [.dg 9 (List.getD c 1 default),.str b,.dg 9 (List.getD d 0 default)] a (λa b=>uP b (Q a 5))) (∃ b:Int,(I.cell 0)=D.j b/\Br
 (b==12) (∃ b:Int,D.cell (List.getD d 0 default) 0=D.j b/\Br (b==10) (∃ b c,∃ e:Nat,D.cell (List.getD d 0 default) 8=D.sl b 9
 c e/\((0:Int)<=(0:Int)/\0<(c.length:Int))/\∀ b,a<=b->ACalls prog 27 [.pk,.i,.str,.str,.i,.dc,.dc,.dc,.dc,.row 29 9] [.dg 9
 (List.getD c 0 default)] b (λa c d e f g h i j k l=>b<=l->Bel l (D.ag j)->w2 (j.length=j.length/\k =
 k) (∀ b m,l<=m->Fresh N m b [D.ag j,f,g,h,i]->uP m (Q (D.ag [D.j a,D.t c,D.t d,D.j e,f,g,h,i,D.sl
 b 9 j k]) 7)))) (∃ b:Int,(I.cell 0)=D.j b/\Br (b==13) (∃ b:Int,D.cell (List.getD d 0 default) 0=D.j b/\Br (b==2) ((1
 = ([List.getD d 0 default]).length/\1=1)/\∀ b,ApA b [List.getD d 0 default]->∀ c,a<=c->w8 c [b]->ACalls prog 82 [.ag 9] [.j 10,.sv
 b 9 [List.getD d 0 default] 1] c (λa d=>c<=d->Off [b] a/\(Bel d a->uP d (Q a 8)))) (∃ b:Int,D.cell (List.getD d 0
 default) 0=D.j b/\Br (b==3) ((1=([List.getD d 0 default]).length/\1=1)/\∀ b,ApA b [List.getD d 0 default]->∀ c,a<=c->w8 c
 [b]->ACalls prog 82 [.ag 9] [.j 10,.sv b 9 [List.getD d 0 default] 1] c (λa d=>c<=d->Off [b] a/\(Bel d a->uP d (Q a
 8)))) (uP a (Q I 0)))) (uP a (Q I 0)))) (∃ b:Int,(I.cell 0)=D.j b/\Br (b==13) (∃ b:Int,D.cell (List.getD d 0 default) 0=D.j b
 /\ Br (b==2) ((1=([List.getD d 0 default]).length/\1=1)/\∀ b,ApA b [List.getD d 0 default]->∀ c,a<=c->w8 c [b]->ACalls prog 82
 [.ag 9] [.j 10,.sv b 9 [List.getD d 0 default] 1] c (λa d=>c<=d->Off [b] a/\(Bel d a->uP d (Q a 8)))) (∃ b:Int,
 D.cell (List.getD d 0 default) 0=D.j b/\Br (b==3) ((1=([List.getD d 0 default]).length/\1=1)/\∀ b,ApA b [List.getD d 0 default]->∀
 c,a<=c->w8 c [b]->ACalls prog 82 [.ag 9] [.j 10,.sv b 9 [List.getD d 0 default] 1] c (λa d=>c<=d->Off [b] a/\(Bel d
 a->uP d (Q a 8)))) (uP a (Q I 0)))) (uP a (Q I 0)))))) (∃ b:Int,(I.cell 0)=D.j b/\Br (b==8) (∃ b c,∃ e:Nat,(I.cell
 8)=D.sl b 9 c e/\((0:Int)<=(1:Int)/\1<(c.length:Int))/\∃ b,(I.cell 1)=D.t b/\kA 9 98 [.dg 9 (List.getD c 1 default),.str
 b,.dg 9 (List.getD d 0 default)] a (λa b=>uP b (Q a 5))) (∃ b:Int,(I.cell 0)=D.j b/\Br (b==12) (∃ b:Int,D.cell
 (List.getD d 0 default) 0=D.j b/\Br (b==10) (∃ b c,∃ e:Nat,D.cell (List.getD d 0 default) 8=D.sl b 9 c e/\((0:Int)<=(0 :
 Int)/\0<(c.length:Int))/\∀ b,a<=b->ACalls prog 27 [.pk,.i,.str,.str,.i,.dc,.dc,.dc,.dc,.row 29 9] [.dg 9 (List.getD c 0 default)]
 b (λa c d e f g h i j k l=>b<=l->Bel l (D.ag j)->w2 (j.length=j.length/\k=k) (∀ b m,l <=
 m->Fresh N m b [D.ag j,f,g,h,i]->uP m (Q (D.ag [D.j a,D.t c,D.t d,D.j e,f,g,h,i,D.sl b 9 j
 k]) 7)))) (∃ b:Int,(I.cell 0)=D.j b/\Br (b==13) (∃ b:Int,D.cell (List.getD d 0 default) 0=D.j b/\Br (b==2) ((1 =
 ([List.getD d 0 default]).length/\1=1)/\∀ b,ApA b [List.getD d 0 default]->∀ c,a<=c->w8 c [b]->ACalls prog 82 [.ag 9] [.j 10,.sv
 b 9 [List.getD d 0 default] 1] c (λa d=>c<=d->Off [b] a/\(Bel d a->uP d (Q a 8)))) (∃ b:Int,D.cell (List.getD d 0
 default) 0=D.j b/\Br (b==3) ((1=([List.getD d 0 default]).length/\1=1)/\∀ b,ApA b [List.getD d 0 default]->∀ c,a<=c->w8 c
 [b]->ACalls prog 82 [.ag 9] [.j 10,.sv b 9 [List.getD d 0 default] 1] c (λa d=>c<=d->Off [b] a/\(Bel d a->uP d (Q a
 8)))) (uP a (Q I 0)))) (uP a (Q I 0)))) (∃ b:Int,(I.cell 0)=D.j b/\Br (b==13) (∃ b:Int,D.cell (List.getD d 0 default) 0=D.j b
 /\ Br (b==2) ((1=([List.getD d 0 default]).length/\1=1)/\∀ b,ApA b [List.getD d 0 default]->∀ c,a<=c->w8 c [b]->ACalls prog
 82 [.ag 9] [.j 10,.sv b 9 [List.getD d 0 default] 1] c (λa d=>c<=d->Off [b] a/\(Bel d a->uP d (Q a 8)))) (∃ b:Int,
 D.cell (List.getD d 0 default) 0=D.j b/\Br (b==3) ((1=([List.getD d 0 default]).length/\1=1)/\∀ b,ApA b [List.getD d 0 default]->∀
 c,a<=c->w8 c [b]->ACalls prog 82 [.ag 9] [.j 10,.sv b 9 [List.getD d 0 default] 1] c (λa d=>c<=d->Off [b] a/\(Bel
 d a->uP d (Q a 8)))) (uP a (Q I 0)))) (uP a (Q I 0)))))))):ACalls prog 67 [.ag 9,.int .i64] [PV.dg 9 I] N Q:=
  eE JY h
theorem An (N:Nat) (I:D) (Q:QT [.ag 9,.int .i64]) (h :
Bel N I->kB 35 [.dg 9 I] N (λb d=>Br b (uP d (Q I 0)) (∃ n:Int,(I.cell 0)=D.j n/\Br (n==4) (∀ a,d<=a->ACalls prog 63 [.ag 9,.i]
 [.dg 9 I] a (λx b c=>a<=c->Bel c x->uP c (Q x b))) (Br (n==7) (∀ a,d<=a->ACalls prog 64 [.ag 9,.i] [.dg 9 I] a (λb c d=>
 a<=d->Bel d b->uP d (Q b c))) (Br (n==10) (∃ a b,∃ c:Nat,(I.cell 8)=D.sl a 9 b c/\((0:Int)<=(0:Int)/\0<(b.length:Int))/\∀
 a,d<=a->ACalls prog 65 [.ag 9,.i,.bool] [.dg 9 (List.getD b 0 default),.j 1] a (λb c _ d=>a<=d->Bel d b->kA 9 66 [.dg 9
 I,.j 0,.dg 9 b] d (λa b=>uP b (Q a c)))) (Br (n==5) (∀ a,d<=a->ACalls prog 67 [.ag 9,.i] [.dg 9 I] a (λb c d=>a
 <= d->Bel d b->uP d (Q b c))) (Br (n==8) (∀ a,d<=a->ACalls prog 67 [.ag 9,.i] [.dg 9 I] a (λb c d=>a<=d->Bel d b
 -> uP d (Q b c))) (Br (n==12) (∀ a,d<=a->ACalls prog 67 [.ag 9,.i] [.dg 9 I] a (λb c d=>a<=d->Bel d b->uP d (Q b
 c))) (Br (n==13) (∀ a,d<=a->ACalls prog 67 [.ag 9,.i] [.dg 9 I] a (λb c d=>a<=d->Bel d b->uP d (Q b c))) (uP d (Q
 I 0))))))))))):ACalls prog 36 [.ag 9,.int .i64] [PV.dg 9 I] N Q:=
  eE G4 h
theorem Dh (N:Nat) (n0:Int) (Q:QT [.ag 9]) (h :
∀ a,N<=a->Q (D.ag [D.j 2,D.t b0,D.t b0,D.j n0,D.j 0,D.sl none 2 [] 0,D.j 0,D.sl none 2 [] 0,D.sl none 9 [] 0]) a):ACalls prog 112 [.ag 9] [PV.int .i64 n0] N Q:=
  eE H0 h
theorem Cn (N:Nat) (n0:Int) (Q:QT [.ag 9]) (h :
∀ a,N<=a->Q (D.ag [D.j 3,D.t b0,D.t b0,D.j n0,D.j 0,D.sl none 2 [] 0,D.j 0,D.sl none 2 [] 0,D.sl none 9 [] 0]) a):ACalls prog 113 [.ag 9] [PV.int .i64 n0] N Q:=
  eE H0 h
theorem Gy (N:Nat) (J:ByteArray) (I O:Int) (Q:QT [.int .i64,.bool]) (h :
kB 31 [.j I,.j 0,.j 10006] N (λb a=>Br (!b) (uP a (Q 0 false)) (kB 31 [.j O,.j 0,.j 10006] a (λa b=>Br (!a) (uP b (Q 0 false)) (Br
 (ByteArray.toList J==ByteArray.toList (bytes [43])) (kI 148 [.j (IntKind.i64.wrap (I+O))] b (λn a=>uP a (Q n true))) (Br (ByteArray.toList J ==
 ByteArray.toList (bytes [45])) (kI 148 [.j (IntKind.i64.wrap (I - O))] b (λa b=>uP b (Q a true))) (Br (ByteArray.toList J==ByteArray.toList
 (bytes [42])) (kI 148 [.j (IntKind.i64.wrap (I*O))] b (λa b=>uP b (Q a true))) (Br (ByteArray.toList J==ByteArray.toList (bytes [61])) (kI
 149 [.bool (I==O)] b (λa b=>uP b (Q a true))) (Br (ByteArray.toList J==ByteArray.toList (bytes [60])) (kI 149 [.bool (decide (I<O))] b
 (λa b=>uP b (Q a true))) (Br (ByteArray.toList J==ByteArray.toList (bytes [38])) (Br (I==1) (kI 149 [.bool (O==1)] b (λa b=>uP
 b (Q a true))) (kI 149 [.bool false] b (λa b=>uP b (Q a true)))) (Br (ByteArray.toList J==ByteArray.toList (bytes [124])) (Br (I==1) (kI
 149 [.bool true] b (λa b=>uP b (Q a true))) (kI 149 [.bool (O==1)] b (λa b=>uP b (Q a true)))) (Br (ByteArray.toList J ==
 ByteArray.toList (bytes [33])) (kI 149 [.bool (I==0)] b (λa b=>uP b (Q a true))) (uP b (Q 0 false)))))))))))))):ACalls prog 111 [.int .i64,.bool] [PV.str J,PV.int .i64 I,PV.int .i64 O] N Q:=
  eE H0 h
theorem JQ (N:Nat) (n0:Int) (Q:QT [.int .i64]) (h :
(10007:Int)≠(0:Int)/\Br (decide (Int.tmod n0 10007<0)) (uP N (Q (IntKind.i64.wrap (Int.tmod n0 10007+10007)))) (uP N (Q (Int.tmod n0 10007)))):ACalls prog 148 [.int .i64] [PV.int .i64 n0] N Q:=
 eE H0 h
theorem Lx (N:Nat) (b0:Bool) (Q:QT [.int .i64]) (h :
Br b0 (uP N (Q 1)) (uP N (Q 0))):ACalls prog 149 [.int .i64] [PV.bool b0] N Q:=
 eE H0 h
theorem qe {Q:QT [.bool]} {N0:Nat} {O I:Int} {J:D} {N:Nat} (h :
∃ a d,∃ c:Nat,(J.cell 8)=D.sl a 9 d c/\Br (decide (I<(d.length:Int))) (∃ a c,∃ d:Nat,(J.cell 8)=D.sl a 9 c d/\(0<=I
 /\ I<(c.length:Int))/\kI 104 [.dg 9 J,.j O] N (λn a=>kB 62 [.dg 9 (List.getD c I.toNat default),.j n] a (λb a=>Br (!b) (uP a (Q
 false)) (xF Q N0 O (IntKind.i64.wrap (I+1)) J a)))) (uP N (Q true))):xF Q N0 O I J N:=
  hE B8 h
theorem uJ {Q:QT [.ag 9,.int .i64]} {N0:Nat} {n4:Int} {m5 c5:Nat} {n6:Int} {y0:D} {I:Int} {J O:ByteArray} {U Y:Int} {aa:Option Addr} {ab:List D} {ac:Nat} {ae:Int} {ah:Option Addr} {ai:List D} {aj:Nat} {ak:Option Addr} {al:List D} {am:Nat} {r2:List D} {q2:Nat} {N:Nat} (h :
∃ a d,∃ c:Nat,(y0.cell 8)=D.sl a 9 d c/\Br (decide (n6<(d.length:Int))) (∃ a c,∃ d:Nat,(y0.cell 8)=D.sl a 9 c d/\(0<=n6
 /\ n6<(c.length:Int))/\kB 35 [.dg 9 (List.getD c n6.toNat default)] N (λb a=>Br (!b) (∀ b,a<=b->ACalls prog 110 [.ag 9,.i] [.dg 9 y0,.j
 n6] b (λx n a=>b<=a->Bel a x->uP a (Q x n))) (zi Q N0 n4 m5 c5 (IntKind.i64.wrap (n6+1)) y0 I J O U Y aa ab ac
 ae ah ai aj ak al am r2 q2 a))) (xD Q N0 n4 m5 c5 0 y0 I J O U Y aa ab ac ae ah ai aj ak al am r2
 q2 N)):zi Q N0 n4 m5 c5 n6 y0 I J O U Y aa ab ac ae ah ai aj ak al am r2 q2 N:=
  hE qf h
theorem va {Q:QT [.ag 9,.int .i64]} {N0:Nat} {n5:Int} {y0:D} {J:Int} {O U:ByteArray} {Y aa:Int} {ab:Option Addr} {ac:List D} {ae:Nat} {ah:Int} {ai:Option Addr} {aj:List D} {ak:Nat} {al:Option Addr} {am:List D} {ao:Nat} {I:D} {N:Nat} (h :
Br (decide (n5<2)) (∃ a d,∃ c:Nat,(y0.cell 8)=D.sl a 9 d c/\(0<=n5/\n5<(d.length:Int))/\kB 35 [.dg 9 (List.getD d n5.toNat default)] N
 (λb a=>Br (!b) (∀ b,a<=b->ACalls prog 110 [.ag 9,.i] [.dg 9 y0,.j n5] b (λx n a=>b<=a->Bel a x->uP a (Q x n))) (xp Q N0
 (IntKind.i64.wrap (n5+1)) y0 J O U Y aa ab ac ae ah ai aj ak al am ao I a))) (∃ a:Int,(I.cell 0)=D.j a/\Br (a
 == 6) (∃ a b,∃ c:Nat,(I.cell 8)=D.sl a 9 b c/\((0:Int)<=(0:Int)/\0<(b.length:Int))/\∃ s,(I.cell 1)=D.t s/\∃ a c,∃
 d:Nat,(y0.cell 8)=D.sl a 9 c d/\((0:Int)<=(1:Int)/\1<(c.length:Int))/\kA 9 98 [.dg 9 (List.getD b 0 default),.str s,.dg 9
 (List.getD c 1 default)] N (λa b=>uP b (Q a 3))) (Br (a==9) (∃ a b,∃ c:Nat,(I.cell 8)=D.sl a 9 b c/\((0:Int)<=(0 :
 Int)/\0<(b.length:Int))/\∃ a,(I.cell 1)=D.t a/\∃ c,(I.cell 2)=D.t c/\∃ d e,∃ f:Nat,(y0.cell 8)=D.sl d 9 e f/\((0
 : Int)<=(1:Int)/\1<(e.length:Int))/\kA 9 98 [.dg 9 (List.getD b 0 default),.str a,.dg 9 I] N (λa b=>kA 9 98 [.dg 9 a,.str c,
 .dg 9 (List.getD e 1 default)] b (λa b=>uP b (Q a 4)))) (uP N (Q y0 0))))):xp Q N0 n5 y0 J O U Y aa ab ac ae ah ai aj ak al am ao I N:=
  hE Bb h
theorem rL {Q:QT [.ag 9,.int .i64,.bool]} {N0:Nat} {n1 I:Int} {y0:D} {J:Int} {O U:ByteArray} {Y aa:Int} {ab:Option Addr} {ac:List D} {ae:Nat} {ah:Int} {ai:Option Addr} {aj:List D} {ak:Nat} {al:Option Addr} {am:List D} {ao:Nat} {N:Nat} (h :
∃ a d,∃ c:Nat,(y0.cell 8)=D.sl a 9 d c/\Br (decide (I<(d.length:Int))) (∃ a c,∃ d:Nat,(y0.cell 8)=D.sl a 9 c d/\(0 <=
 I/\I<(c.length:Int))/\kI 104 [.dg 9 y0,.j n1] N (λn a=>∀ d,a<=d->ACalls prog 65 [.ag 9,.i,.bool] [.dg 9 (List.getD c I.toNat
 default),.j n] d (λx a b c=>d<=c->Bel c x->Br b (kA 9 66 [.dg 9 y0,.j I,.dg 9 x] c (λb c=>uP c (Q b a true)))
 (yX Q N0 n1 (IntKind.i64.wrap (I+1)) y0 J O U Y aa ab ac ae ah ai aj ak al am ao c)))) (uP N (Q y0 0
 false))):yX Q N0 n1 I y0 J O U Y aa ab ac ae ah ai aj ak al am ao N:=
  hE AQ h
theorem pI {Q:QT [.ag 9,.int .i64]} {N0:Nat} {n4:Int} {m5 c5:Nat} {n9:Int} {y0:D} {n1_0:Int} {s1_1 s1_2:ByteArray} {n1_3 n1_4:Int} {a1_5:Option Addr} {e1_5:List D} {c1_5:Nat} {n1_6:Int} {a1_7:Option Addr} {e1_7:List D} {c1_7:Nat} {a1_8:Option Addr} {e1_8:List D} {c1_8:Nat} {r2:List D} {q2:Nat} {N:Nat} (h :
∃ a d,∃ c:Nat,(y0.cell 8)=D.sl a 9 d c/\Br (decide (n9<(d.length:Int))) (∃ a b,∃ c:Nat,(y0.cell 8)=D.sl a 9 b c/\(0<=n9
 /\ n9<(b.length:Int))/\∃ n:Int,(if 0=0 then D.cell (List.getD b n9.toNat default) 0 else D.sub (List.getD b n9.toNat default) 0 0)=D.j n /\
 Br (bne n n4) (uP N (Q y0 0)) (∃ a b,∃ c:Nat,(y0.cell 8)=D.sl a 9 b c/\(0<=n9/\n9<(b.length:Int))/\∃ a:Int,(if 0=0 then
 D.cell (List.getD b n9.toNat default) 3 else D.sub (List.getD b n9.toNat default) 3 0)=D.j a/\(0<=n9/\n9<(m5:Int)/\(0+n9.toNat:Nat) <
 r2.length)/\(0+n9.toNat:Nat)<r2.length/\xD Q N0 n4 m5 c5 (IntKind.i64.wrap (n9+1)) y0 n1_0 s1_1 s1_2 n1_3 n1_4 a1_5 e1_5 c1_5 n1_6 a1_7
 e1_7 c1_7 a1_8 e1_8 c1_8 (List.set r2 (0+n9.toNat:Nat) (D.j a)) q2 N)) (∃ s,(y0.cell 1)=D.t s/\((0:Int)<=(0:Int)/\0<(m5:Int)/\0 <
 r2.length)/\0<r2.length/\∃ a:Int,List.getD r2 0 default=D.j a/\((0:Int)<=(1:Int)/\1<(m5:Int)/\1<r2.length)/\1<r2.length/\∃ c :
 Int,List.getD r2 1 default=D.j c/\kIB 111 [.str s,.j a,.j c] N (fun a _ b=>∃ c,(y0.cell 1)=D.t c/\Br (ByteArray.toList c ==
 ByteArray.toList (bytes [43])) (kA 9 112 [.j a] b (fun x a=>uP a (Q x 1))) (∃ c,(y0.cell 1)=D.t c/\Br (ByteArray.toList c==ByteArray.toList
 (bytes [45])) (kA 9 112 [.j a] b (fun a b=>uP b (Q a 1))) (∃ c,(y0.cell 1)=D.t c/\Br (ByteArray.toList c==ByteArray.toList (bytes [42]))
 (kA 9 112 [.j a] b (fun a b=>uP b (Q a 1))) (kA 9 113 [.j a] b (fun a b=>uP b (Q a 1)))))))):xD Q N0 n4 m5 c5 n9 y0 n1_0 s1_1 s1_2 n1_3 n1_4 a1_5 e1_5 c1_5 n1_6 a1_7 e1_7 c1_7 a1_8 e1_8 c1_8 r2 q2 N:=
  hE qf h
end Go.Proofs.YtligajflgjpdnaaGreatDoor
set_option maxRecDepth 100000
namespace Go.Proofs.YtligajflgjpdnaaGreatDoor
open Go Go.Proofs Go.Proofs.Tryz
def Ke:Hint:=⟨[],[],[(3,hs 4 [ec 1 [13]])]⟩
theorem LI (N:Nat) (O:ByteArray) (J I:D) (Q:QT [.ag 9]) (h :
Bel N J->Bel N I->(1=([I]).length/\1=1)/\∀ a,ApA a [I]->∀ b,N<=b->w8 b [a]->ACalls prog 82 [.ag 9] [.j 6,.sv a 9 [I] 1] b (λx
 c=>b<=c->Off [a] x/\(Bel c x->kA 2 55 [.dg 2 J] c (λa b=>uP b (Q (D.ag [(x.cell 0),D.t O,(x.cell 2),(x.cell 3),(a.cell 0),(a.cell
 1),(x.cell 6),(x.cell 7),(x.cell 8)])))))):ACalls prog 79 [.ag 9] [PV.str O,PV.dg 2 J,PV.dg 9 I] N Q:=
  eE Ke h
end Go.Proofs.YtligajflgjpdnaaGreatDoor
set_option maxRecDepth 100000
namespace Go.Proofs.YtligajflgjpdnaaGreatDoor
open Go Go.Proofs Go.Proofs.Tryz
def Ac:Hint:=⟨[hc 5 [1,2,4,5,15,16,17]],[],[(11,[en 0,en 1,en 2,en 3,en 4,en 5,en 6,en 7,eh 8,en 9,en 10,en 11,en 12,en 13])]⟩
def yf (Q:QT [.ag 9,.bool])(N0:Nat)(n4:Int)(m5 c5:Nat)(ao:Option Addr)(aq:List D)(au:Nat)(aw ax:Int)(y0:D)(I:Int)(J O:ByteArray)(U Y:Int)(aa:Option Addr)(ab:List D)(ac:Nat)(ae:Int)(ah:Option Addr)(ai:List D)(aj:Nat)(ak:Option Addr)(al:List D)(am:Nat)(r2:List D)(q2:Nat)(N:Nat):Prop:=AT prog 130 [.ag 9,.bool] Q N0 .ord (zG prog 130 5) ⟨an 1 (.pb 0 0 0 0::.pb 1 0 0 0::an 1 (.int .i64 n4::.sb 2 0 0 m5 c5::an 9 (.sv ao 9 aq au::.int .i64 aw::.int .i64 ax::an 33 []))),[.vd y0 9,.var [.int .i64 I,.str J,.str O,.int .i64 U,.int .i64 Y,.sv aa 2 ab ac,.int .i64 ae,.sv ah 2 ai aj,.sv ak 9 al am],.arr 3 0 r2 q2],N,none⟩
theorem F9 (N:Nat) (s0:ByteArray) (Q:QT [.bool]) (h :
Br (ByteArray.toList s0==ByteArray.toList (bytes [38])) (uP N (Q true)) (Br (ByteArray.toList s0==ByteArray.toList (bytes [124])) (uP N (Q true)) (uP N
 (Q (ByteArray.toList s0==ByteArray.toList (bytes [33])))))):ACalls prog 155 [.bool] [PV.str s0] N Q:=
  eE H0 h
theorem ER (N:Nat) (s0:ByteArray) (Q:QT [.bool]) (h :
kB 155 [.str s0] N (fun b a=>Br b (uP a (Q true)) (Br (ByteArray.toList s0==ByteArray.toList (bytes [61])) (uP a (Q true)) (uP a (Q
 (ByteArray.toList s0==ByteArray.toList (bytes [60]))))))):ACalls prog 158 [.bool] [PV.str s0] N Q:=
  eE H0 h
theorem HD (N:Nat) (I:D) (Q:QT [.ag 9,.bool]) (h :
Bel N I->∃ s,(I.cell 1)=D.t s/\kB 155 [.str s] N (λb d=>Br b (∃ a b,∃ c:Nat,(I.cell 8)=D.sl a 9 b c/\yf Q N 3 2 2 a b
 c (b.length:Int) 0 I 0 b0 b0 0 0 none [] 0 0 none [] 0 none [] 0 [D.j 0,D.j 0] 2 d) (∃ a b,∃ c:Nat,(I.cell 8)=D.sl a 9 b c /\
 yf Q N 2 2 2 a b c (b.length:Int) 0 I 0 b0 b0 0 0 none [] 0 0 none [] 0 none [] 0 [D.j 0,D.j 0] 2 d))):ACalls prog 130 [.ag 9,.bool] [PV.dg 9 I] N Q:=
  eE Ac h
theorem Kf (N:Nat) (n0:Int) (Q:QT [.ag 9]) (h :
∀ a,N<=a->Q (D.ag [D.j 2,D.t b0,D.t b0,D.j n0,D.j 0,D.sl none 2 [] 0,D.j 0,D.sl none 2 [] 0,D.sl none 9 [] 0]) a):ACalls prog 165 [.ag 9] [PV.int .i64 n0] N Q:=
  eE H0 h
theorem Gv (N:Nat) (n0:Int) (b1:Bool) (Q:QT [.ag 9]) (h :
Br b1 (∀ a,N<=a->Q (D.ag [D.j 3,D.t b0,D.t b0,D.j n0,D.j 0,D.sl none 2 [] 0,D.j 0,D.sl none 2 [] 0,D.sl none 9 [] 0]) a) (kA 9 165 [.j n0] N
 (fun x a=>uP a (Q x)))):ACalls prog 157 [.ag 9] [PV.int .i64 n0,PV.bool b1] N Q:=
  eE H0 h
theorem Gw (N:Nat) (s0:ByteArray) (n1 n2:Int) (Q:QT [.int .i64,.bool]) (h :
kB 152 [.j n1] N (fun b a=>Br (!b) (uP a (Q 0 false)) (kB 152 [.j n2] a (fun a b=>Br (!a) (uP b (Q 0 false)) (Br (ByteArray.toList s0 ==
 ByteArray.toList (bytes [43])) (kI 164 [.j (IntKind.i64.wrap (n1+n2))] b (fun n a=>uP a (Q n true))) (Br (ByteArray.toList s0==ByteArray.toList (bytes
 [45])) (kI 164 [.j (IntKind.i64.wrap (n1 - n2))] b (fun a b=>uP b (Q a true))) (Br (ByteArray.toList s0==ByteArray.toList (bytes [42])) (kI 164 [.j
 (IntKind.i64.wrap (n1*n2))] b (fun a b=>uP b (Q a true))) (Br (ByteArray.toList s0==ByteArray.toList (bytes [61])) (kI 57 [.bool (n1==n2)] b
 (fun a b=>uP b (Q a true))) (Br (ByteArray.toList s0==ByteArray.toList (bytes [60])) (kI 57 [.bool (decide (n1<n2))] b (fun a b=>uP b (Q
 a true))) (Br (ByteArray.toList s0==ByteArray.toList (bytes [38])) (Br (n1==1) (kI 57 [.bool (n2==1)] b (fun a b=>uP b (Q a true))) (kI 57
 [.bool false] b (fun a b=>uP b (Q a true)))) (Br (ByteArray.toList s0==ByteArray.toList (bytes [124])) (Br (n1==1) (kI 57 [.bool true] b (fun
 a b=>uP b (Q a true))) (kI 57 [.bool (n2==1)] b (fun a b=>uP b (Q a true)))) (Br (ByteArray.toList s0==ByteArray.toList (bytes [33]))
 (kI 57 [.bool (n1==0)] b (fun a b=>uP b (Q a true))) (uP b (Q 0 false))))))))))))) ):ACalls prog 156 [.int .i64,.bool] [PV.str s0,PV.int .i64 n1,PV.int .i64 n2] N Q:=
  eE H0 h
theorem JL (N:Nat) (n0:Int) (Q:QT [.int .i64]) (h :
(10007:Int)≠(0:Int)/\(10007:Int)≠(0:Int)/\∀ a,N<=a->Q (Int.tmod (IntKind.i64.wrap (Int.tmod n0 10007+10007)) 10007) a):ACalls prog 164 [.int .i64] [PV.int .i64 n0] N Q:=
 eE H0 h
theorem Pg (N:Nat) (b0:Bool) (Q:QT [.int .i64]) (h :
Br b0 (uP N (Q 1)) (uP N (Q 0))):ACalls prog 57 [.int .i64] [PV.bool b0] N Q:=
 eE H0 h
theorem qI {Q:QT [.ag 9,.bool]} {N0:Nat} {n4:Int} {m5 c5:Nat} {ax:Option Addr} {J:List D} {ay:Nat} {aw I:Int} {y0:D} {U:Int} {Y aa:ByteArray} {ab ac:Int} {ae:Option Addr} {ah:List D} {ai:Nat} {aj:Int} {ak:Option Addr} {al:List D} {am:Nat} {ao:Option Addr} {aq:List D} {au:Nat} {O:List D} {q2:Nat} {N:Nat} (h :
Br (decide (I<aw)) ((0<=I/\I<(J.length:Int))/\∃ n:Int,D.cell (List.getD J I.toNat default) 0=D.j n/\Br (bne n n4) (∀ a,N<=a
 -> Q (D.ag [D.j 0,D.t b0,D.t b0,D.j 0,D.j 0,D.sl none 2 [] 0,D.j 0,D.sl none 2 [] 0,D.sl none 9 [] 0]) false a) (∃ a:Int,D.cell (List.getD J
 I.toNat default) 3=D.j a/\(0<=I/\I<(m5:Int)/\(0+I.toNat:Nat)<O.length)/\(0+I.toNat:Nat)<O.length/\yf Q N0 n4
 m5 c5 ax J ay aw (IntKind.i64.wrap (I+1)) y0 U Y aa ab ac ae ah ai aj ak al am ao aq au (List.set O (0+I.toNat :
 Nat) (D.j a)) q2 N)) (∃ s,(y0.cell 1)=D.t s/\((0:Int)<=(0:Int)/\0<(m5:Int)/\0<O.length)/\0<O.length/\∃ a:Int,List.getD O 0
 default=D.j a/\((0:Int)<=(1:Int)/\1<(m5:Int)/\1<O.length)/\1<O.length/\∃ c:Int,List.getD O 1 default=D.j c/\kIB 156 [.str s,
 .j a,.j c] N (λa b c=>∃ d,(y0.cell 1)=D.t d/\kB 158 [.str d] c (λc d=>kA 9 157 [.j a,.bool c] d (λx a=>uP a (Q x
 b)))))):yf Q N0 n4 m5 c5 ax J ay aw I y0 U Y aa ab ac ae ah ai aj ak al am ao aq au O q2 N:=
  hE Ac h
end Go.Proofs.YtligajflgjpdnaaGreatDoor
set_option maxRecDepth 100000
namespace Go.Proofs.YtligajflgjpdnaaGreatDoor
open Go Go.Proofs Go.Proofs.Tryz
def CF:Hint:=⟨[hc 3 [1,3,4]],[],[(5,hs 9 [ec 6 [17]])]⟩
def sy:Hint:=⟨[hc 6 [1,4,5,6]],[],[(1,hs 8 [ec 1 [9]]),(3,hs 4 [ec 1 [18]]),(6,hs 3 [ec 1 [22]]),(8,hs 2 [ec 1 [27]]),(12,hs 8 [ec 1 [39]])]⟩
def xt (Q:QT [.int .i64])(N0:Nat)(I J:Int)(O:D)(N:Nat):Prop:=AT prog 14 [.int .i64] Q N0 .ord (zG prog 14 3) ⟨an 1 (.pb 0 0 0 0::an 1 (.int .i64 I::.int .i64 J::an 16 [])),[.vd O 9],N,none⟩
def qU (Q:QT [.ag 11])(N0:Nat)(n1 n6 J O:Int)(U Y:ByteArray)(aa ab:Int)(ac:Option Addr)(ae:List D)(ah:Nat)(ai:Int)(aj:Option Addr)(ak:List D)(al:Nat)(am:Option Addr)(ao:List D)(aq:Nat)(I au:Int)(aw ax:ByteArray)(ay:Int)(az a6 a7 a8:D)(ba bc:Nat)(r2:List D)(q2:Nat)(N:Nat):Prop:=AT prog 17 [.ag 11] Q N0 .ord (zG prog 17 6) ⟨an 1 (.int .i64 n1::an 2 (.pb 0 0 0 0::.pb 1 0 0 0::.int .i64 n6::an 42 [])),[.var [.int .i64 J,.int .i64 O,.str U,.str Y,.int .i64 aa,.int .i64 ab,.sv ac 2 ae ah,.int .i64 ai,.sv aj 2 ak al,.sv am 9 ao aq,.int .i64 I],.var [.int .i64 au,.str aw,.str ax,.int .i64 ay,.dc az,.dc a6,.dc a7,.dc a8,.sb 2 9 0 ba bc],.arr 29 9 r2 q2],N,none⟩
def xN (Q:QT [.ag 11])(N0:Nat)(n1 n6 J O:Int)(U Y:ByteArray)(aa ab:Int)(ac:Option Addr)(ae:List D)(ah:Nat)(ai:Int)(aj:Option Addr)(ak:List D)(al:Nat)(am:Option Addr)(ao:List D)(aq:Nat)(I:Int)(y1:D)(N:Nat):Prop:=AT prog 17 [.ag 11] Q N0 .ord (zG prog 17 6) ⟨an 1 (.int .i64 n1::an 2 (.pb 0 0 0 0::.pb 1 0 0 0::.int .i64 n6::an 42 [])),[.var [.int .i64 J,.int .i64 O,.str U,.str Y,.int .i64 aa,.int .i64 ab,.sv ac 2 ae ah,.int .i64 ai,.sv aj 2 ak al,.sv am 9 ao aq,.int .i64 I],.vd y1 9],N,none⟩
theorem Bg (N:Nat) (I:D) (Q:QT [.int .i64]) (h :
Bel N I->xt Q N 1 0 I N):ACalls prog 14 [.int .i64] [PV.dg 9 I] N Q:=
 eE CF h
theorem G2 (N:Nat) (I:D) (J:Int) (Q:QT [.ag 11]) (h :
Bel N I->kB 33 [.dg 9 I,.j 0] N (λb a=>Br (!b) (∀ b,a<=b->Q (D.ag [D.j 0,D.j 0,D.t b0,D.t b0,D.j 0,D.j 0,D.sl none 2 [] 0,D.j 0,
 D.sl none 2 [] 0,D.sl none 9 [] 0,D.j 0]) b) (kB 31 [.j J,.j 0,.j 200] a (λa b=>Br (!a) (∀ a,b<=a->Q (D.ag [D.j 0,D.j 0,D.t b0,D.t b0,
 D.j 0,D.j 0,D.sl none 2 [] 0,D.j 0,D.sl none 2 [] 0,D.sl none 9 [] 0,D.j 0]) a) (∀ a,b<=a->ACalls prog 27 [.pk,.i,.str,.str,.i,.dc,.dc,.dc,
 .dc,.row 29 9] [.dg 9 I] a (λn s b c x d e f g h i=>a<=i->Bel i (D.ag g)->qU Q N J 0 0 0 b0 b0 0 0 none [] 0 0 none []
 0 none [] 0 0 n s b c x d e f g.length h g h i)))))):ACalls prog 17 [.ag 11] [PV.dg 9 I,PV.int .i64 J] N Q:=
  eE sy h
theorem w9 {Q:QT [.int .i64]} {N0:Nat} {n3 n4:Int} {y0:D} {N:Nat} (h :
∃ a b,∃ c:Nat,(y0.cell 8)=D.sl a 9 b c/\Br (decide (n4<(b.length:Int))) (∃ a b,∃ c:Nat,(y0.cell 8)=D.sl a 9 b c/\(0<=n4
 /\ n4<(b.length:Int))/\∀ a,N<=a->ACalls prog 14 [.i] [.dg 9 (List.getD b n4.toNat default)] a (fun n b=>a<=b->xt Q N0
 (IntKind.i64.wrap (n3+n)) (IntKind.i64.wrap (n4+1)) y0 b)) (uP N (Q n3))):xt Q N0 n3 n4 y0 N:=
  hE CF h
theorem Ed {Q:QT [.ag 11]} {N0:Nat} {n1 n6 n0_0 n0_1:Int} {s0_2 s0_3:ByteArray} {n0_4 n0_5:Int} {a0_6:Option Addr} {e0_6:List D} {c0_6:Nat} {n0_7:Int} {a0_8:Option Addr} {e0_8:List D} {c0_8:Nat} {a0_9:Option Addr} {e0_9:List D} {c0_9:Nat} {n0_10 n1_0:Int} {s1_1 s1_2:ByteArray} {n1_3:Int} {x1_4 x1_5 x1_6 x1_7:D} {m1_8 c1_8:Nat} {r2:List D} {q2:Nat} {N:Nat} (h :
(m1_8=r2.length/\c1_8=q2)/\(m1_8=r2.length/\c1_8=q2)/\∀ a c,N<=c->Fresh N0 c a [D.ag r2]->∀ d,c<=d->ACalls prog 14 [.i] [.dg 9
 (D.ag [D.j n1_0,D.t s1_1,D.t s1_2,D.j n1_3,x1_4,x1_5,x1_6,x1_7,D.sl a 9 r2 q2])] d (fun n c=>d<=c->Br (decide (n>400)) (∀ a,c<=a->Q
 (D.ag [D.j 3,D.j 0,D.t b0,D.t b0,D.j 0,D.j 0,D.sl none 2 [] 0,D.j 0,D.sl none 2 [] 0,D.sl none 9 [] 0,D.j n6]) a) (kB 35 [.dg 9 (D.ag [D.j n1_0,D.t
 s1_1,D.t s1_2,D.j n1_3,x1_4,x1_5,x1_6,x1_7,D.sl a 9 r2 q2])] c (fun b c=>Br b (uP c (Q (D.ag [D.j 1,D.j n1_0,D.t s1_1,D.t s1_2,D.j n1_3,x1_4,
 x1_5,x1_6,x1_7,D.sl a 9 r2 q2,D.j n6]))) (Br (n6==n1) (uP c (Q (D.ag [D.j 2,D.j n1_0,D.t s1_1,D.t s1_2,D.j n1_3,x1_4,x1_5,x1_6,x1_7,D.sl a 9 r2
 q2,D.j n6]))) (∀ b,c<=b->ACalls prog 36 [.ag 9,.i] [.dg 9 (D.ag [D.j n1_0,D.t s1_1,D.t s1_2,D.j n1_3,x1_4,x1_5,x1_6,x1_7,D.sl a 9 r2 q2])] b
 (fun x c d=>b<=d->Bel d x->Br (c==0) (uP d (Q (D.ag [D.j 4,D.j n1_0,D.t s1_1,D.t s1_2,D.j n1_3,x1_4,x1_5,x1_6,x1_7,D.sl a 9 r2 q2,
 D.j n6]))) (xN Q N0 n1 (IntKind.i64.wrap (n6+1)) n0_0 n0_1 s0_2 s0_3 n0_4 n0_5 a0_6 e0_6 c0_6 n0_7 a0_8 e0_8 c0_8 a0_9 e0_9 c0_9 n0_10 x
 d)))))))):qU Q N0 n1 n6 n0_0 n0_1 s0_2 s0_3 n0_4 n0_5 a0_6 e0_6 c0_6 n0_7 a0_8 e0_8 c0_8 a0_9 e0_9 c0_9 n0_10 n1_0 s1_1 s1_2 n1_3 x1_4 x1_5 x1_6 x1_7 m1_8 c1_8 r2 q2 N:=
  hE sy h
theorem tz {Q:QT [.ag 11]} {N0:Nat} {n1 n6 O U:Int} {Y aa:ByteArray} {ab ac:Int} {ae:Option Addr} {ah:List D} {ai:Nat} {aj:Int} {ak:Option Addr} {al:List D} {am:Nat} {ao:Option Addr} {aq:List D} {au:Nat} {J:Int} {I:D} {N:Nat} (h :
∀ a,N<=a->ACalls prog 14 [.i] [.dg 9 I] a (λn c=>a<=c->Br (decide (n>400)) (∀ a,c<=a->Q (D.ag [D.j 3,D.j 0,D.t b0,D.t b0,D.j
 0,D.j 0,D.sl none 2 [] 0,D.j 0,D.sl none 2 [] 0,D.sl none 9 [] 0,D.j n6]) a) (kB 35 [.dg 9 I] c (λb a=>Br b (uP a (Q (D.ag [D.j 1,(I.cell 0),
 (I.cell 1),(I.cell 2),(I.cell 3),(I.cell 4),(I.cell 5),(I.cell 6),(I.cell 7),(I.cell 8),D.j n6]))) (Br (n6==n1) (uP a (Q (D.ag [D.j 2,
 (I.cell 0),(I.cell 1),(I.cell 2),(I.cell 3),(I.cell 4),(I.cell 5),(I.cell 6),(I.cell 7),(I.cell 8),D.j n6]))) (∀ b,a<=b->ACalls prog 36
 [.ag 9,.i] [.dg 9 I] b (λx a c=>b<=c->Bel c x->Br (a==0) (uP c (Q (D.ag [D.j 4,(I.cell 0),(I.cell 1),(I.cell 2),(I.cell 3),
 (I.cell 4),(I.cell 5),(I.cell 6),(I.cell 7),(I.cell 8),D.j n6]))) (xN Q N0 n1 (IntKind.i64.wrap (n6+1)) O U Y aa ab
 ac ae ah ai aj ak al am ao aq au J x c)))))))):xN Q N0 n1 n6 O U Y aa ab ac ae ah ai aj ak al am ao aq au J I N:=
  hE sy h
end Go.Proofs.YtligajflgjpdnaaGreatDoor
set_option maxRecDepth 100000
namespace Go.Proofs.YtligajflgjpdnaaGreatDoor
open Go Go.Proofs Go.Proofs.Tryz
def D0:Hint:=⟨[hc 2 [1,2,5]],[],[(4,hs 7 [ec 6 [17]])]⟩
def AY:Hint:=⟨[hc 2 [1,3]],[],[(4,hs 7 [ec 5 [15]]),(6,hs 16 [ec 6 [23],ec 12 [29]])]⟩
def HL:Hint:=⟨[],[],[(1,hs 7 [ec 1 [3],ec 4 [6]])]⟩
def AZ:Hint:=⟨[hc 2 [1,3]],[],[(4,hs 7 [ec 5 [15]])]⟩
def BY:Hint:=⟨[hc 3 [2,3,4]],[],[(1,hs 4 [ec 1 [5]]),(5,[en 0,en 1,en 2,en 3,en 4,en 5,en 6,en 7,ec 8 [21],en 9,eh 10]),(6,hs 3 [ec 1 [24]])]⟩
def Fs:Hint:=⟨[],[],[(1,hs 3 [ec 1 [3]]),(2,hs 3 [ec 1 [6]]),(3,hs 3 [ec 1 [8]])]⟩
def CL:Hint:=⟨[],[],[(1,hs 7 [ec 1 [3],ec 4 [6]])]⟩
def EU:Hint:=⟨[],[],[(2,hs 24 [ec 10 [21],ec 18 [29]])]⟩
def G0:Hint:=⟨[],[],[(1,hs 7 [ec 1 [3],ec 4 [6]])]⟩
def Df:Hint:=⟨[hc 3 [1,5,13,14,15]],[],[(1,hs 5 [ec 2 [9]]),(5,hs 6 [ec 3 [20]])]⟩
def Hf:Hint:=⟨[],[],[(1,hs 4 [ec 1 [3]])]⟩
def C6:Hint:=⟨[],[],[(3,hs 3 [ec 1 [8]]),(6,[en 0,en 1,en 2,en 3,en 4,en 5,en 6,en 7,en 8,en 9,eh 10]),(9,hs 10 [ec 8 [41]]),(10,[en 0,en 1,en 2,en 3,en 4,en 5,en 6,en 7,en 8,en 9,ec 10 [47,53],eh 11]),(12,hs 6 [ec 4 [61]]),(13,[en 0,en 1,en 2,en 3,en 4,en 5,en 6,en 7,en 8,en 9,ec 10 [66,72],eh 11]),(14,[en 0,en 1,en 2,en 3,ec 4 [78],en 5,en 6,en 7,en 8,en 9,en 11,en 12,ec 10 [84],eh 13,en 14,en 15,en 16])]⟩
def Gc:Hint:=⟨[],[],[(1,hs 4 [ec 1 [3],ec 2 [4]])]⟩
def E4:Hint:=⟨[],[],[(1,hs 3 [ec 1 [3]]),(2,hs 3 [ec 1 [6]]),(3,hs 4 [ec 1 [8],ec 2 [9]])]⟩
def EA:Hint:=⟨[],[],[(1,hs 11 [ec 2 [6]])]⟩
def CH:Hint:=⟨[],[],[(1,hs 5 [ec 2 [4]])]⟩
def w6:Hint:=⟨[hc 2 [0,1,7,8]],[],[(4,hs 6 [ec 5 [15]])]⟩
def D4:Hint:=⟨[],[],[(1,hs 11 [ec 2 [6]])]⟩
def Bl:Hint:=⟨[],[],[(1,hs 5 [ec 2 [4]])]⟩
def wx:Hint:=⟨[hc 2 [0,1,7,8]],[],[(4,hs 6 [ec 5 [15]])]⟩
def tJ:Hint:=⟨[hc 3 [1,2,4,5,10,11,12] [(5,29,9)]],[],[(5,hs 7 [{ i:=3,hard:=true,cl:=[18],fs:=[5,18] },{ i:=4,hard:=true,cl:=[19],fs:=[5,19] }]),(7,hs 4 [{ i:=2,hard:=true,cl:=[23],fs:=[5,23] }])]⟩
def uL (Q:QT [.bool])(N0:Nat)(I J:Int)(O:D)(N:Nat):Prop:=AT prog 96 [.bool] Q N0 .ord (zG prog 96 2) ⟨an 1 (.int .i64 I::.pb 0 0 0 0::an 2 (.int .i64 J::an 18 [])),[.vd O 2],N,none⟩
def we (Q:QT [.bool])(N0:Nat)(I:Int)(J:D)(N:Nat):Prop:=AT prog 54 [.bool] Q N0 .ord (zG prog 54 2) ⟨an 1 (.pb 0 0 0 0::an 1 (.int .i64 I::an 29 [])),[.vd J 9],N,none⟩
def wg (Q:QT [.bool])(N0:Nat)(I:Int)(J:D)(N:Nat):Prop:=AT prog 11 [.bool] Q N0 .ord (zG prog 11 2) ⟨an 1 (.pb 0 0 0 0::an 1 (.int .i64 I::an 17 [])),[.vd J 9],N,none⟩
def vZ (Q:QT [.ag 9])(N0:Nat)(n4 I:Int)(J O:ByteArray)(U Y:Int)(aa:Option Addr)(ab:List D)(ac:Nat)(ae:Int)(ah:Option Addr)(ai:List D)(aj:Nat)(ak:Option Addr)(al:List D)(am:Nat)(ao:Int)(aq au:ByteArray)(aw:Int)(ax ay az a6:D)(a7 a8:Nat)(r2:List D)(q2:Nat)(N:Nat):Prop:=AT prog 28 [.ag 9] Q N0 .ord (zG prog 28 3) ⟨an 2 (.pb 0 0 0 0::.pb 1 0 0 0::.int .i64 n4::an 21 []),[.var [.int .i64 I,.str J,.str O,.int .i64 U,.int .i64 Y,.sv aa 2 ab ac,.int .i64 ae,.sv ah 2 ai aj,.sv ak 9 al am],.var [.int .i64 ao,.str aq,.str au,.int .i64 aw,.dc ax,.dc ay,.dc az,.dc a6,.sb 2 9 0 a7 a8],.arr 29 9 r2 q2],N,none⟩
def uK (Q:QT [.int .i64])(N0:Nat)(n5:Int)(I:Option Addr)(J:List D)(O:Nat)(U Y:Int)(N:Nat):Prop:=AT prog 29 [.int .i64] Q N0 .ord (zG prog 29 3) ⟨an 1 (.fn 30 []::an 3 (.int .i64 n5::an 7 (.sv I 9 J O::.int .i64 U::.int .i64 Y::an 10 []))),[],N,none⟩
def yr (Q:QT [.pk,.int .i64,.str,.str,.int .i64,.dc,.dc,.dc,.dc,.row 29 9])(N0:Nat)(m5 c5:Nat)(ao:Option Addr)(aq:List D)(au:Nat)(aw ax:Int)(y0:D)(I:Int)(J O:ByteArray)(U Y:Int)(aa:Option Addr)(ab:List D)(ac:Nat)(ae:Int)(ah:Option Addr)(ai:List D)(aj:Nat)(ak:Option Addr)(al:List D)(am:Nat)(r2:List D)(q2:Nat)(N:Nat):Prop:=AT prog 51 [.pk,.int .i64,.str,.str,.int .i64,.dc,.dc,.dc,.dc,.row 29 9] Q N0 .ord (zG prog 51 3) ⟨an 1 (.fn 25 []::.pb 0 0 0 0::an 1 (.pb 1 0 0 0::.sb 2 9 0 m5 c5::an 4 (.sv ao 9 aq au::.int .i64 aw::.int .i64 ax::an 13 []))),[.vd y0 9,.var [.int .i64 I,.str J,.str O,.int .i64 U,.int .i64 Y,.sv aa 2 ab ac,.int .i64 ae,.sv ah 2 ai aj,.sv ak 9 al am],.arr 29 9 r2 q2],N,none⟩
def zx (Q:QT [.int .i64])(N0:Nat)(a0:Option Addr)(e0:List D)(J:Nat)(I:Addr)(O U:Int)(N:Nat):Prop:=AT prog 154 [.int .i64] Q N0 .ord (zG prog 154 2) ⟨.sv a0 2 e0 J::.fn 128 [.pd I 0 (.fn 89 [])]::an 5 (.int .i64 O::.int .i64 U::an 10 []),[],N,none⟩
def zy (Q:QT [.int .i64])(N0:Nat)(a0:Option Addr)(e0:List D)(J:Nat)(I:Addr)(O U:Int)(N:Nat):Prop:=AT prog 123 [.int .i64] Q N0 .ord (zG prog 123 2) ⟨.sv a0 9 e0 J::.fn 85 [.pd I 0 (.fn 48 [])]::an 5 (.int .i64 O::.int .i64 U::an 10 []),[],N,none⟩
theorem Kh (N:Nat) (I:D) (J:Int) (Q:QT [.bool]) (h :
Bel N I->uL Q N J 0 I N):ACalls prog 96 [.bool] [PV.dg 2 I,PV.int .i64 J] N Q:=
 eE D0 h
theorem HB (N:Nat) (I:D) (Q:QT [.bool]) (h :
Bel N I->we Q N 0 I N):ACalls prog 54 [.bool] [PV.dg 9 I] N Q:=
 eE AY h
theorem Hb (N:Nat) (I:D) (Q:QT [.bool]) (h :
Bel N I->kB 53 [.dg 9 I] N (λb a=>Br b (kB 54 [.dg 9 I] a (λa b=>uP b (Q a))) (uP a (Q false)))):ACalls prog 26 [.bool] [PV.dg 9 I] N Q:=
 eE HL h
theorem Le (N:Nat) (I:D) (J:Int) (Q:QT [.bool]) (h :
Bel N I->∃ n:Int,(I.cell 0)=D.j n/\Br (n==2) (∃ a:Int,(I.cell 3)=D.j a/\uP N (Q (a==J))) (uP N (Q false))):ACalls prog 141 [.bool] [PV.dg 9 I,PV.int .i64 J] N Q:=
 eE H0 h
theorem JS (N:Nat) (I:D) (Q:QT [.bool]) (h :
Bel N I->∃ n:Int,(I.cell 0)=D.j n/\kB 31 [.j n,.j 1,.j 3] N (λb a=>uP a (Q b))):ACalls prog 13 [.bool] [PV.dg 9 I] N Q:=
 eE H0 h
theorem Gt (N:Nat) (I:D) (Q:QT [.bool]) (h :
Bel N I->wg Q N 0 I N):ACalls prog 11 [.bool] [PV.dg 9 I] N Q:=
 eE AZ h
theorem In (N:Nat) (I:D) (Q:QT [.ag 9]) (h :
Bel N I->∀ a,N<=a->ACalls prog 27 [.pk,.i,.str,.str,.i,.dc,.dc,.dc,.dc,.row 29 9] [.dg 9 I] a (λn s b c x d e f g h i=>
 a<=i->Bel i (D.ag g)->vZ Q N 0 0 b0 b0 0 0 none [] 0 0 none [] 0 none [] 0 n s b c x d e f g.length h g h i)):ACalls prog 28 [.ag 9] [PV.dg 9 I] N Q:=
  eE BY h
theorem F6 (N:Nat) (I:D) (Q:QT [.ag 9]) (h :
Bel N I->kB 26 [.dg 9 I] N (λb d=>Br (!b) (∀ b,d<=b->ACalls prog 27 [.pk,.i,.str,.str,.i,.dc,.dc,.dc,.dc,.row 29 9] [.dg 9 I] b
 (λn s c d x e f g h i j=>b<=j->Bel j (D.ag h)->w2 (h.length=h.length/\i=i) (∀ a b,j<=b->Fresh N b a [D.ag h,x,e,f,
 g]->uP b (Q (D.ag [D.j n,D.t s,D.t c,D.j d,x,e,f,g,D.sl a 9 h i]))))) (kA 9 28 [.dg 9 I] d (λa b=>uP b (Q a))))):ACalls prog 9 [.ag 9] [PV.dg 9 I] N Q:=
  eE Fs h
theorem Gr (N:Nat) (n0:Int) (Q:QT [.bool]) (h :
kB 86 [.j n0,.j 10,.j 13] N (λb a=>uP a (Q b))):ACalls prog 49 [.bool] [PV.int .i64 n0] N Q:=
 eE H0 h
theorem AE (N:Nat) (I:D) (Q:QT [.bool]) (h :
Bel N I->∃ n:Int,(I.cell 0)=D.j n/\uP N (Q (bne n 4))):ACalls prog 89 [.bool] [PV.dg 2 I] N Q:=
 eE H0 h
theorem CC (N:Nat) (I:D) (Q:QT [.bool]) (h :
Bel N I->kB 87 [.dg 2 I] N (λb a=>Br b (kB 88 [.dg 2 I,.fn 89 []] a (λa b=>uP b (Q a))) (uP a (Q false)))):ACalls prog 50 [.bool] [PV.dg 2 I] N Q:=
 eE CL h
theorem EX (N:Nat) (x0:D) (Q:QT [.bool]) (h :
Bel N x0->∃ n:Int,(x0.cell 0)=D.j n/\Br (n==6) (∃ a:Int,(x0.cell 0)=D.j a/\kB 49 [.j a] N (fun b a=>Br (!b) (kB 50 [.dg 2 (D.sub x0
 4 2)] a (fun a b=>Br a (∃ a:Int,(x0.cell 0)=D.j a/\Br (a==6) (uP b (Q true)) (kB 50 [.dg 2 (D.sub x0 6 2)] b (fun a b=>uP b (Q
 a)))) (uP b (Q false)))) (uP a (Q false)))) (∃ a:Int,(x0.cell 0)=D.j a/\∃ b:Int,(x0.cell 0)=D.j b/\kB 49 [.j b] N (fun b c=>Br
 (!b) (Br (!(a==9)) (uP c (Q true)) (kB 50 [.dg 2 (D.sub x0 4 2)] c (fun a b=>Br a (∃ a:Int,(x0.cell 0)=D.j a/\Br (a==6) (uP b
 (Q true)) (kB 50 [.dg 2 (D.sub x0 6 2)] b (fun a b=>uP b (Q a)))) (uP b (Q false))))) (uP c (Q false))))):ACalls prog 48 [.bool] [PV.dg 9 x0] N Q:=
  eE EU h
theorem HV (N:Nat) (I:D) (Q:QT [.bool]) (h :
Bel N I->kB 46 [.dg 9 I] N (λb a=>Br b (kB 47 [.dg 9 I,.fn 48 []] a (λa b=>uP b (Q a))) (uP a (Q false)))):ACalls prog 23 [.bool] [PV.dg 9 I] N Q:=
 eE G0 h
theorem LG (N:Nat) (I:D) (J:Int) (Q:QT [.bool]) (h :
Bel N I->∃ n:Int,(I.cell 0)=D.j n/\Br (n==2) (∃ a:Int,(I.cell 3)=D.j a/\uP N (Q (a==J))) (uP N (Q false))):ACalls prog 131 [.bool] [PV.dg 9 I,PV.int .i64 J] N Q:=
 eE H0 h
theorem Jn (N:Nat) (x0:D) (Q:QT [.bool]) (h :
Bel N x0->∃ n:Int,(x0.cell 0)=D.j n/\Br (n==2) (uP N (Q true)) (∃ a:Int,(x0.cell 0)=D.j a/\Br (a==3) (uP N (Q true)) (∃ a:Int,
 (x0.cell 0)=D.j a/\uP N (Q (a==1))))):ACalls prog 12 [.bool] [PV.dg 9 x0] N Q:=
  eE H0 h
theorem EH (N:Nat) (I:D) (Q:QT [.bool]) (h :
Bel N I->∃ n:Int,(I.cell 0)=D.j n/\uP N (Q (n==7))):ACalls prog 30 [.bool] [PV.dg 9 I] N Q:=
 eE H0 h
theorem Gq (N:Nat) (I:D) (Q:QT [.bool]) (h :
Bel N I->kI 29 [.dg 9 I,.fn 30 []] N (λn a=>uP a (Q (n==0)))):ACalls prog 10 [.bool] [PV.dg 9 I] N Q:=
 eE Hf h
theorem DP (N:Nat) (I:D) (Q:QT [.ag 9]) (h :
Bel N I->∃ n:Int,(I.cell 0)=D.j n/\Br (n==4) (kA 9 91 [.dg 9 I] N (λx a=>uP a (Q x))) (Br (n==5) (∃ a b,∃ c:Nat,(I.cell 8) =
 D.sl a 9 b c/\((0:Int)<=(0:Int)/\0<(b.length:Int))/\∃ a:Int,(if 0=0 then D.cell (List.getD b 0 default) 0 else D.sub (List.getD b 0
 default) 0 0)=D.j a/\Br (a==3) (∃ a b,∃ c:Nat,(I.cell 8)=D.sl a 9 b c/\∃ a c,∃ d:Nat,(I.cell 8)=D.sl a 9 c d
 /\ ((0:Int)<=(0:Int)/\0<(c.length:Int))/\∃ a:Int,(if 0=0 then D.cell (List.getD c 0 default) 3 else D.sub (List.getD c 0 default) 3 0)
 = D.j a/\(0<=IntKind.i64.wrap (2 - a)/\IntKind.i64.wrap (2 - a)<(b.length:Int))/\∀ c,N<=c->Q (List.getD b (IntKind.i64.wrap (2 -
 a)).toNat default) c) (uP N (Q I))) (Br (n==7) (∃ a c,∃ d:Nat,(I.cell 8)=D.sl a 9 c d/\((0:Int)<=(0:Int)/\0<(c.length :
 Int))/\∃ a:Int,D.cell (List.getD c 0 default) 0=D.j a/\Br (a==6) (∃ a d,∃ e:Nat,(I.cell 8)=D.sl a 9 d e/\((0:Int)<=(1
 : Int)/\1<(d.length:Int))/\kB 12 [.dg 9 (List.getD d 1 default)] N (λb a=>Br b (∃ b d,∃ e:Nat,D.cell (List.getD c 0 default) 8 =
 D.sl b 9 d e/\((0:Int)<=(0:Int)/\0<(d.length:Int))/\∃ s,D.cell (List.getD c 0 default) 1=D.t s/\∃ b c,∃ e:Nat,(I.cell
 8)=D.sl b 9 c e/\((0:Int)<=(1:Int)/\1<(c.length:Int))/\kA 9 92 [.dg 9 (List.getD d 0 default),.str s,.dg 9 (List.getD c 1
 default)] a (λa b=>uP b (Q a))) (uP a (Q I)))) (uP N (Q I))) (Br (n==8) (∃ a b,∃ c:Nat,(I.cell 8)=D.sl a 9 b c/\((0 :
 Int)<=(0:Int)/\0<(b.length:Int))/\kB 12 [.dg 9 (List.getD b 0 default)] N (λa b=>Br a (∃ a c,∃ d:Nat,(I.cell 8)=D.sl a
 9 c d/\((0:Int)<=(1:Int)/\1<(c.length:Int))/\∃ a,(I.cell 1)=D.t a/\∃ d e,∃ f:Nat,(I.cell 8)=D.sl d 9 e f/\((0
 : Int)<=(0:Int)/\0<(e.length:Int))/\kA 9 92 [.dg 9 (List.getD c 1 default),.str a,.dg 9 (List.getD e 0 default)] b (λa b=>uP
 b (Q a))) (∃ a c,∃ d:Nat,(I.cell 8)=D.sl a 9 c d/\((0:Int)<=(0:Int)/\0<(c.length:Int))/\kB 10 [.dg 9 (List.getD
 c 0 default)] b (λa b=>Br a (∃ a c,∃ d:Nat,(I.cell 8)=D.sl a 9 c d/\((0:Int)<=(1:Int)/\1<(c.length :
 Int))/\∃ a,(I.cell 1)=D.t a/\∀ d,b<=d->ACalls prog 94 [.row 9 0] [.dg 9 (List.getD c 1 default)] d (λb c e=>d<=e ->
 Bel e (D.ag b)->(b.length=b.length/\c=c)/\∀ d,ApA d b->∀ f,e<=f->w8 f [d]->ACalls prog 93 [.bool] [.sv
 d 0 b c,.str a] f (λa b=>f<=b->Br (!a) (∃ a c,∃ d:Nat,(I.cell 8)=D.sl a 9 c d/\((0:Int)<=(1 :
 Int)/\1<(c.length:Int))/\uP b (Q (List.getD c 1 default))) (uP b (Q I))))) (uP b (Q I)))))) (uP N (Q I)))))):ACalls prog 52 [.ag 9] [PV.dg 9 I] N Q:=
  eE C6 h
theorem Gd (N:Nat) (I:D) (Q:QT [.ag 9]) (h :
Bel N I->∀ b,N<=b->ACalls prog 51 [.pk,.i,.str,.str,.i,.dc,.dc,.dc,.dc,.row 29 9] [.dg 9 I,.fn 25 []] b (λn s c d x e f g
 h i j=>b<=j->Bel j (D.ag h)->(h.length=h.length/\i=i)/\∀ a b,j<=b->Fresh N b a [D.ag h]->kA 9 52 [.dg 9 (D.ag [D.j n,D.t s,D.t
 c,D.j d,x,e,f,g,D.sl a 9 h i])] b (λa b=>uP b (Q a)))):ACalls prog 25 [.ag 9] [PV.dg 9 I] N Q:=
  eE Gc h
theorem Fj (N:Nat) (I:D) (Q:QT [.ag 9]) (h :
Bel N I->kB 23 [.dg 9 I] N (λb d=>Br (!b) (∀ b,d<=b->ACalls prog 24 [.pk,.i,.str,.str,.i,.dc,.dc,.dc,.dc,.row 29 9] [.dg 9 I] b
 (λn s c d x e f g h i j=>b<=j->Bel j (D.ag h)->w2 (h.length=h.length/\i=i) (∀ a b,j<=b->Fresh N b a [D.ag h,x,e,f,
 g]->uP b (Q (D.ag [D.j n,D.t s,D.t c,D.j d,x,e,f,g,D.sl a 9 h i]))))) (kA 9 25 [.dg 9 I] d (λa b=>∀ c,b<=c->ACalls prog
 24 [.pk,.i,.str,.str,.i,.dc,.dc,.dc,.dc,.row 29 9] [.dg 9 a] c (λa b d e f g h i j k l=>c<=l->Bel l (D.ag j) ->
 w2 (j.length=j.length/\k=k) (∀ c m,l<=m->Fresh N m c [D.ag j,f,g,h,i]->uP m (Q (D.ag [D.j a,D.t b,D.t d,
 D.j e,f,g,h,i,D.sl c 9 j k])))))))):ACalls prog 6 [.ag 9] [PV.dg 9 I] N Q:=
  eE E4 h
theorem Am {Q:QT [.bool]} {N0:Nat} {n1 n5:Int} {y0:D} {N:Nat} (h :
∃ a d,∃ c:Nat,(y0.cell 1)=D.sl a 2 d c/\Br (decide (n5<(d.length:Int))) (∃ a c,∃ d:Nat,(y0.cell 1)=D.sl a 2 c d/\(0<=n5
 /\ n5<(c.length:Int))/\kB 96 [.dg 2 (List.getD c n5.toNat default),.j n1] N (fun b a=>Br b (uP a (Q true)) (uL Q N0 n1
 (IntKind.i64.wrap (n5+1)) y0 a))) (∃ n:Int,(y0.cell 0)=D.j n/\uP N (Q (n==n1)))):uL Q N0 n1 n5 y0 N:=
  hE D0 h
theorem qT {Q:QT [.bool]} {N0:Nat} {J:Int} {I:D} {N:Nat} (h :
∃ a d,∃ c:Nat,(I.cell 8)=D.sl a 9 d c/\Br (decide (J<(d.length:Int))) (∃ a c,∃ d:Nat,(I.cell 8)=D.sl a 9 c d/\(0<=J
 /\ J<(c.length:Int))/\kB 54 [.dg 9 (List.getD c J.toNat default)] N (λb a=>Br (!b) (uP a (Q false)) (we Q N0 (IntKind.i64.wrap
 (J+1)) I a))) (∃ n:Int,(I.cell 0)=D.j n/\Br (decide (n<10)) (kB 96 [.dg 2 (D.sub I 4 2),.j 4] N (λa b=>Br (!a) (kB 96 [.dg 2 (D.sub I
 6 2),.j 4] b (λa b=>uP b (Q (!a)))) (uP b (Q false)))) (uP N (Q false)))):we Q N0 J I N:=
  hE AY h
theorem qJ {Q:QT [.bool]} {N0:Nat} {n3:Int} {y0:D} {N:Nat} (h :
∃ a d,∃ c:Nat,(y0.cell 8)=D.sl a 9 d c/\Br (decide (n3<(d.length:Int))) (∃ a c,∃ d:Nat,(y0.cell 8)=D.sl a 9 c d/\(0<=n3
 /\ n3<(c.length:Int))/\kB 11 [.dg 9 (List.getD c n3.toNat default)] N (fun b a=>Br (!b) (uP a (Q false)) (wg Q N0 (IntKind.i64.wrap
 (n3+1)) y0 a))) (∃ n:Int,(y0.cell 0)=D.j n/\uP N (Q (bne n 7)))):wg Q N0 n3 y0 N:=
  hE AZ h
theorem pR {Q:QT [.ag 9]} {N0:Nat} {J aj:Int} {ak al:ByteArray} {am ao:Int} {aq:Option Addr} {au:List D} {aw:Nat} {ax:Int} {ay:Option Addr} {az:List D} {a6:Nat} {a7:Option Addr} {a8:List D} {ba:Nat} {O:Int} {U Y:ByteArray} {aa:Int} {ab ac ae ah:D} {I ai:Nat} {r2:List D} {q2:Nat} {N:Nat} (h :
Br (decide (J<(I:Int))) ((0<=J/\J<(I:Int)/\(0+J.toNat:Nat)<r2.length)/\(0+J.toNat:Nat)<r2.length/\kA 9 28 [.dg 9
 (List.getD r2 (0+J.toNat:Nat) default)] N (λx a=>(0<=J/\J<(I:Int)/\(0+J.toNat:Nat)<r2.length)/\(0+J.toNat:Nat)<r2.length /\
 vZ Q N0 (IntKind.i64.wrap (J+1)) aj ak al am ao aq au aw ax ay az a6 a7 a8 ba O U Y aa ab ac ae
 ah I ai (List.set r2 (0+J.toNat:Nat) x) q2 a)) (w3 (I=r2.length/\ai=q2) (∀ a b,N<=b->Fresh N0 b a [D.ag r2]->kA 9 56 [.dg 9 (D.ag
 [D.j O,D.t U,D.t Y,D.j aa,ab,ac,ae,ah,D.sl a 9 r2 q2])] b (λa b=>uP b (Q a))))):vZ Q N0 J aj ak al am ao aq au aw ax ay az a6 a7 a8 ba O U Y aa ab ac ae ah I ai r2 q2 N:=
  hE BY h
theorem Ay (N:Nat) (I:D) (Q:QT [.bool]) (h :
Bel N I->kB 89 [.dg 2 I] N (λb d=>Br b (∃ a b,∃ c:Nat,(I.cell 1)=D.sl a 2 b c/\∀ e,ApA (Option.some e) [D.fn (OfNat.ofNat 89) []] ->
 Off [Option.some e] (D.sl a 2 b c)->∀ f,d<=f->w8 f [Option.some e]->ACalls prog 127 [.bool] [.sv a 2 b c,.fn 128 [.pd e 0 (.fn 89 [])]] f (fun
 a b=>f<=b->uP b (Q (!a)))) (uP d (Q false)))):ACalls prog 88 [.bool] [.dg 2 I,.fn 89 []] N Q:=
  eE D4 h
theorem As (N:Nat) (I:D) (Q:QT [.bool]) (h :
Bel N I->kB 48 [.dg 9 I] N (λb d=>Br b (∃ a b,∃ c:Nat,(I.cell 8)=D.sl a 9 b c/\∀ e,ApA (Option.some e) [D.fn (OfNat.ofNat 48) []] ->
 Off [Option.some e] (D.sl a 9 b c)->∀ f,d<=f->w8 f [Option.some e]->ACalls prog 84 [.bool] [.sv a 9 b c,.fn 85 [.pd e 0 (.fn 48 [])]] f (fun
 a b=>f<=b->uP b (Q (!a)))) (uP d (Q false)))):ACalls prog 47 [.bool] [.dg 9 I,.fn 48 []] N Q:=
  eE EA h
theorem GE (N:Nat) (x0:D) (Q:QT [.int .i64]) (h :
Bel N x0->kB 30 [.dg 9 x0] N (fun b d=>kI 57 [.bool b] d (fun n b=>∃ a d,∃ c:Nat,(x0.cell 8)=D.sl a 9 d c/\uK Q N n a d c
 (d.length:Int) 0 b))):ACalls prog 29 [.int .i64] [.dg 9 x0,.fn 30 []] N Q:=
  eE Df h
theorem qX (N:Nat) (I:D) (Q:QT [.pk,.int .i64,.str,.str,.int .i64,.dc,.dc,.dc,.dc,.row 29 9]) (h :
Bel N I->∃ a b,∃ c:Nat,(I.cell 8)=D.sl a 9 b c/\yr Q N 0 0 a b c (b.length:Int) 0 I 0 b0 b0 0 0 none [] 0 0 none [] 0
 none [] 0 [] 0 N):ACalls prog 51 [.pk,.int .i64,.str,.str,.int .i64,.dc,.dc,.dc,.dc,.row 29 9] [.dg 9 I,.fn 25 []] N Q:=
  eE tJ h
theorem ud (N:Nat) (a0:Option Addr) (e0:List D) (J:Nat) (I:Addr) (Q:QT [.bool]) (h :
Bel N (D.sl a0 2 e0 J)->kI 154 [.sv a0 2 e0 J,.fn 128 [.pd I 0 (.fn 89 [])]] N (λn a=>uP a (Q (decide (n≥0))))):ACalls prog 127 [.bool] [.sv a0 2 e0 J,.fn 128 [.pd I 0 (.fn 89 [])]] N Q:=
 eE H0 h
theorem uh (N:Nat) (a0:Option Addr) (e0:List D) (J:Nat) (I:Addr) (Q:QT [.bool]) (h :
Bel N (D.sl a0 9 e0 J)->kI 123 [.sv a0 9 e0 J,.fn 85 [.pd I 0 (.fn 48 [])]] N (λn a=>uP a (Q (decide (n≥0))))):ACalls prog 84 [.bool] [.sv a0 9 e0 J,.fn 85 [.pd I 0 (.fn 48 [])]] N Q:=
 eE H0 h
theorem AM {Q:QT [.int .i64]} {N0:Nat} {n5:Int} {U:Option Addr} {J:List D} {Y:Nat} {O I:Int} {N:Nat} (h :
Br (decide (I<O)) ((0<=I/\I<(J.length:Int))/\kI 29 [.dg 9 (List.getD J I.toNat default),.fn 30 []] N (λn a=>uK Q
 N0 (IntKind.i64.wrap (n5+n)) U J Y O (IntKind.i64.wrap (I+1)) a)) (uP N (Q n5))):uK Q N0 n5 U J Y O I N:=
  hE Df h
theorem ub {Q:QT [.pk,.int .i64,.str,.str,.int .i64,.dc,.dc,.dc,.dc,.row 29 9]} {N0:Nat} {m5 c5:Nat} {ax:Option Addr} {O:List D} {ay:Nat} {aw I:Int} {y0:D} {U:Int} {Y aa:ByteArray} {ab ac:Int} {ae:Option Addr} {ah:List D} {ai:Nat} {aj:Int} {ak:Option Addr} {al:List D} {am:Nat} {ao:Option Addr} {aq:List D} {au:Nat} {J:List D} {q2:Nat} {N:Nat} (h :
Br (decide (I<aw)) ((0<=I/\I<(O.length:Int))/\kA 9 25 [.dg 9 (List.getD O I.toNat default)] N (λx a=>(m5=J.length/\c5=q2)
 /\ zC J [x] 136/\∀(c:Nat),yr Q N0 (J++[x]).length c ax O ay aw (IntKind.i64.wrap (I+1)) y0 U Y aa ab ac
 ae ah ai aj ak al am ao aq au (J++[x]) c a)) ((m5=J.length/\c5=q2)/\∀ a,ApA a J->Off [a] y0->∀ b,N<=b->w8 b [a] ->
 ACalls prog 90 [.pk,.i,.str,.str,.i,.dc,.dc,.dc,.dc,Sh.bk 1] [.dg 9 y0,.sv a 9 J c5] b (λn s c d e f g h i j=>b<=j->i =
 D.sl a 9 J c5/\Off [a] e/\Off [a] f/\Off [a] g/\Off [a] h/\(m5=J.length/\c5=q2)/\uP j (Q n s c d e f g h J c5)))):yr Q N0 m5 c5 ax O ay aw I y0 U Y aa ab ac ae ah ai aj ak al am ao aq au J q2 N:=
  hE tJ h
theorem t6 (N:Nat) (a0:Option Addr) (e0:List D) (J:Nat) (I:Addr) (Q:QT [.int .i64]) (h :
Bel N (D.sl a0 2 e0 J)->zx Q N a0 e0 J I (e0.length:Int) 0 N):ACalls prog 154 [.int .i64] [.sv a0 2 e0 J,.fn 128 [.pd I 0 (.fn 89 [])]] N Q:=
 eE wx h
theorem tw (N:Nat) (a0:Option Addr) (e0:List D) (J:Nat) (I:Addr) (Q:QT [.int .i64]) (h :
Bel N (D.sl a0 9 e0 J)->zy Q N a0 e0 J I (e0.length:Int) 0 N):ACalls prog 123 [.int .i64] [.sv a0 9 e0 J,.fn 85 [.pd I 0 (.fn 48 [])]] N Q:=
 eE w6 h
theorem wI {Q:QT [.int .i64]} {N0:Nat} {a0:Option Addr} {e0:List D} {U:Nat} {I:Addr} {O J:Int} {N:Nat} (h :
Br (decide (J<O)) ((0<=J/\J<(e0.length:Int))/\kB 128 [.dg 2 (List.getD e0 J.toNat default),.pd I 0 (.fn 89 [])] N (λb a=>Br b (uP
 a (Q J)) (zx Q N0 a0 e0 U I O (IntKind.i64.wrap (J+1)) a))) (uP N (Q (-1)))):zx Q N0 a0 e0 U I O J N:=
  hE wx h
theorem wJ {Q:QT [.int .i64]} {N0:Nat} {a0:Option Addr} {e0:List D} {c0:Nat} {a1_0:Addr} {n7 n8:Int} {N:Nat} (h :
Br (decide (n8<n7)) ((0<=n8/\n8<(e0.length:Int))/\kB 85 [.dg 9 (List.getD e0 n8.toNat default),.pd a1_0 0 (.fn 48 [])] N (fun b a=>Br b (uP a
 (Q n8)) (zy Q N0 a0 e0 c0 a1_0 n7 (IntKind.i64.wrap (n8+1)) a))) (uP N (Q (-1)))):zy Q N0 a0 e0 c0 a1_0 n7 n8 N:=
  hE w6 h
theorem qp (N:Nat) (I:D) (a1:Addr) (Q:QT [.bool]) (h :
Bel N I->kB 88 [.dg 2 I,.fn 89 []] N (λb a=>uP a (Q (!b)))):ACalls prog 128 [.bool] [.dg 2 I,.pd a1 0 (.fn 89 [])] N Q:=
 eE Bl h
theorem pE (N:Nat) (I:D) (a1:Addr) (Q:QT [.bool]) (h :
Bel N I->kB 47 [.dg 9 I,.fn 48 []] N (λb a=>uP a (Q (!b)))):ACalls prog 85 [.bool] [.dg 9 I,.pd a1 0 (.fn 48 [])] N Q:=
 eE CH h
end Go.Proofs.YtligajflgjpdnaaGreatDoor
set_option maxRecDepth 100000
namespace Go.Proofs.YtligajflgjpdnaaGreatDoor
open Go Go.Proofs Go.Proofs.Tryz
def uT:Hint:=⟨[],[hc 4 [1,2],hc 5 [1,2],hc 6 [1,2],hc 7 [1,2]],[(1,hs 8 [ec 1 [6]]),(2,hs 20 [ec 4 [13],ec 14 [23]]),(4,hs 23 [ec 8 [39],ec 19 [50]]),(5,hs 6 [ec 4 [57]]),(6,hs 35 [ec 8 [67],ec 19 [78],ec 31 [90]]),(7,hs 6 [ec 4 [97]])]⟩
def ry:Hint:=⟨[],[hc 7 [1,2],hc 9 [1,2]],[(2,hs 3 [ec 1 [7]]),(4,[en 0,en 1,en 2,en 3,en 4,en 5,en 6,en 7,en 8,en 9,ec 10 [30],eh 11]),(5,hs 11 [ec 8 [40]]),(6,[en 0,en 1,en 2,en 3,en 4,en 5,en 6,en 7,en 8,en 9,ec 10 [46,52],eh 11]),(7,hs 19 [ec 16 [70]]),(8,[en 0,en 1,en 2,en 3,en 4,en 5,en 6,en 7,en 8,en 9,en 10,en 11,en 12,en 13,en 14,en 15,ec 16 [79,88],eh 17]),(9,[en 0,en 1,en 2,en 3,en 4,en 5,en 6,en 7,ec 8 [98],en 9,en 10,en 11,en 12,en 13,en 14,en 16,en 17,ec 15 [105],eh 18,en 19,en 20,en 21]),(10,hs 6 [ec 4 [115]])]⟩
def wV (Q:QT [.ag 9])(N0:Nat)(y0:D)(I:Int)(J O:ByteArray)(U Y:Int)(aa:Option Addr)(ab:List D)(ac:Nat)(ae:Int)(ah:Option Addr)(ai:List D)(aj:Nat)(ak:Option Addr)(al:List D)(am:Nat)(N:Nat):Prop:=AT prog 97 [.ag 9] Q N0 .ord (wG prog 97 4) ⟨an 1 (.pb 0 0 0 0::.pb 1 0 0 0::an 97 []),[.vd y0 9,.var [.int .i64 I,.str J,.str O,.int .i64 U,.int .i64 Y,.sv aa 2 ab ac,.int .i64 ae,.sv ah 2 ai aj,.sv ak 9 al am]],N,none⟩
def xC (Q:QT [.ag 9])(N0:Nat)(y0:D)(I:Int)(J O:ByteArray)(U Y:Int)(aa:Option Addr)(ab:List D)(ac:Nat)(ae:Int)(ah:Option Addr)(ai:List D)(aj:Nat)(ak:Option Addr)(al:List D)(am:Nat)(N:Nat):Prop:=AT prog 56 [.ag 9] Q N0 .ord (wG prog 56 7) ⟨an 1 (.pb 0 0 0 0::.pb 1 0 0 0::an 115 []),[.vd y0 9,.var [.int .i64 I,.str J,.str O,.int .i64 U,.int .i64 Y,.sv aa 2 ab ac,.int .i64 ae,.sv ah 2 ai aj,.sv ak 9 al am]],N,none⟩
def wS (Q:QT [.ag 9])(N0:Nat)(y0:D)(I:Int)(J O:ByteArray)(U Y:Int)(aa:Option Addr)(ab:List D)(ac:Nat)(ae:Int)(ah:Option Addr)(ai:List D)(aj:Nat)(ak:Option Addr)(al:List D)(am:Nat)(N:Nat):Prop:=AT prog 97 [.ag 9] Q N0 .ord (wG prog 97 5) ⟨an 1 (.pb 0 0 0 0::.pb 1 0 0 0::an 97 []),[.vd y0 9,.var [.int .i64 I,.str J,.str O,.int .i64 U,.int .i64 Y,.sv aa 2 ab ac,.int .i64 ae,.sv ah 2 ai aj,.sv ak 9 al am]],N,none⟩
def xW (Q:QT [.ag 9])(N0:Nat)(y0:D)(I:Int)(J O:ByteArray)(U Y:Int)(aa:Option Addr)(ab:List D)(ac:Nat)(ae:Int)(ah:Option Addr)(ai:List D)(aj:Nat)(ak:Option Addr)(al:List D)(am:Nat)(N:Nat):Prop:=AT prog 97 [.ag 9] Q N0 .ord (wG prog 97 6) ⟨an 1 (.pb 0 0 0 0::.pb 1 0 0 0::an 97 []),[.vd y0 9,.var [.int .i64 I,.str J,.str O,.int .i64 U,.int .i64 Y,.sv aa 2 ab ac,.int .i64 ae,.sv ah 2 ai aj,.sv ak 9 al am]],N,none⟩
def xr (Q:QT [.ag 9])(N0:Nat)(y0:D)(I:Int)(J O:ByteArray)(U Y:Int)(aa:Option Addr)(ab:List D)(ac:Nat)(ae:Int)(ah:Option Addr)(ai:List D)(aj:Nat)(ak:Option Addr)(al:List D)(am:Nat)(N:Nat):Prop:=AT prog 56 [.ag 9] Q N0 .ord (wG prog 56 9) ⟨an 1 (.pb 0 0 0 0::.pb 1 0 0 0::an 115 []),[.vd y0 9,.var [.int .i64 I,.str J,.str O,.int .i64 U,.int .i64 Y,.sv aa 2 ab ac,.int .i64 ae,.sv ah 2 ai aj,.sv ak 9 al am]],N,none⟩
def yF (Q:QT [.ag 9])(N0:Nat)(y0:D)(I:Int)(J O:ByteArray)(U Y:Int)(aa:Option Addr)(ab:List D)(ac:Nat)(ae:Int)(ah:Option Addr)(ai:List D)(aj:Nat)(ak:Option Addr)(al:List D)(am:Nat)(N:Nat):Prop:=AT prog 97 [.ag 9] Q N0 .ord (wG prog 97 7) ⟨an 1 (.pb 0 0 0 0::.pb 1 0 0 0::an 97 []),[.vd y0 9,.var [.int .i64 I,.str J,.str O,.int .i64 U,.int .i64 Y,.sv aa 2 ab ac,.int .i64 ae,.sv ah 2 ai aj,.sv ak 9 al am]],N,none⟩
theorem Lu (N:Nat) (x0:D) (Q:QT [.ag 9]) (h :
Bel N x0->∀ d,N<=d->ACalls prog 63 [.ag 9,.i] [.dg 9 x0] d (fun x n e=>d<=e->Bel e x->∃ a d,∃ c:Nat,(x0.cell 8)=D.sl a 9 d c/\((0
 : Int)<=(0:Int)/\0<(d.length:Int))/\kB 35 [.dg 9 (List.getD d 0 default)] e (fun b a=>Br b (∃ b c,∃ d:Nat,(x0.cell 8)=D.sl b 9
 c d/\∃ b d,∃ e:Nat,(x0.cell 8)=D.sl b 9 d e/\(0<=IntKind.i64.wrap ((d.length:Int) - 1)/\IntKind.i64.wrap ((d.length:Int)
 - 1)<(c.length:Int))/\kB 35 [.dg 9 (List.getD c (IntKind.i64.wrap ((d.length:Int) - 1)).toNat default)] a (fun a b=>Br a (Br (n==1)
 (uP b (Q x)) (wV Q N x0 0 b0 b0 0 0 none [] 0 0 none [] 0 none [] 0 b)) (wV Q N x0 0 b0 b0 0 0 none [] 0 0 none [] 0 none [] 0 b)))
 (wV Q N x0 0 b0 b0 0 0 none [] 0 0 none [] 0 none [] 0 a)))):ACalls prog 97 [.ag 9] [PV.dg 9 x0] N Q:=
  eE uT h
theorem JC (N:Nat) (I:D) (Q:QT [.ag 9]) (h :
Bel N I->∃ n:Int,(I.cell 0)=D.j n/\Br (n==4) (kA 9 97 [.dg 9 I] N (λx a=>uP a (Q x))) (∃ d:Int,(I.cell 0)=D.j d/\Br (d ==
 5) (∃ a d,∃ c:Nat,(I.cell 8)=D.sl a 9 d c/\((0:Int)<=(0:Int)/\0<(d.length:Int))/\∃ a:Int,(if 0=0 then D.cell (List.getD d 0
 default) 0 else D.sub (List.getD d 0 default) 0 0)=D.j a/\Br (a==3) (∃ a b,∃ c:Nat,(I.cell 8)=D.sl a 9 b c/\∃ a c,∃ d :
 Nat,(I.cell 8)=D.sl a 9 c d/\((0:Int)<=(0:Int)/\0<(c.length:Int))/\∃ a:Int,(if 0=0 then D.cell (List.getD c 0 default) 3
 else D.sub (List.getD c 0 default) 3 0)=D.j a/\(0<=IntKind.i64.wrap (2 - a)/\IntKind.i64.wrap (2 - a)<(b.length:Int))/\∀ c,N<=c ->
 ACalls prog 27 [.pk,.i,.str,.str,.i,.dc,.dc,.dc,.dc,.row 29 9] [.dg 9 (List.getD b (IntKind.i64.wrap (2 - a)).toNat default)] c (λa s b
 d e f g h i j k=>c<=k->Bel k (D.ag i)->w2 (i.length=i.length/\j=j) (∀ c l,k<=l->Fresh N l c [D.ag i,
 e,f,g,h]->uP l (Q (D.ag [D.j a,D.t s,D.t b,D.j d,e,f,g,h,D.sl c 9 i j]))))) (∃ a:Int,(I.cell 0)=D.j a/\Br
 (a==8) (∃ a c,∃ d:Nat,(I.cell 8)=D.sl a 9 c d/\((0:Int)<=(0:Int)/\0<(c.length:Int))/\kB 13 [.dg 9 (List.getD c 0
 default)] N (λb a=>Br b (∃ b c,∃ d:Nat,(I.cell 8)=D.sl b 9 c d/\((0:Int)<=(1:Int)/\1<(c.length:Int))/\∃ b,(I.cell
 1)=D.t b/\∃ d e,∃ f:Nat,(I.cell 8)=D.sl d 9 e f/\((0:Int)<=(0:Int)/\0<(e.length:Int))/\kA 9 98 [.dg 9 (List.getD c 1
 default),.str b,.dg 9 (List.getD e 0 default)] a (λa b=>uP b (Q a))) (xC Q N I 0 b0 b0 0 0 none [] 0 0 none [] 0 none [] 0
 a))) (xC Q N I 0 b0 b0 0 0 none [] 0 0 none [] 0 none [] 0 N))) (∃ a:Int,(I.cell 0)=D.j a/\Br (a==8) (∃ a b,∃ c:Nat,
 (I.cell 8)=D.sl a 9 b c/\((0:Int)<=(0:Int)/\0<(b.length:Int))/\kB 13 [.dg 9 (List.getD b 0 default)] N (λa b=>Br a (∃ a
 c,∃ d:Nat,(I.cell 8)=D.sl a 9 c d/\((0:Int)<=(1:Int)/\1<(c.length:Int))/\∃ a,(I.cell 1)=D.t a/\∃ d e,∃ f :
 Nat,(I.cell 8)=D.sl d 9 e f/\((0:Int)<=(0:Int)/\0<(e.length:Int))/\kA 9 98 [.dg 9 (List.getD c 1 default),.str a,.dg 9
 (List.getD e 0 default)] b (λa b=>uP b (Q a))) (xC Q N I 0 b0 b0 0 0 none [] 0 0 none [] 0 none [] 0 b))) (xC Q N
 I 0 b0 b0 0 0 none [] 0 0 none [] 0 none [] 0 N)))):ACalls prog 56 [.ag 9] [PV.dg 9 I] N Q:=
  eE ry h
theorem Gs {Q:QT [.ag 9]} {N0:Nat} {y0:D} {I:Int} {J O:ByteArray} {U Y:Int} {aa:Option Addr} {ab:List D} {ac:Nat} {ae:Int} {ah:Option Addr} {ai:List D} {aj:Nat} {ak:Option Addr} {al:List D} {am:Nat} {N:Nat} (h :
∃ s,(y0.cell 1)=D.t s/\Br (ByteArray.toList s==ByteArray.toList (bytes [43])) (∃ a d,∃ c:Nat,(y0.cell 8)=D.sl a 9 d c/\((0:Int)<=(0 :
 Int)/\0<(d.length:Int))/\kB 141 [.dg 9 (List.getD d 0 default),.j 0] N (λb a=>Br b (wS Q N0 y0 I J O U Y aa ab
 ac ae ah ai aj ak al am a) (∃ b,(y0.cell 1)=D.t b/\Br (ByteArray.toList b==ByteArray.toList (bytes [42])) (∃ b c,∃ d:Nat,
 (y0.cell 8)=D.sl b 9 c d/\((0:Int)<=(0:Int)/\0<(c.length:Int))/\kB 141 [.dg 9 (List.getD c 0 default),.j 1] a (λa b=>Br a
 (wS Q N0 y0 I J O U Y aa ab ac ae ah ai aj ak al am b) (xW Q N0 y0 I J O U Y aa
 ab ac ae ah ai aj ak al am b))) (xW Q N0 y0 I J O U Y aa ab ac ae ah ai aj ak al am a)))) (∃
 a,(y0.cell 1)=D.t a/\Br (ByteArray.toList a==ByteArray.toList (bytes [42])) (∃ a b,∃ c:Nat,(y0.cell 8)=D.sl a 9 b c/\((0:Int)
 <= (0:Int)/\0<(b.length:Int))/\kB 141 [.dg 9 (List.getD b 0 default),.j 1] N (λa b=>Br a (wS Q N0 y0 I J O U
 Y aa ab ac ae ah ai aj ak al am b) (xW Q N0 y0 I J O U Y aa ab ac ae ah ai aj ak al am
 b))) (xW Q N0 y0 I J O U Y aa ab ac ae ah ai aj ak al am N))):wV Q N0 y0 I J O U Y aa ab ac ae ah ai aj ak al am N:=
  hE uT h
theorem Fp {Q:QT [.ag 9]} {N0:Nat} {y0:D} {n1_0:Int} {s1_1 s1_2:ByteArray} {n1_3 n1_4:Int} {a1_5:Option Addr} {e1_5:List D} {c1_5:Nat} {n1_6:Int} {a1_7:Option Addr} {e1_7:List D} {c1_7:Nat} {a1_8:Option Addr} {e1_8:List D} {c1_8:Nat} {N:Nat} (h :
∃ n:Int,(y0.cell 0)=D.j n/\Br (n==7) (∃ a d,∃ c:Nat,(y0.cell 8)=D.sl a 9 d c/\((0:Int)<=(0:Int)/\0<(d.length:Int))/\∃ a :
 Int,(if 0=0 then D.cell (List.getD d 0 default) 0 else D.sub (List.getD d 0 default) 0 0)=D.j a/\Br (a==6) (∃ a c,∃ d:Nat,(y0.cell 8) =
 D.sl a 9 c d/\((0:Int)<=(1:Int)/\1<(c.length:Int))/\kB 13 [.dg 9 (List.getD c 1 default)] N (fun b a=>Br b (∃ b c,∃ d:Nat,
 (y0.cell 8)=D.sl b 9 c d/\((0:Int)<=(0:Int)/\0<(c.length:Int))/\∃ b d,∃ e:Nat,(if 0=0 then D.cell (List.getD c 0
 default) 8 else D.sub (List.getD c 0 default) 8 0)=D.sl b 9 d e/\((0:Int)<=(0:Int)/\0<(d.length:Int))/\∃ b c,∃ e:Nat,
 (y0.cell 8)=D.sl b 9 c e/\((0:Int)<=(0:Int)/\0<(c.length:Int))/\∃ s,(if 0=0 then D.cell (List.getD c 0 default) 1 else D.sub
 (List.getD c 0 default) 1 0)=D.t s/\∃ b c,∃ e:Nat,(y0.cell 8)=D.sl b 9 c e/\((0:Int)<=(1:Int)/\1<(c.length:Int))/\kA 9
 98 [.dg 9 (List.getD d 0 default),.str s,.dg 9 (List.getD c 1 default)] a (fun x a=>uP a (Q x))) (xr Q N0 y0 n1_0 s1_1 s1_2 n1_3 n1_4
 a1_5 e1_5 c1_5 n1_6 a1_7 e1_7 c1_7 a1_8 e1_8 c1_8 a))) (xr Q N0 y0 n1_0 s1_1 s1_2 n1_3 n1_4 a1_5 e1_5 c1_5 n1_6 a1_7 e1_7 c1_7 a1_8 e1_8 c1_8 N))
 (xr Q N0 y0 n1_0 s1_1 s1_2 n1_3 n1_4 a1_5 e1_5 c1_5 n1_6 a1_7 e1_7 c1_7 a1_8 e1_8 c1_8 N)):xC Q N0 y0 n1_0 s1_1 s1_2 n1_3 n1_4 a1_5 e1_5 c1_5 n1_6 a1_7 e1_7 c1_7 a1_8 e1_8 c1_8 N:=
  hE ry h
theorem G1 {Q:QT [.ag 9]} {N0:Nat} {y0:D} {I:Int} {J O:ByteArray} {U Y:Int} {aa:Option Addr} {ab:List D} {ac:Nat} {ae:Int} {ah:Option Addr} {ai:List D} {aj:Nat} {ak:Option Addr} {al:List D} {am:Nat} {N:Nat} (h :
∃ a b,∃ c:Nat,(y0.cell 8)=D.sl a 9 b c/\((0:Int)<=(1:Int)/\1<(b.length:Int))/\∀ a,N<=a->ACalls prog 27 [.pk,.i,.str,.str,.i,
 .dc,.dc,.dc,.dc,.row 29 9] [.dg 9 (List.getD b 1 default)] a (λn s b c x d e f g h i=>a<=i->Bel i (D.ag g)->w2 (g.length
 = g.length/\h=h) (∀ a j,i<=j->Fresh N0 j a [D.ag g,x,d,e,f]->uP j (Q (D.ag [D.j n,D.t s,D.t b,D.j c,x,d,e,
 f,D.sl a 9 g h]))))):wS Q N0 y0 I J O U Y aa ab ac ae ah ai aj ak al am N:=
  hE uT h
theorem HY {Q:QT [.ag 9]} {N0:Nat} {I:D} {J:Int} {O U:ByteArray} {Y aa:Int} {ab:Option Addr} {ac:List D} {ae:Nat} {ah:Int} {ai:Option Addr} {aj:List D} {ak:Nat} {al:Option Addr} {am:List D} {ao:Nat} {N:Nat} (h :
∃ s,(I.cell 1)=D.t s/\Br (ByteArray.toList s==ByteArray.toList (bytes [43])) (∃ a d,∃ c:Nat,(I.cell 8)=D.sl a 9 d c/\((0:Int)<=(1 :
 Int)/\1<(d.length:Int))/\kB 141 [.dg 9 (List.getD d 1 default),.j 0] N (λb a=>Br b (yF Q N0 I J O U Y aa ab ac
 ae ah ai aj ak al am ao a) (∃ b,(I.cell 1)=D.t b/\Br (ByteArray.toList b==ByteArray.toList (bytes [42])) (∃ b c,∃ d:Nat,
 (I.cell 8)=D.sl b 9 c d/\((0:Int)<=(1:Int)/\1<(c.length:Int))/\kB 141 [.dg 9 (List.getD c 1 default),.j 1] a (λa b=>Br a
 (yF Q N0 I J O U Y aa ab ac ae ah ai aj ak al am ao b) (∃ a,(I.cell 1)=D.t a/\Br (ByteArray.toList a
 == ByteArray.toList (bytes [45])) (∃ a c,∃ d:Nat,(I.cell 8)=D.sl a 9 c d/\((0:Int)<=(1:Int)/\1<(c.length:Int))/\kB 141 [.dg
 9 (List.getD c 1 default),.j 0] b (λa b=>Br a (yF Q N0 I J O U Y aa ab ac ae ah ai aj ak al am ao
 b) (uP b (Q I)))) (uP b (Q I))))) (∃ b,(I.cell 1)=D.t b/\Br (ByteArray.toList b==ByteArray.toList (bytes [45])) (∃ b c,∃ d:Nat,
 (I.cell 8)=D.sl b 9 c d/\((0:Int)<=(1:Int)/\1<(c.length:Int))/\kB 141 [.dg 9 (List.getD c 1 default),.j 0] a (λa b=>Br
 a (yF Q N0 I J O U Y aa ab ac ae ah ai aj ak al am ao b) (uP b (Q I)))) (uP a (Q I)))))) (∃ a,
 (I.cell 1)=D.t a/\Br (ByteArray.toList a==ByteArray.toList (bytes [42])) (∃ a b,∃ c:Nat,(I.cell 8)=D.sl a 9 b c/\((0:Int)<=(1
 : Int)/\1<(b.length:Int))/\kB 141 [.dg 9 (List.getD b 1 default),.j 1] N (λa b=>Br a (yF Q N0 I J O U Y aa
 ab ac ae ah ai aj ak al am ao b) (∃ a,(I.cell 1)=D.t a/\Br (ByteArray.toList a==ByteArray.toList (bytes [45])) (∃ a c,∃
 d:Nat,(I.cell 8)=D.sl a 9 c d/\((0:Int)<=(1:Int)/\1<(c.length:Int))/\kB 141 [.dg 9 (List.getD c 1 default),.j 0] b (λa
 b=>Br a (yF Q N0 I J O U Y aa ab ac ae ah ai aj ak al am ao b) (uP b (Q I)))) (uP b (Q I))))) (∃
 a,(I.cell 1)=D.t a/\Br (ByteArray.toList a==ByteArray.toList (bytes [45])) (∃ a b,∃ c:Nat,(I.cell 8)=D.sl a 9 b c/\((0:Int)
 <= (1:Int)/\1<(b.length:Int))/\kB 141 [.dg 9 (List.getD b 1 default),.j 0] N (λa b=>Br a (yF Q N0 I J O U Y
 aa ab ac ae ah ai aj ak al am ao b) (uP b (Q I)))) (uP N (Q I))))):xW Q N0 I J O U Y aa ab ac ae ah ai aj ak al am ao N:=
  hE uT h
theorem Fk {Q:QT [.ag 9]} {N0:Nat} {I:D} {J:Int} {O U:ByteArray} {Y aa:Int} {ab:Option Addr} {ac:List D} {ae:Nat} {ah:Int} {ai:Option Addr} {aj:List D} {ak:Nat} {al:Option Addr} {am:List D} {ao:Nat} {N:Nat} (h :
∃ n:Int,(I.cell 0)=D.j n/\Br (n==8) (∃ a d,∃ c:Nat,(I.cell 8)=D.sl a 9 d c/\((0:Int)<=(0:Int)/\0<(d.length:Int))/\kB 11 [.dg
 9 (List.getD d 0 default)] N (λb a=>Br b (∃ b c,∃ d:Nat,(I.cell 8)=D.sl b 9 c d/\((0:Int)<=(1:Int)/\1<(c.length:Int))
 /\ ∃ s,(I.cell 1)=D.t s/\kL 0 100 [.dg 9 (List.getD c 1 default)] a (λa b c d=>∀ e,d<=e->ACalls prog 99 [.i] [.sv a 0 b c,
 .str s] e (λa b=>e<=b->Br (decide (a<0)) (∃ a c,∃ d:Nat,(I.cell 8)=D.sl a 9 c d/\((0:Int)<=(1:Int)/\1 <
 (c.length:Int))/\∀ a,b<=a->ACalls prog 27 [.pk,.i,.str,.str,.i,.dc,.dc,.dc,.dc,.row 29 9] [.dg 9 (List.getD c 1 default)] a (λb
 c d e x f g h i j k=>a<=k->Bel k (D.ag i)->w2 (i.length=i.length/\j=j) (∀ a l,k<=l->Fresh N0 l a [D.ag
 i,x,f,g,h]->uP l (Q (D.ag [D.j b,D.t c,D.t d,D.j e,x,f,g,h,D.sl a 9 i j]))))) (uP b (Q I))))) (uP a (Q I)))) (uP
 N (Q I))):xr Q N0 I J O U Y aa ab ac ae ah ai aj ak al am ao N:=
  hE ry h
theorem Gu {Q:QT [.ag 9]} {N0:Nat} {y0:D} {I:Int} {J O:ByteArray} {U Y:Int} {aa:Option Addr} {ab:List D} {ac:Nat} {ae:Int} {ah:Option Addr} {ai:List D} {aj:Nat} {ak:Option Addr} {al:List D} {am:Nat} {N:Nat} (h :
∃ a b,∃ c:Nat,(y0.cell 8)=D.sl a 9 b c/\((0:Int)<=(0:Int)/\0<(b.length:Int))/\∀ a,N<=a->ACalls prog 27 [.pk,.i,.str,.str,.i,
 .dc,.dc,.dc,.dc,.row 29 9] [.dg 9 (List.getD b 0 default)] a (λn s b c x d e f g h i=>a<=i->Bel i (D.ag g)->w2 (g.length
 = g.length/\h=h) (∀ a j,i<=j->Fresh N0 j a [D.ag g,x,d,e,f]->uP j (Q (D.ag [D.j n,D.t s,D.t b,D.j c,x,d,e,
 f,D.sl a 9 g h]))))):yF Q N0 y0 I J O U Y aa ab ac ae ah ai aj ak al am N:=
  hE uT h
end Go.Proofs.YtligajflgjpdnaaGreatDoor
set_option maxRecDepth 100000
namespace Go.Proofs.YtligajflgjpdnaaGreatDoor
open Go Go.Proofs Go.Proofs.Tryz
def tl:Hint:=⟨[],[hc 4 [1,2],hc 6 [1,2,6,7]],[(1,hs 8 [ec 1 [9]]),(4,hs 6 [em 0 none [1,2,5]]),(7,hs 12 [ec 9 [35]]),(9,hs 7 [ec 5 [47]])]⟩
def xn (Q:QT [.ag 9])(N0:Nat)(y0:D)(I:Int)(J O:ByteArray)(U Y:Int)(aa:Option Addr)(ab:List D)(ac:Nat)(ae:Int)(ah:Option Addr)(ai:List D)(aj:Nat)(ak:Option Addr)(al:List D)(am:Nat)(N:Nat):Prop:=AT prog 91 [.ag 9] Q N0 .ord (wG prog 91 4) ⟨an 1 (.pb 0 0 0 0::.pb 1 0 0 0::an 52 []),[.vd y0 9,.var [.int .i64 I,.str J,.str O,.int .i64 U,.int .i64 Y,.sv aa 2 ab ac,.int .i64 ae,.sv ah 2 ai aj,.sv ak 9 al am]],N,none⟩
def uU (Q:QT [.ag 9])(N0:Nat)(y0:D)(I:Int)(J O:ByteArray)(U Y:Int)(aa:Option Addr)(ab:List D)(ac:Nat)(ae:Int)(ah:Option Addr)(ai:List D)(aj:Nat)(ak:Option Addr)(al:List D)(am:Nat)(n6:Int)(b7:Bool)(N:Nat):Prop:=AT prog 91 [.ag 9] Q N0 .ord (wG prog 91 6) ⟨an 1 (.pb 0 0 0 0::.pb 1 0 0 0::an 3 (.int .i64 n6::.bool b7::an 47 [])),[.vd y0 9,.var [.int .i64 I,.str J,.str O,.int .i64 U,.int .i64 Y,.sv aa 2 ab ac,.int .i64 ae,.sv ah 2 ai aj,.sv ak 9 al am]],N,none⟩
theorem BD (N:Nat) (I:D) (Q:QT [.ag 9]) (h :
Bel N I->kAB 9 130 [.dg 9 I] N (λx b a=>Br b (uP a (Q x)) (xn Q N I 0 b0 b0 0 0 none [] 0 0 none [] 0 none [] 0 a))):ACalls prog 91 [.ag 9] [PV.dg 9 I] N Q:=
 eE tl h
theorem qk {Q:QT [.ag 9]} {N0:Nat} {I:D} {J:Int} {O U:ByteArray} {Y aa:Int} {ab:Option Addr} {ac:List D} {ae:Nat} {ah:Int} {ai:Option Addr} {aj:List D} {ak:Nat} {al:Option Addr} {am:List D} {ao:Nat} {n6:Int} {b7:Bool} {N:Nat} (h :
Br (!b7) (uP N (Q I)) (∃ s,(I.cell 1)=D.t s/\Br (!(ByteArray.toList s==ByteArray.toList (bytes [45]))) (∃ a d,∃ c:Nat,(I.cell 8)=D.sl a 9
 d c/\((0:Int)<=(0:Int)/\0<(d.length:Int))/\kB 131 [.dg 9 (List.getD d 0 default),.j n6] N (λb a=>Br b (∃ b c,∃ d:Nat,(I.cell
 8)=D.sl b 9 c d/\((0:Int)<=(1:Int)/\1<(c.length:Int))/\uP a (Q (List.getD c 1 default))) (∃ b c,∃ d:Nat,(I.cell 8) =
 D.sl b 9 c d/\((0:Int)<=(1:Int)/\1<(c.length:Int))/\kB 131 [.dg 9 (List.getD c 1 default),.j n6] a (λa b=>Br a (∃ a c,
 ∃ d:Nat,(I.cell 8)=D.sl a 9 c d/\((0:Int)<=(0:Int)/\0<(c.length:Int))/\uP b (Q (List.getD c 0 default))) (uP b (Q I)))))) (∃
 a b,∃ c:Nat,(I.cell 8)=D.sl a 9 b c/\((0:Int)<=(1:Int)/\1<(b.length:Int))/\kB 131 [.dg 9 (List.getD b 1 default),.j n6]
 N (λa b=>Br a (∃ a c,∃ d:Nat,(I.cell 8)=D.sl a 9 c d/\((0:Int)<=(0:Int)/\0<(c.length:Int))/\uP b (Q (List.getD
 c 0 default))) (uP b (Q I)))))):uU Q N0 I J O U Y aa ab ac ae ah ai aj ak al am ao n6 b7 N:=
  hE tl h
end Go.Proofs.YtligajflgjpdnaaGreatDoor
set_option maxRecDepth 100000
namespace Go.Proofs.YtligajflgjpdnaaGreatDoor
open Go Go.Proofs Go.Proofs.Tryz
def um:Hint:=⟨[hc 5 [1,2,3,4]],[],[(2,hs 6 [ec 4 [17]]),(7,[en 0,en 1,en 2,en 3,en 4,en 5,en 6,ec 7 [35],en 8,eh 9,en 10,eh 11])]⟩
def vL:Hint:=⟨[hc 5 [1,2,3,4]],[],[(2,hs 6 [ec 4 [17]]),(3,[en 0,en 1,en 2,en 3,en 4,en 5,en 6,en 7,en 8,en 9,en 11,en 12,en 15,ec 10 [28],ec 13 [31],en 14,eh 16]),(7,[en 0,en 1,en 2,en 3,en 4,en 5,en 6,ec 7 [47],en 8,eh 9,en 10,eh 11])]⟩
def xc (Q:QT [.ag 2])(N0:Nat)(n4:Int)(y0:D)(I:Int)(J:Option Addr)(O:List D)(U:Nat)(Y:Int)(aa:Option Addr)(ab:List D)(ac:Nat)(N:Nat):Prop:=AT prog 74 [.ag 2] Q N0 .ord (zG prog 74 5) ⟨an 1 (.pb 0 0 0 0::.pb 1 0 0 0::.pb 2 0 0 0::.int .i64 n4::an 36 []),[.vd y0 2,.var [.int .i64 I,.sv J 2 O U],.var [.int .i64 Y,.sv aa 2 ab ac]],N,none⟩
def yS (Q:QT [.ag 9])(N0:Nat)(n4:Int)(y0:D)(I:Int)(J O:ByteArray)(U Y:Int)(aa:Option Addr)(ab:List D)(ac:Nat)(ae:Int)(ah:Option Addr)(ai:List D)(aj:Nat)(ak:Option Addr)(al:List D)(am:Nat)(ao:Int)(aq au:ByteArray)(aw:Int)(ax ay az a6:D)(a7:Option Addr)(a8:List D)(ba:Nat)(N:Nat):Prop:=AT prog 43 [.ag 9] Q N0 .ord (zG prog 43 5) ⟨an 1 (.pb 0 0 0 0::.pb 1 0 0 0::.pb 2 0 0 0::.int .i64 n4::an 48 []),[.vd y0 9,.var [.int .i64 I,.str J,.str O,.int .i64 U,.int .i64 Y,.sv aa 2 ab ac,.int .i64 ae,.sv ah 2 ai aj,.sv ak 9 al am],.var [.int .i64 ao,.str aq,.str au,.int .i64 aw,.dc ax,.dc ay,.dc az,.dc a6,.sv a7 9 a8 ba]],N,none⟩
def yk (Q:QT [.ag 2])(N0:Nat)(n4:Int)(y0:D)(I:Int)(J:Option Addr)(O:List D)(U:Nat)(Y:Int)(aa ab:Nat)(r3:List D)(q3:Nat)(N:Nat):Prop:=AT prog 74 [.ag 2] Q N0 .ord (zG prog 74 5) ⟨an 1 (.pb 0 0 0 0::.pb 1 0 0 0::.pb 2 0 0 0::.int .i64 n4::an 36 []),[.vd y0 2,.var [.int .i64 I,.sv J 2 O U],.var [.int .i64 Y,.sb 3 2 0 aa ab],.arr 26 2 r3 q3],N,none⟩
def yU (Q:QT [.ag 9])(N0:Nat)(n4:Int)(y0:D)(I:Int)(J O:ByteArray)(U Y:Int)(aa:Option Addr)(ab:List D)(ac:Nat)(ae:Int)(ah:Option Addr)(ai:List D)(aj:Nat)(ak:Option Addr)(al:List D)(am:Nat)(ao:Int)(aq au:ByteArray)(aw:Int)(ax ay az a6:D)(a7 a8:Nat)(r3:List D)(q3:Nat)(N:Nat):Prop:=AT prog 43 [.ag 9] Q N0 .ord (zG prog 43 5) ⟨an 1 (.pb 0 0 0 0::.pb 1 0 0 0::.pb 2 0 0 0::.int .i64 n4::an 48 []),[.vd y0 9,.var [.int .i64 I,.str J,.str O,.int .i64 U,.int .i64 Y,.sv aa 2 ab ac,.int .i64 ae,.sv ah 2 ai aj,.sv ak 9 al am],.var [.int .i64 ao,.str aq,.str au,.int .i64 aw,.dc ax,.dc ay,.dc az,.dc a6,.sb 3 9 0 a7 a8],.arr 29 9 r3 q3],N,none⟩
theorem ES (N:Nat) (I:D) (Q:QT [.ag 2]) (h :
Bel N I->∃ n:Int,(I.cell 0)=D.j n/\Br (n==4) (∃ a b,∃ c:Nat,(I.cell 1)=D.sl a 2 b c/\Br ((b.length:Int)==1) (∃ a b,∃ c :
 Nat,(I.cell 1)=D.sl a 2 b c/\((0:Int)<=(0:Int)/\0<(b.length:Int))/\kA 2 74 [.dg 2 (List.getD b 0 default)] N (λx a=>uP a (Q
 x))) (∃ a:Int,(I.cell 0)=D.j a/\xc Q N 0 I 0 none [] 0 a none [] 0 N)) (∃ a:Int,(I.cell 0)=D.j a/\xc Q
 N 0 I 0 none [] 0 a none [] 0 N)):ACalls prog 74 [.ag 2] [PV.dg 2 I] N Q:=
  eE um h
theorem Ce (N:Nat) (x0:D) (Q:QT [.ag 9]) (h :
Bel N x0->∃ n:Int,(x0.cell 0)=D.j n/\kB 31 [.j n,.j 10,.j 13] N (fun b d=>Br b (∃ a b,∃ c:Nat,(x0.cell 8)=D.sl a 9 b c/\Br ((b.length
 : Int)==1) (∃ a b,∃ c:Nat,(x0.cell 8)=D.sl a 9 b c/\((0:Int)<=(0:Int)/\0<(b.length:Int))/\kA 9 43 [.dg 9 (List.getD b 0
 default)] d (fun x a=>uP a (Q x))) (∃ a:Int,(x0.cell 0)=D.j a/\∃ s,(x0.cell 1)=D.t s/\∃ b,(x0.cell 2)=D.t b/\∃ c:Int,(x0.cell 3)
 = D.j c/\kA 2 74 [.dg 2 (D.sub x0 4 2)] d (fun d e=>kA 2 74 [.dg 2 (D.sub x0 6 2)] e (fun e f=>yS Q N 0 x0 0 b0 b0 0 0 none []
 0 0 none [] 0 none [] 0 a s b c (d.cell 0) (d.cell 1) (e.cell 0) (e.cell 1) none [] 0 f)))) (∃ a:Int,(x0.cell 0)=D.j a/\∃ b,(x0.cell
 1)=D.t b/\∃ c,(x0.cell 2)=D.t c/\∃ e:Int,(x0.cell 3)=D.j e/\kA 2 74 [.dg 2 (D.sub x0 4 2)] d (fun d f=>kA 2 74 [.dg 2 (D.sub x0 6
 2)] f (fun f g=>yS Q N 0 x0 0 b0 b0 0 0 none [] 0 0 none [] 0 none [] 0 a b c e (d.cell 0) (d.cell 1) (f.cell 0)
 (f.cell 1) none [] 0 g))))):ACalls prog 43 [.ag 9] [PV.dg 9 x0] N Q:=
  eE vL h
theorem sY {Q:QT [.ag 2]} {N0:Nat} {n4:Int} {y0:D} {Y:Int} {aa:Option Addr} {ab:List D} {ac:Nat} {J:Int} {O:Option Addr} {I:List D} {U:Nat} {N:Nat} (h :
∃ a b,∃ c:Nat,(y0.cell 1)=D.sl a 2 b c/\Br (decide (n4<(b.length:Int))) (∃ a b,∃ c:Nat,(y0.cell 1)=D.sl a 2 b c/\(0<=n4
 /\ n4<(b.length:Int))/\kA 2 74 [.dg 2 (List.getD b n4.toNat default)] N (λx a=>Vw O I U [x]/\zC I [x] 32/\∀(b:Nat),
 yk Q N0 (IntKind.i64.wrap (n4+1)) y0 Y aa ab ac J (I++[x]).length b (I++[x]) b a)) (uP N (Q (D.ag [D.j J,
 D.sl O 2 I U])))):xc Q N0 n4 y0 Y aa ab ac J O I U N:=
  hE um h
theorem uu {Q:QT [.ag 9]} {N0:Nat} {n4:Int} {y0:D} {aj:Int} {ak al:ByteArray} {am ao:Int} {aq:Option Addr} {au:List D} {aw:Nat} {ax:Int} {ay:Option Addr} {az:List D} {a6:Nat} {a7:Option Addr} {a8:List D} {ba:Nat} {J:Int} {O U:ByteArray} {Y:Int} {aa ab ac ae:D} {ah:Option Addr} {I:List D} {ai:Nat} {N:Nat} (h :
∃ a b,∃ c:Nat,(y0.cell 8)=D.sl a 9 b c/\Br (decide (n4<(b.length:Int))) (∃ a b,∃ c:Nat,(y0.cell 8)=D.sl a 9 b c/\(0<=n4
 /\ n4<(b.length:Int))/\kA 9 43 [.dg 9 (List.getD b n4.toNat default)] N (λx a=>Vw ah I ai [x]/\zC I [x] 136/\∀(b:Nat),
 yU Q N0 (IntKind.i64.wrap (n4+1)) y0 aj ak al am ao aq au aw ax ay az a6 a7 a8 ba J O U Y aa
 ab ac ae (I++[x]).length b (I++[x]) b a)) (uP N (Q (D.ag [D.j J,D.t O,D.t U,D.j Y,aa,ab,ac,ae,D.sl ah 9 I
 ai])))):yS Q N0 n4 y0 aj ak al am ao aq au aw ax ay az a6 a7 a8 ba J O U Y aa ab ac ae ah I ai N:=
  hE vL h
theorem uj {Q:QT [.ag 2]} {N0:Nat} {n4:Int} {y0:D} {U:Int} {Y:Option Addr} {aa:List D} {ab:Nat} {I:Int} {J O:Nat} {r3:List D} {q3:Nat} {N:Nat} (h :
∃ a b,∃ c:Nat,(y0.cell 1)=D.sl a 2 b c/\Br (decide (n4<(b.length:Int))) (∃ a b,∃ c:Nat,(y0.cell 1)=D.sl a 2 b c/\(0<=n4
 /\ n4<(b.length:Int))/\kA 2 74 [.dg 2 (List.getD b n4.toNat default)] N (λx a=>(J=r3.length/\O=q3)/\zC r3 [x] 32/\∀(b :
 Nat),yk Q N0 (IntKind.i64.wrap (n4+1)) y0 U Y aa ab I (r3++[x]).length b (r3++[x]) b a)) (w3 (J=r3.length /\
 O=q3) (∀ a b,N<=b->Fresh N0 b a [D.ag r3]->uP b (Q (D.ag [D.j I,D.sl a 2 r3 q3]))))):yk Q N0 n4 y0 U Y aa ab I J O r3 q3 N:=
  hE um h
theorem vR {Q:QT [.ag 9]} {N0:Nat} {n4:Int} {y0:D} {ai:Int} {aj ak:ByteArray} {al am:Int} {ao:Option Addr} {aq:List D} {au:Nat} {aw:Int} {ax:Option Addr} {ay:List D} {az:Nat} {a6:Option Addr} {a7:List D} {a8:Nat} {Y:Int} {aa ab:ByteArray} {ac:Int} {I J O U:D} {ae ah:Nat} {r3:List D} {q3:Nat} {N:Nat} (h :
∃ a b,∃ c:Nat,(y0.cell 8)=D.sl a 9 b c/\Br (decide (n4<(b.length:Int))) (∃ a b,∃ c:Nat,(y0.cell 8)=D.sl a 9 b c/\(0<=n4
 /\ n4<(b.length:Int))/\kA 9 43 [.dg 9 (List.getD b n4.toNat default)] N (λx a=>(ae=r3.length/\ah=q3)/\zC r3 [x] 136/\∀(b :
 Nat),yU Q N0 (IntKind.i64.wrap (n4+1)) y0 ai aj ak al am ao aq au aw ax ay az a6 a7 a8 Y aa ab ac
 I J O U (r3++[x]).length b (r3++[x]) b a)) (w3 (ae=r3.length/\ah=q3) (∀ a b,N<=b->Fresh N0 b a [D.ag r3,I,J,
 O,U]->uP b (Q (D.ag [D.j Y,D.t aa,D.t ab,D.j ac,I,J,O,U,D.sl a 9 r3 q3]))))):yU Q N0 n4 y0 ai aj ak al am ao aq au aw ax ay az a6 a7 a8 Y aa ab ac I J O U ae ah r3 q3 N:=
  hE vL h
end Go.Proofs.YtligajflgjpdnaaGreatDoor
