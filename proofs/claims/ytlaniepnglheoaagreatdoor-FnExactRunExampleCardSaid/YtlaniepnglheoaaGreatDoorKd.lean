/- Printed by gen.py: what the functions come to. -/
import Derived.Test.YtlaniepnglheoaaGreatDoorJh
set_option linter.unusedVariables false
set_option maxRecDepth 100000
namespace Go.Proofs.YtlaniepnglheoaaGreatDoor
open Go Go.Proofs Go.Proofs.Tryz
def Gc:Hint:=⟨[],[],[(1,hs 7 [ec 1 [16]]),(2,hs 14 [ec 6 [25],ec 10 [20,26,28,29]]),(3,hs 4 [ec 1 [33]]),(4,[en 0,en 1,en 2,en 3,en 4,en 5,en 6,en 7,en 8,en 9,eh 10,ec 11 [42,45],en 12,eh 13])]⟩
def uA:Hint:=⟨[hc 10 [3,4,5,6,7,8,9,39,40,41],hc 19 [4,5,6,8,9,12,75,76,77]],[],[(3,hs 3 [ec 1 [22]]),(4,hs 3 [ec 1 [24]]),(5,hs 7 [ec 1 [27]]),(7,hs 4 [ec 2 [33]]),(8,hs 4 [ec 1 [36]]),(13,[en 0,en 1,en 2,en 3,en 4,en 5,ec 6 [52,54],en 7,eh 8]),(15,[en 0,en 1,eh 2,en 3,en 4,en 5,en 6,en 7,en 8,en 10,ec 9 [66],eh 11,en 12,en 13]),(17,hs 3 [ec 1 [73]]),(22,hs 7 [ec 5 [84]]),(24,[en 0,en 1,en 2,en 3,en 4,en 5,en 6,en 7,en 8,en 9,ec 10 [98,100],en 11,eh 12])]⟩
def Am:Hint:=⟨[],[],[(1,hs 5 [ec 3 [5,7]])]⟩
def AF:Hint:=⟨[hc 4 [1,2,3,8,9,10,12]],[],[(1,hs 4 [ec 1 [16]]),(8,hs 15 [ec 6 [46]]),(9,[en 0,en 1,en 2,en 3,en 4,en 5,en 6,en 7,en 8,en 9,en 10,en 11,en 12,eh 13,ec 14 [62,68],en 15,eh 16])]⟩
def rO:Hint:=⟨[hc 9 [1,5,6,7,9,10,11]],[],[(2,hs 3 [ec 1 [21]]),(3,hs 4 [ec 1 [23]]),(6,hs 17 [ec 12 [45]]),(7,[en 0,en 1,en 2,en 3,ec 4 [54],ec 5 [51],eh 6]),(12,[en 0,en 1,en 2,en 3,en 4,en 5,en 6,en 7,en 8,en 9,ec 10 [78,80],en 11,eh 12])]⟩
def ud:Hint:=⟨[hc 3 [1,2,4,5,10,11,12] [(5,35,9)]],[],[(5,hs 7 [{ i:=3,hard:=true,cl:=[18],fs:=[5,18] },{ i:=4,hard:=true,cl:=[19],fs:=[5,19] }]),(7,hs 4 [{ i:=2,hard:=true,cl:=[23],fs:=[5,23] }])]⟩
def yZ (Q:QT [.ag 9])(N0:Nat)(a7:Option Addr)(e7:List D)(c7:Nat)(n8:Int)(bd:Option Addr)(bg:List D)(bh:Nat)(bi bj:Int)(y0:D)(I:ByteArray)(y2:D)(J:Int)(O U:ByteArray)(Y aa:Int)(ab:Option Addr)(ac:List D)(ae:Nat)(ah:Int)(ai:Option Addr)(aj:List D)(ak:Nat)(al:Option Addr)(ao:List D)(aq:Nat)(au:Int)(aw ax:ByteArray)(ay:Int)(az a6 a8 ba:D)(bb bc:Nat)(r5:List D)(q5:Nat)(N:Nat):Prop:=AT prog 232 [.ag 9] Q N0 .ord (zF prog 232 10) ⟨an 3 (.pb 0 0 0 0::.pb 1 0 0 0::.pb 2 0 0 0::.pb 3 0 0 0::.sv a7 0 e7 c7::.int .i64 n8::.pb 4 0 0 0::an 29 (.sv bd 9 bg bh::.int .i64 bi::.int .i64 bj::an 62 [])),[.vd y0 9,.var [.str I],.vd y2 9,.var [.int .i64 J,.str O,.str U,.int .i64 Y,.int .i64 aa,.sv ab 2 ac ae,.int .i64 ah,.sv ai 2 aj ak,.sv al 9 ao aq],.var [.int .i64 au,.str aw,.str ax,.int .i64 ay,.dc az,.dc a6,.dc a8,.dc ba,.sb 5 9 0 bb bc],.arr 35 9 r5 q5],N,none⟩
def yp (Q:QT [.pk,.int .i64,.str,.str,.int .i64,.dc,.dc,.dc,.dc,.row 35 9])(N0:Nat)(n1:Int)(s2:ByteArray)(a3:Option Addr)(e3:List D)(c3:Nat)(bb:Option Addr)(bc:List D)(bd:Nat)(bg I:Int)(J O:ByteArray)(U Y:Int)(aa:Option Addr)(ab:List D)(ac:Nat)(ae:Int)(ah:Option Addr)(ai:List D)(aj:Nat)(ak:Option Addr)(al:List D)(ao:Nat)(aq:Int)(au aw:ByteArray)(ax:Int)(ay az a6 a7:D)(a8 ba:Nat)(r2:List D)(q2:Nat)(N:Nat):Prop:=AT prog 212 [.pk,.int .i64,.str,.str,.int .i64,.dc,.dc,.dc,.dc,.row 35 9] Q N0 .ord (zF prog 212 4) ⟨an 1 (.int .i64 n1::.str s2::.sv a3 0 e3 c3::an 4 (.pb 0 0 0 0::.pb 1 0 0 0::.sv bb 0 bc bd::an 1 (.int .i64 bg::an 65 []))),[.var [.int .i64 I,.str J,.str O,.int .i64 U,.int .i64 Y,.sv aa 2 ab ac,.int .i64 ae,.sv ah 2 ai aj,.sv ak 9 al ao],.var [.int .i64 aq,.str au,.str aw,.int .i64 ax,.dc ay,.dc az,.dc a6,.dc a7,.sb 2 9 0 a8 ba],.arr 35 9 r2 q2],N,none⟩
def zE (Q:QT [.ag 9])(N0:Nat)(s1:ByteArray)(n9:Int)(bb:Bool)(bc:Int)(y0:D)(I:Int)(J O:ByteArray)(U Y:Int)(aa:Option Addr)(ab:List D)(ac:Nat)(ae:Int)(ah:Option Addr)(ai:List D)(aj:Nat)(ak:Option Addr)(al:List D)(ao:Nat)(aq:Int)(au aw:ByteArray)(ax:Int)(ay az a6 a7:D)(a8 ba:Nat)(r3:List D)(q3:Nat)(N:Nat):Prop:=AT prog 158 [.ag 9] Q N0 .ord (zF prog 158 9) ⟨an 1 (.str s1::an 3 (.pb 0 0 0 0::.pb 1 0 0 0::.pb 2 0 0 0::an 1 (.int .i64 n9::.bool bb::.int .i64 bc::an 72 []))),[.vd y0 9,.var [.int .i64 I,.str J,.str O,.int .i64 U,.int .i64 Y,.sv aa 2 ab ac,.int .i64 ae,.sv ah 2 ai aj,.sv ak 9 al ao],.var [.int .i64 aq,.str au,.str aw,.int .i64 ax,.dc ay,.dc az,.dc a6,.dc a7,.sb 3 9 0 a8 ba],.arr 35 9 r3 q3],N,none⟩
def yq (Q:QT [.pk,.int .i64,.str,.str,.int .i64,.dc,.dc,.dc,.dc,.row 35 9])(N0:Nat)(O:Addr)(I:D)(U:Addr)(J:D)(m5 c5:Nat)(ay:Option Addr)(az:List D)(a6:Nat)(a7 a8:Int)(y0:D)(Y:Int)(aa ab:ByteArray)(ac ae:Int)(ah:Option Addr)(ai:List D)(aj:Nat)(ak:Int)(al:Option Addr)(ao:List D)(aq:Nat)(au:Option Addr)(aw:List D)(ax:Nat)(r2:List D)(q2:Nat)(N:Nat):Prop:=AT prog 186 [.pk,.int .i64,.str,.str,.int .i64,.dc,.dc,.dc,.dc,.row 35 9] Q N0 .ord (zF prog 186 3) ⟨an 1 (.fn 255 [.pd O 0 I,.pd U 9 J]::.pb 0 0 0 0::an 1 (.pb 1 0 0 0::.sb 2 9 0 m5 c5::an 4 (.sv ay 9 az a6::.int .i64 a7::.int .i64 a8::an 13 []))),[.vd y0 9,.var [.int .i64 Y,.str aa,.str ab,.int .i64 ac,.int .i64 ae,.sv ah 2 ai aj,.int .i64 ak,.sv al 2 ao aq,.sv au 9 aw ax],.arr 35 9 r2 q2],N,none⟩
def ya (Q:QT [.ag 9])(N0:Nat)(n8:Int)(bc bd:Nat)(a75:Option Addr)(bg:List D)(c75:Nat)(bh bi:Int)(I:ByteArray)(y1:D)(J:Int)(O U:ByteArray)(Y aa:Int)(ab:Option Addr)(ac:List D)(ae:Nat)(ah:Int)(ai:Option Addr)(aj:List D)(ak:Nat)(al:Option Addr)(ao:List D)(aq:Nat)(au:Int)(aw ax:ByteArray)(ay:Int)(az a6 a7 a8:D)(ba bb:Nat)(r4:List D)(q4:Nat)(r5:List D)(q5:Nat)(N:Nat):Prop:=AT prog 232 [.ag 9] Q N0 .ord (zF prog 232 19) ⟨an 4 (.pb 0 0 0 0::.pb 1 0 0 0::.pb 2 0 0 0::an 1 (.int .i64 n8::.pb 3 0 0 0::an 2 (.sb 4 0 0 bc bd::an 62 (.sv a75 0 bg c75::.int .i64 bh::.int .i64 bi::an 26 [])))),[.var [.str I],.vd y1 9,.var [.int .i64 J,.str O,.str U,.int .i64 Y,.int .i64 aa,.sv ab 2 ac ae,.int .i64 ah,.sv ai 2 aj ak,.sv al 9 ao aq],.var [.int .i64 au,.str aw,.str ax,.int .i64 ay,.dc az,.dc a6,.dc a7,.dc a8,.sb 5 9 0 ba bb],.arr 9 0 r4 q4,.arr 35 9 r5 q5],N,none⟩
theorem HF (N:Nat) (I:D) (n1:Int) (U:ByteArray) (a3:Option Addr) (O:List D) (c3:Nat) (J:ByteArray) (Q:QT [.pk,.int .i64,.str,.str,.int .i64,.dc,.dc,.dc,.dc,.row 35 9]) (h :
Bel N I->Bel N (D.sl a3 0 O c3)->∀ b,N<=b->ACalls prog 254 [.sl 0,.i] [.dg 9 I] b (λa c d _ e=>b<=e->Bel e (D.sl a 0 c d)->∃ b
 f,∃ g:Nat,(I.cell 8)=D.sl b 9 f g/\(0<=n1/\n1<(f.length:Int))/\∀ b,e<=b->ACalls prog 256 [.row 9 0] [.dg 9 (List.getD f
 n1.toNat default)] b (λe f g=>b<=g->Bel g (D.ag e)->(e.length=e.length/\f=f)/\∀ b h,g<=h->Fresh N h b [D.ag
 e]->(1=([D.t J]).length/\1=1)/\∀ g i,h<=i->Fresh N i g [D.ag [D.t J]]->(4=([D.sl a3 0 O c3,D.sl b 0 e f,D.sl g 0 [D.t J]
 1,D.sl a 0 c d]).length/\4=4)/\∀ h,ApA h [D.sl a3 0 O c3,D.sl b 0 e f,D.sl g 0 [D.t J] 1,D.sl a 0 c d]->∀ j,i<=j->vN j [h]
 -> ACalls prog 277 [.sl 0] [.sv h 0 [D.sl a3 0 O c3,D.sl b 0 e f,D.sl g 0 [D.t J] 1,D.sl a 0 c d] 4] j (λa b c d=>j<=d->Off
 [h] (D.sl a 0 b c)/\(Bel d (D.sl a 0 b c)->kS 276 [.sv a 0 b c] d (λs a=>∀ b,a<=b->ACalls prog 123 [.pk,.i,.str,
 .str,.i,.dc,.dc,.dc,.dc,.row 35 9] [.dg 9 I] b (λa c d e x f g h i j k=>b<=k->Bel k (D.ag i)->∃ b l,∃ m :
 Nat,(I.cell 8)=D.sl b 9 l m/\(0<=n1/\n1<(l.length:Int))/\kA 9 111 [.str s] k (λb k=>kA 9 232 [.dg 9 (List.getD l n1.toNat
 default),.str U,.dg 9 b] k (λb k=>(0<=n1/\n1<(i.length:Int)/\(0+n1.toNat:Nat)<i.length)/\(0+n1.toNat:Nat)<i.length
 /\ ∃ l,(I.cell 1)=D.t l/\Br (ByteArray.toList l==ByteArray.toList U) ((i.length=(List.set i (0+n1.toNat:Nat) b).length/\j=j) /\
 uP k (Q a s d e x f g h (List.set i (0+n1.toNat:Nat) b) j)) ((i.length=(List.set i (0+n1.toNat:Nat) b).length/\j =
 j)/\uP k (Q a c s e x f g h (List.set i (0+n1.toNat:Nat) b) j))))))))))):ACalls prog 257 [.pk,.int .i64,.str,.str,.int .i64,.dc,.dc,.dc,.dc,.row 35 9] [PV.dg 9 I,PV.int .i64 n1,PV.str U,PV.sv a3 0 O c3,PV.str J] N Q:=
  eE Gc h
theorem EB (N:Nat) (I:D) (O:ByteArray) (J:D) (Q:QT [.ag 9]) (h :
Bel N I->Bel N J->∃ n:Int,(I.cell 0)=D.j n/\Br (n==1) (∃ s,(I.cell 1)=D.t s/\Br (ByteArray.toList s==ByteArray.toList O) (∀ b,N<=b
 -> ACalls prog 123 [.pk,.i,.str,.str,.i,.dc,.dc,.dc,.dc,.row 35 9] [.dg 9 J] b (λc d e f x g h i j k l=>b<=l->Bel l (D.ag
 j)->w2 (j.length=j.length/\k=k) (∀ a b,l<=b->Fresh N b a [D.ag j,x,g,h,i]->uP b (Q (D.ag [D.j c,D.t d,D.t e,D.j f,x,
 g,h,i,D.sl a 9 j k]))))) (∀ a,N<=a->ACalls prog 123 [.pk,.i,.str,.str,.i,.dc,.dc,.dc,.dc,.row 35 9] [.dg 9 I] a (λb c d e
 f g h i j k l=>a<=l->Bel l (D.ag j)->w2 (j.length=j.length/\k=k) (∀ a m,l<=m->Fresh N m a [D.ag j,f,
 g,h,i]->uP m (Q (D.ag [D.j b,D.t c,D.t d,D.j e,f,g,h,i,D.sl a 9 j k])))))) (∀ a,N<=a->ACalls prog 254 [.sl 0,.i]
 [.dg 9 I] a (λb c d e f=>a<=f->Bel f (D.sl b 0 c d)->Br (decide (e<0)) (∀ a,ApA (Option.some a) [D.t O]->Off
 [Option.some a] I->∀ b,ApA (Option.some b) [J]->Off [Option.some b] I->∀ c,f<=c->vN c [Option.some a,Option.some b]->ACalls
 prog 186 [.pk,.i,.str,.str,.i,.dc,.dc,.dc,.dc,.row 35 9] [.dg 9 I,.fn 255 [.pd a 0 (D.t O),.pd b 9 J]] c (λd e f g h i j
 k l m n=>c<=n->Off [Option.some a,Option.some b] h/\Off [Option.some a,Option.some b] i/\Off [Option.some a,Option.some
 b] j/\Off [Option.some a,Option.some b] k/\Off [Option.some a,Option.some b] (D.ag l)/\(Bel n (D.ag l)->w2 (l.length =
 l.length/\m=m) (∀ a b,n<=b->Fresh N b a [D.ag l,h,i,j,k]->uP b (Q (D.ag [D.j d,D.t e,D.t f,D.j g,h,
 i,j,k,D.sl a 9 l m])))))) (∀ a,f<=a->ACalls prog 123 [.pk,.i,.str,.str,.i,.dc,.dc,.dc,.dc,.row 35 9] [.dg 9 I] a (λf
 g h i j k l m n o p=>a<=p->Bel p (D.ag n)->∃ a q,∃ r:Nat,(I.cell 8)=D.sl a 9 q r /\
 yZ Q N b c d e a q r (q.length:Int) 0 I O J 0 b0 b0 0 0 none [] 0 0 none [] 0 none [] 0 f g h i j k l
 m n.length o n o p))))):ACalls prog 232 [.ag 9] [PV.dg 9 I,PV.str O,PV.dg 9 J] N Q:=
  eE uA h
theorem HT (N:Nat) (I:D) (n1:Int) (O:ByteArray) (a3:Option Addr) (J:List D) (c3:Nat) (Q:QT [.pk,.int .i64,.str,.str,.int .i64,.dc,.dc,.dc,.dc,.row 35 9]) (h :
Bel N I->Bel N (D.sl a3 0 J c3)->∀ b,N<=b->ACalls prog 45 [.pk,.i,.str,.str,.i,.dc,.dc,.dc,.dc,.row 35 9] [.dg 9 I] b (λn s c d
 x e f g h i j=>b<=j->Bel j (D.ag h)->∀ b,j<=b->ACalls prog 209 [.sl 0,.i] [.dg 9 I] b (λa j k _ l=>b<=l->Bel l (D.sl
 a 0 j k)->yp Q N n1 O a3 J c3 a j k 0 0 b0 b0 0 0 none [] 0 0 none [] 0 none [] 0 n s c d x e f g h.length i h i l))):ACalls prog 212 [.pk,.int .i64,.str,.str,.int .i64,.dc,.dc,.dc,.dc,.row 35 9] [PV.dg 9 I,PV.int .i64 n1,PV.str O,PV.sv a3 0 J c3] N Q:=
  eE AF h
theorem EM (N:Nat) (O:D) (I:ByteArray) (J:D) (Q:QT [.ag 9]) (h :
Bel N O->Bel N J->∃ n:Int,(O.cell 0)=D.j n/\Br (n==1) (∃ s,(O.cell 1)=D.t s/\Br (ByteArray.toList s==ByteArray.toList I) (∀ b,N<=b
 -> ACalls prog 45 [.pk,.i,.str,.str,.i,.dc,.dc,.dc,.dc,.row 35 9] [.dg 9 J] b (λc d e f x g h i j k l=>b<=l->Bel l (D.ag j)
 -> w2 (j.length=j.length/\k=k) (∀ a b,l<=b->Fresh N b a [D.ag j,x,g,h,i]->uP b (Q (D.ag [D.j c,D.t d,D.t e,D.j f,x,g,
 h,i,D.sl a 9 j k]))))) (∀ a,N<=a->ACalls prog 45 [.pk,.i,.str,.str,.i,.dc,.dc,.dc,.dc,.row 35 9] [.dg 9 O] a (λb c d e f g
 h i j k l=>a<=l->Bel l (D.ag j)->∀ a,l<=a->ACalls prog 209 [.sl 0,.i] [.dg 9 O] a (λl m n o p=>a<=p->Bel p
 (D.sl l 0 m n)->∀ a,p<=a->ACalls prog 210 [.i] [.sv l 0 m n,.str I] a (λl m=>a<=m->Br (decide (o≥0)) (Br (!(decide
 (l≥0))) (∃ a n,∃ p:Nat,(O.cell 8)=D.sl a 9 n p/\(0<=o/\o<(n.length:Int))/\kL 0 211 [.dg 9 (List.getD n o.toNat
 default)] m (λa m n p=>∀ q,p<=q->ACalls prog 210 [.i] [.sv a 0 m n,.str I] q (λa m=>q<=m->Br (decide (a ≥
 0)) (kL 0 211 [.dg 9 J] m (λa b c d=>∀ e,d<=e->ACalls prog 212 [.pk,.i,.str,.str,.i,.dc,.dc,.dc,.dc,.row 35 9] [.dg 9 O,.j
 o,.str I,.sv a 0 b c] e (λa b c d f g h i j k m=>e<=m->Bel m (D.ag j)->zE Q N I o
 (decide (l≥0)) 0 J 0 b0 b0 0 0 none [] 0 0 none [] 0 none [] 0 a b c d f g h i j.length k j k m))) (zE Q N I
 o (decide (l≥0)) 0 J 0 b0 b0 0 0 none [] 0 0 none [] 0 none [] 0 b c d e f g h i j.length k j k m)))) (zE Q N
 I o (decide (l≥0)) 0 J 0 b0 b0 0 0 none [] 0 0 none [] 0 none [] 0 b c d e f g h i j.length k j k m)) (zE Q
 N I o (decide (l≥0)) 0 J 0 b0 b0 0 0 none [] 0 0 none [] 0 none [] 0 b c d e f g h i j.length k j k m)))))) (∀ a,N<=a
 -> ACalls prog 45 [.pk,.i,.str,.str,.i,.dc,.dc,.dc,.dc,.row 35 9] [.dg 9 O] a (λb c d e f g h i j k l=>a<=l ->
 Bel l (D.ag j)->∀ a,l<=a->ACalls prog 209 [.sl 0,.i] [.dg 9 O] a (λl m n o p=>a<=p->Bel p (D.sl l 0 m n)->∀
 a,p<=a->ACalls prog 210 [.i] [.sv l 0 m n,.str I] a (λl m=>a<=m->Br (decide (o≥0)) (Br (!(decide (l≥0))) (∃ a
 n,∃ p:Nat,(O.cell 8)=D.sl a 9 n p/\(0<=o/\o<(n.length:Int))/\kL 0 211 [.dg 9 (List.getD n o.toNat default)] m (fun
 a m n p=>∀ q,p<=q->ACalls prog 210 [.i] [.sv a 0 m n,.str I] q (λa m=>q<=m->Br (decide (a≥0)) (kL 0 211
 [.dg 9 J] m (λa b c d=>∀ e,d<=e->ACalls prog 212 [.pk,.i,.str,.str,.i,.dc,.dc,.dc,.dc,.row 35 9] [.dg 9 O,.j o,.str
 I,.sv a 0 b c] e (λa b c d f g h i j k m=>e<=m->Bel m (D.ag j)->zE Q N I o
 (decide (l≥0)) 0 J 0 b0 b0 0 0 none [] 0 0 none [] 0 none [] 0 a b c d f g h i j.length k j k m)))
 (zE Q N I o (decide (l≥0)) 0 J 0 b0 b0 0 0 none [] 0 0 none [] 0 none [] 0 b c d e f g h i j.length k j
 k m)))) (zE Q N I o (decide (l≥0)) 0 J 0 b0 b0 0 0 none [] 0 0 none [] 0 none [] 0 b c d e f g h i
 j.length k j k m)) (zE Q N I o (decide (l≥0)) 0 J 0 b0 b0 0 0 none [] 0 0 none [] 0 none [] 0 b c d e f g
 h i j.length k j k m)))))):ACalls prog 158 [.ag 9] [PV.dg 9 O,PV.str I,PV.dg 9 J] N Q:=
  eE rO h
theorem rt (N:Nat) (Y:D) (O:Addr) (I:D) (U:Addr) (J:D) (Q:QT [.pk,.int .i64,.str,.str,.int .i64,.dc,.dc,.dc,.dc,.row 35 9]) (h :
Bel N Y->∃ a b,∃ c:Nat,(Y.cell 8)=D.sl a 9 b c/\yq Q N O I U J 0 0 a b c (b.length:Int) 0 Y 0 b0 b0 0 0
 none [] 0 0 none [] 0 none [] 0 [] 0 N):ACalls prog 186 [.pk,.int .i64,.str,.str,.int .i64,.dc,.dc,.dc,.dc,.row 35 9] [.dg 9 Y,.fn 255 [.pd O 0 I,.pd U 9 J]] N Q:=
  eE ud h
theorem ur {Q:QT [.ag 9]} {N0:Nat} {a7:Option Addr} {e7:List D} {c7:Nat} {n8:Int} {bi:Option Addr} {bg:List D} {bj:Nat} {bh I:Int} {y0:D} {aa:ByteArray} {y2:D} {ak:Int} {al ao:ByteArray} {aq au:Int} {aw:Option Addr} {ax:List D} {ay:Nat} {az:Int} {a6:Option Addr} {a8:List D} {ba:Nat} {bb:Option Addr} {bc:List D} {bd:Nat} {ac:Int} {ae ah:ByteArray} {ai:Int} {J O U Y:D} {ab aj:Nat} {r5:List D} {q5:Nat} {N:Nat} (h :
Br (decide (I<bh)) ((0<=I/\I<(bg.length:Int))/\Br (bne I n8) (kA 9 232 [.dg 9 (List.getD bg I.toNat default),.str aa,.dg 9 y2] N
 (λx a=>(0<=I/\I<(ab:Int)/\(0+I.toNat:Nat)<r5.length)/\(0+I.toNat:Nat)<r5.length/\yZ Q N0 a7 e7 c7 n8 bi
 bg bj bh (IntKind.i64.wrap (I+1)) y0 aa y2 ak al ao aq au aw ax ay az a6 a8 ba bb bc bd ac ae ah ai J O
 U Y ab aj (List.set r5 (0+I.toNat:Nat) x) q5 a)) (yZ Q N0 a7 e7 c7 n8 bi bg bj bh (IntKind.i64.wrap (I+1)) y0 aa y2
 ak al ao aq au aw ax ay az a6 a8 ba bb bc bd ac ae ah ai J O U Y ab aj r5 q5 N)) (kB 174 [.sv a7 0 e7 c7,
 .str aa] N (λb d=>Br b (w3 (ab=r5.length/\aj=q5) (∀ a b,d<=b->Fresh N0 b a [D.ag r5,J,O,U,Y]->uP b (Q (D.ag [D.j ac,
 D.t ae,D.t ah,D.j ai,J,O,U,Y,D.sl a 9 r5 q5])))) (∃ a b,∃ c:Nat,(y0.cell 8)=D.sl a 9 b c/\(0<=n8/\n8<(b.length :
 Int))/\∀ a,d<=a->ACalls prog 256 [.row 9 0] [.dg 9 (List.getD b n8.toNat default)] a (λb c d=>a<=d->Bel d (D.ag b)->(b.length =
 b.length/\c=c)/\∀ a,ApA a b->∀ e,d<=e->vN e [a]->ACalls prog 174 [.bool] [.sv a 0 b c,.str aa] e (λa b=>e <=
 b->Br (!a) (w3 (ab=r5.length/\aj=q5) (∀ a c,b<=c->Fresh N0 c a [D.ag r5,J,O,U,Y]->uP c (Q (D.ag [D.j ac,D.t
 ae,D.t ah,D.j ai,J,O,U,Y,D.sl a 9 r5 q5])))) (∀ a,b<=a->ACalls prog 256 [.row 9 0] [.dg 9 y2] a (λb c d=>a <=
 d->Bel d (D.ag b)->ya Q N0 n8 b.length c a7 e7 c7 (e7.length:Int) 0 aa y2 ak al ao aq au aw ax ay az a6
 a8 ba bb bc bd ac ae ah ai J O U Y ab aj b c r5 q5 d)))))))):yZ Q N0 a7 e7 c7 n8 bi bg bj bh I y0 aa y2 ak al ao aq au aw ax ay az a6 a8 ba bb bc bd ac ae ah ai J O U Y ab aj r5 q5 N:=
  hE uA h
theorem rg {Q:QT [.pk,.int .i64,.str,.str,.int .i64,.dc,.dc,.dc,.dc,.row 35 9]} {N0:Nat} {n1:Int} {s2:ByteArray} {a3:Option Addr} {e3:List D} {c3:Nat} {bd:Option Addr} {ah:List D} {bg:Nat} {O ak:Int} {al ao:ByteArray} {aq au:Int} {aw:Option Addr} {ax:List D} {ay:Nat} {az:Int} {a6:Option Addr} {a7:List D} {a8:Nat} {ba:Option Addr} {bb:List D} {bc:Nat} {U:Int} {ai aj:ByteArray} {Y:Int} {aa ab ac ae:D} {I J:Nat} {r2:List D} {q2:Nat} {N:Nat} (h :
Br (decide (O<(ah.length:Int))) ((0<=O/\O<(ah.length:Int))/\∃ s,List.getD ah O.toNat default=D.t s/\∀ b,N<=b->ACalls prog
 210 [.i] [.sv a3 0 e3 c3,.str s] b (λn d=>b<=d->Br (decide (n<0)) (yp Q N0 n1 s2 a3 e3 c3 bd ah bg (IntKind.i64.wrap (O+1))
 ak al ao aq au aw ax ay az a6 a7 a8 ba bb bc U ai aj Y aa ab ac ae I J r2 q2 d) ((I=r2.length/\J
 = q2)/\∀ a,ApA a r2->∀ b,d<=b->vN b [a]->ACalls prog 209 [.sl 0,.i] [.dg 9 (D.ag [D.j U,D.t ai,D.t aj,D.j Y,aa,ab,ac,ae,
 D.sl a 9 r2 J])] b (λc d e _ f=>b<=f->Off [a] (D.sl c 0 d e)/\(Bel f (D.sl c 0 d e)->(0<=n1/\n1<(I:Int)/\(0+n1.toNat :
 Nat)<r2.length)/\(0+n1.toNat:Nat)<r2.length/\kL 0 211 [.dg 9 (List.getD r2 (0+n1.toNat:Nat) default)] f (λa b c e=>∀ f,e<=f ->
 ACalls prog 245 [.row 9 0] [.sv a3 0 e3 c3,.sv a 0 b c] f (λa b c=>f<=c->Bel c (D.ag a)->(a.length=a.length/\b=b) /\
 zB a [D.t s2] 16/\∀(b:Nat),((a++[D.t s2]).length=(a++[D.t s2]).length/\b=b)/\zB (a++[D.t s2]) d 16/\∀(b :
 Nat),((a++[D.t s2]++d).length=(a++[D.t s2]++d).length/\b=b)/\∀ e,ApA e (a++[D.t s2]++d)->∀ f,c<=f->vN f [e]
 -> ACalls prog 246 [.str] [.sv e 0 (a++[D.t s2]++d) b] f (λa b=>f<=b->(0<=n1/\n1<(I:Int)/\(0+n1.toNat:Nat)<r2.length)
 /\ (0+n1.toNat:Nat)<r2.length/\(0<=O/\O<(ah.length:Int))/\∃ c,List.getD ah O.toNat default=D.t c/\kA 9 77 [.str a] b (λx b
 => kA 9 158 [.dg 9 (List.getD r2 (0+n1.toNat:Nat) default),.str c,.dg 9 x] b (λb c=>(0<=n1/\n1<(I:Int)/\(0+n1.toNat:Nat) <
 r2.length)/\(0+n1.toNat:Nat)<r2.length/\Br (O==0) (yp Q N0 n1 s2 a3 e3 c3 bd ah bg (IntKind.i64.wrap (O+1)) ak al ao aq
 au aw ax ay az a6 a7 a8 ba bb bc U a aj Y aa ab ac ae I J (List.set r2 (0+n1.toNat:Nat) b) q2 c)
 (yp Q N0 n1 s2 a3 e3 c3 bd ah bg (IntKind.i64.wrap (O+1)) ak al ao aq au aw ax ay az a6 a7 a8 ba bb bc U
 ai a Y aa ab ac ae I J (List.set r2 (0+n1.toNat:Nat) b) q2 c))))))))))) ((I=r2.length/\J=q2)/\uP N (Q U ai aj
 Y aa ab ac ae r2 J))):yp Q N0 n1 s2 a3 e3 c3 bd ah bg O ak al ao aq au aw ax ay az a6 a7 a8 ba bb bc U ai aj Y aa ab ac ae I J r2 q2 N:=
  hE AF h
theorem ta {Q:QT [.ag 9]} {N0:Nat} {s1:ByteArray} {n9:Int} {bc:Bool} {I:Int} {y0:D} {aj:Int} {ak al:ByteArray} {ao aq:Int} {au:Option Addr} {aw:List D} {ax:Nat} {ay:Int} {az:Option Addr} {a6:List D} {a7:Nat} {a8:Option Addr} {ba:List D} {bb:Nat} {ab:Int} {ac ae:ByteArray} {ah:Int} {O U Y aa:D} {J ai:Nat} {r3:List D} {q3:Nat} {N:Nat} (h :
Br (decide (I<(J:Int))) (Br (bne I n9) ((0<=I/\I<(J:Int)/\(0+I.toNat:Nat)<r3.length)/\(0+I.toNat:Nat)<r3.length /\
 kA 9 158 [.dg 9 (List.getD r3 (0+I.toNat:Nat) default),.str s1,.dg 9 y0] N (λx a=>(0<=I/\I<(J:Int)/\(0+I.toNat:Nat) <
 r3.length)/\(0+I.toNat:Nat)<r3.length/\zE Q N0 s1 n9 bc (IntKind.i64.wrap (I+1)) y0 aj ak al ao aq au aw ax ay
 az a6 a7 a8 ba bb ab ac ae ah O U Y aa J ai (List.set r3 (0+I.toNat:Nat) x) q3 a)) (Br (!bc) ((0<=I/\I<(J
 : Int)/\(0+I.toNat:Nat)<r3.length)/\(0+I.toNat:Nat)<r3.length/\kA 9 158 [.dg 9 (List.getD r3 (0+I.toNat:Nat) default),.str s1,.dg 9
 y0] N (λa b=>(0<=I/\I<(J:Int)/\(0+I.toNat:Nat)<r3.length)/\(0+I.toNat:Nat)<r3.length/\zE Q N0 s1 n9 bc
 (IntKind.i64.wrap (I+1)) y0 aj ak al ao aq au aw ax ay az a6 a7 a8 ba bb ab ac ae ah O U Y aa J ai
 (List.set r3 (0+I.toNat:Nat) a) q3 b)) (zE Q N0 s1 n9 bc (IntKind.i64.wrap (I+1)) y0 aj ak al ao aq au aw ax ay
 az a6 a7 a8 ba bb ab ac ae ah O U Y aa J ai r3 q3 N))) (w4 (J=r3.length/\ai=q3) (∀ a b,N<=b->Fresh N0 b a
 [D.ag r3,O,U,Y,aa]->uP b (Q (D.ag [D.j ab,D.t ac,D.t ae,D.j ah,O,U,Y,aa,D.sl a 9 r3 q3]))))):zE Q N0 s1 n9 bc I y0 aj ak al ao aq au aw ax ay az a6 a7 a8 ba bb ab ac ae ah O U Y aa J ai r3 q3 N:=
  hE rO h
theorem vu {Q:QT [.pk,.int .i64,.str,.str,.int .i64,.dc,.dc,.dc,.dc,.row 35 9]} {N0:Nat} {U:Addr} {I:D} {Y:Addr} {J:D} {m5 c5:Nat} {a7:Option Addr} {aa:List D} {a8:Nat} {a6 O:Int} {y0:D} {ab:Int} {ac ae:ByteArray} {ah ai:Int} {aj:Option Addr} {ak:List D} {al:Nat} {ao:Int} {aq:Option Addr} {au:List D} {aw:Nat} {ax:Option Addr} {ay:List D} {az:Nat} {r2:List D} {q2:Nat} {N:Nat} (h :
Br (decide (O<a6)) ((0<=O/\O<(aa.length:Int))/\kA 9 255 [.dg 9 (List.getD aa O.toNat default),.pd U 0 I,.pd Y 9 J] N
 (λx a=>(m5=r2.length/\c5=q2)/\zB r2 [x] 136/\∀(c:Nat),yq Q N0 U I Y J (r2++[x]).length c a7 aa a8
 a6 (IntKind.i64.wrap (O+1)) y0 ab ac ae ah ai aj ak al ao aq au aw ax ay az (r2++[x]) c a)) ((m5=r2.length/\c5=q2) /\
 ∀ a,ApA a r2->Off [a] y0->∀ b,N<=b->vN b [a]->ACalls prog 189 [.pk,.i,.str,.str,.i,.dc,.dc,.dc,.dc,Sh.bk 1] [.dg 9 y0,.sv a 9 r2 c5] b
 (λn s c d e f g h i j=>b<=j->i=D.sl a 9 r2 c5/\Off [a] e/\Off [a] f/\Off [a] g/\Off [a] h/\(m5=r2.length/\c5=q2) /\
 uP j (Q n s c d e f g h r2 c5)))):yq Q N0 U I Y J m5 c5 a7 aa a8 a6 O y0 ab ac ae ah ai aj ak al ao aq au aw ax ay az r2 q2 N:=
  hE ud h
theorem ut {Q:QT [.ag 9]} {N0:Nat} {n8:Int} {al ab:Nat} {a75:Option Addr} {ao:List D} {c75:Nat} {bi ac:Int} {J:ByteArray} {y1:D} {aq:Int} {au aw:ByteArray} {ax ay:Int} {az:Option Addr} {a6:List D} {a7:Nat} {a8:Int} {ba:Option Addr} {bb:List D} {bc:Nat} {bd:Option Addr} {bg:List D} {bh:Nat} {ae:Int} {ah ai:ByteArray} {aj:Int} {O U Y aa:D} {I ak:Nat} {r4:List D} {q4:Nat} {r5:List D} {q5:Nat} {N:Nat} (h :
Br (decide (ac<bi)) ((0<=ac/\ac<(ao.length:Int))/\∃ s,List.getD ao ac.toNat default=D.t s/\(al=r4.length/\ab=q4)/\∀ a,ApA a r4
 -> ∀ d,N<=d->vN d [a]->ACalls prog 174 [.bool] [.sv a 0 r4 ab,.str s] d (λb a=>d<=a->Br b (w2 (I=r5.length/\ak=q5) (∀ b d,a
 <= d->Fresh N0 d b [D.ag r5]->(al=r4.length/\ab=q4)/\∀ a,ApA a r4->∀ e,d<=e->vN e [a]->ACalls prog 257 [.pk,.i,.str,.str,.i,
 .dc,.dc,.dc,.dc,.row 35 9] [.dg 9 (D.ag [D.j ae,D.t ah,D.t ai,D.j aj,O,U,Y,aa,D.sl b 9 r5 q5]),.j n8,.str s,.sv a 0 r4
 ab,.str J] e (λn b c d x f g h i j k=>e<=k->Off [a] x/\Off [a] f/\Off [a] g/\Off [a] h/\Off [a] (D.ag i) /\
 (Bel k (D.ag i)->ya Q N0 n8 al ab a75 ao c75 bi (IntKind.i64.wrap (ac+1)) J y1 aq au aw ax ay az a6 a7 a8 ba
 bb bc bd bg bh n b c d x f g h i.length j r4 q4 i j k)))) (ya Q N0 n8 al ab a75 ao c75 bi (IntKind.i64.wrap (ac +
 1)) J y1 aq au aw ax ay az a6 a7 a8 ba bb bc bd bg bh ae ah ai aj O U Y aa I ak r4 q4 r5 q5 a))) ((0 <=
 n8/\n8<(I:Int)/\(0+n8.toNat:Nat)<r5.length)/\(0+n8.toNat:Nat)<r5.length/\kA 9 232 [.dg 9 (List.getD r5 (0+n8.toNat:Nat) default),
 .str J,.dg 9 y1] N (λa b=>(0<=n8/\n8<(I:Int)/\(0+n8.toNat:Nat)<r5.length)/\(0+n8.toNat:Nat)<r5.length/\w5 (I=(List.set
 r5 (0+n8.toNat:Nat) a).length/\ak=q5) (∀ c d,b<=d->Fresh N0 d c [D.ag (List.set r5 (0+n8.toNat:Nat) a),O,U,Y,aa]->∀
 b,d<=b->Q (D.ag [D.j ae,D.t ah,D.t ai,D.j aj,O,U,Y,aa,D.sl c 9 (List.set r5 (0+n8.toNat:Nat) a) q5]) b)))):ya Q N0 n8 al ab a75 ao c75 bi ac J y1 aq au aw ax ay az a6 a7 a8 ba bb bc bd bg bh ae ah ai aj O U Y aa I ak r4 q4 r5 q5 N:=
  hE uA h
theorem qz (N:Nat) (O:D) (a1:Addr) (I:D) (a2:Addr) (J:D) (Q:QT [.ag 9]) (h :
Bel N O->∃ s,I=D.t s/\kA 9 232 [.dg 9 O,.str s,.dg 9 J] N (λx a=>uP a (Q x))):ACalls prog 255 [.ag 9] [.dg 9 O,.pd a1 0 I,.pd a2 9 J] N Q:=
 eE Am h
end Go.Proofs.YtlaniepnglheoaaGreatDoor
set_option maxRecDepth 100000
namespace Go.Proofs.YtlaniepnglheoaaGreatDoor
open Go Go.Proofs Go.Proofs.Tryz
def p9:Hint:=⟨[hc 5 [1,2,4,5,15,16,17]],[],[(11,[en 0,en 1,en 2,en 3,en 4,en 5,en 6,en 7,eh 8,en 9,en 10,en 11,en 12,en 13])]⟩
def KE:Hint:=⟨[],[],[(6,hs 8 [ec 1 [25]]),(11,hs 10 [ec 7 [42]]),(15,[en 0,en 1,en 2,en 3,en 4,en 5,en 6,en 7,en 8,en 9,ec 10 [53,59],eh 11,en 12]),(17,[en 0,en 1,en 2,en 3,en 4,en 5,en 6,en 8,en 9,en 10,en 11,en 12,en 13,ec 7 [66,69],ec 14 [70,76],eh 15,en 16]),(19,[en 0,en 1,en 2,en 3,en 4,en 5,en 6,ec 7 [83,86],eh 8,en 9]),(21,hs 8 [ec 1 [91]]),(25,hs 8 [ec 1 [100]])]⟩
def Aq:Hint:=⟨[hc 11 [1,2,3,6,54,55,56]],[],[(3,hs 3 [ec 1 [31]]),(4,hs 9 [ec 2 [36]]),(5,hs 8 [ec 3 [40]]),(6,hs 8 [ec 1 [46]]),(13,[en 0,en 1,en 2,en 4,en 10,ec 3 [63],ec 5 [62],en 6,en 7,en 8,en 9,eh 11,en 12,en 13]),(15,hs 4 [ec 1 [72]])]⟩
def Ep:Hint:=⟨[hc 7 [1,2,32,33]],[],[(1,hs 2 [ec 1 [11]]),(4,hs 13 [ec 4 [21]]),(5,hs 7 [ec 3 [26]]),(6,hs 3 [ec 1 [31]]),(9,hs 6 [ec 5 [40]]),(10,hs 12 [ec 5 [47]]),(11,hs 4 [ec 1 [51]]),(15,hs 6 [ec 1 [61]])]⟩
def Ei:Hint:=⟨[],[],[(1,hs 8 [ec 5 [8]]),(3,hs 7 [ec 4 [16]])]⟩
def IJ:Hint:=⟨[],[],[(1,hs 13 [ec 10 [13]]),(3,hs 6 [ec 1 [18],ec 2 [19],ec 3 [20]])]⟩
def Ej:Hint:=⟨[],[],[(6,hs 3 [ec 1 [10]]),(8,hs 10 [ec 1 [14],ec 7 [20]])]⟩
def Ah:Hint:=⟨[],[],[(1,hs 9 [ec 2 [5],ec 6 [9]])]⟩
def p8:Hint:=⟨[hc 4 [1,2,3,15,16,17]],[],[(1,hs 5 [ec 3 [10]]),(6,[en 0,en 1,en 2,en 4,ec 3 [22],ec 5 [21],en 6])]⟩
def yn (Q:QT [.ag 9,.bool])(N0:Nat)(n4:Int)(m5 c5:Nat)(aq:Option Addr)(au:List D)(aw:Nat)(ax ay:Int)(y0:D)(I:Int)(J O:ByteArray)(U Y:Int)(aa:Option Addr)(ab:List D)(ac:Nat)(ae:Int)(ah:Option Addr)(ai:List D)(aj:Nat)(ak:Option Addr)(al:List D)(ao:Nat)(r2:List D)(q2:Nat)(N:Nat):Prop:=AT prog 231 [.ag 9,.bool] Q N0 .ord (zF prog 231 5) ⟨an 1 (.pb 0 0 0 0::.pb 1 0 0 0::an 1 (.int .i64 n4::.sb 2 0 0 m5 c5::an 9 (.sv aq 9 au aw::.int .i64 ax::.int .i64 ay::an 33 []))),[.vd y0 9,.var [.int .i64 I,.str J,.str O,.int .i64 U,.int .i64 Y,.sv aa 2 ab ac,.int .i64 ae,.sv ah 2 ai aj,.sv ak 9 al ao],.arr 3 0 r2 q2],N,none⟩
def uS (Q:QT [.ag 9,.int .i64])(N0:Nat)(aq au:Int)(y0:D)(I:Int)(J O:ByteArray)(U Y:Int)(aa:Option Addr)(ab:List D)(ac:Nat)(ae:Int)(ah:Option Addr)(ai:List D)(aj:Nat)(ak:Option Addr)(al:List D)(ao:Nat)(N:Nat):Prop:=AT prog 125 [.ag 9,.int .i64] Q N0 .ord (zF prog 125 7) ⟨an 1 (.pb 0 0 0 0::.pb 1 0 0 0::an 29 (.int .i64 aq::.int .i64 au::an 31 [])),[.vd y0 9,.var [.int .i64 I,.str J,.str O,.int .i64 U,.int .i64 Y,.sv aa 2 ab ac,.int .i64 ae,.sv ah 2 ai aj,.sv ak 9 al ao]],N,none⟩
def yo (Q:QT [.ag 9,.int .i64,.bool])(N0:Nat)(n1:Int)(aq:Option Addr)(au:List D)(aw:Nat)(ax ay:Int)(y0:D)(I:Int)(J O:ByteArray)(U Y:Int)(aa:Option Addr)(ab:List D)(ac:Nat)(ae:Int)(ah:Option Addr)(ai:List D)(aj:Nat)(ak:Option Addr)(al:List D)(ao:Nat)(N:Nat):Prop:=AT prog 188 [.ag 9,.int .i64,.bool] Q N0 .ord (zF prog 188 11) ⟨an 1 (.int .i64 n1::.fn 125 []::.pb 0 0 0 0::an 2 (.pb 1 0 0 0::an 47 (.sv aq 9 au aw::.int .i64 ax::.int .i64 ay::an 26 []))),[.vd y0 9,.var [.int .i64 I,.str J,.str O,.int .i64 U,.int .i64 Y,.sv aa 2 ab ac,.int .i64 ae,.sv ah 2 ai aj,.sv ak 9 al ao]],N,none⟩
def wH (Q:QT [.bool])(N0:Nat)(n1:Int)(I:Option Addr)(J:List D)(O:Nat)(U Y:Int)(y0:D)(N:Nat):Prop:=AT prog 118 [.bool] Q N0 .ord (zF prog 118 4) ⟨an 1 (.int .i64 n1::.fn 229 []::.pb 0 0 0 0::an 11 (.sv I 9 J O::.int .i64 U::.int .i64 Y::an 11 [])),[.vd y0 9],N,none⟩
theorem GN (N:Nat) (s0:ByteArray) (Q:QT [.bool]) (h :
Br (ByteArray.toList s0==ByteArray.toList (bytes [38])) (uP N (Q true)) (Br (ByteArray.toList s0==ByteArray.toList (bytes [124])) (uP N (Q true)) (uP N
 (Q (ByteArray.toList s0==ByteArray.toList (bytes [33])))))):ACalls prog 251 [.bool] [PV.str s0] N Q:=
  eE H0 h
theorem EE (N:Nat) (s0:ByteArray) (Q:QT [.bool]) (h :
kB 251 [.str s0] N (fun b a=>Br b (uP a (Q true)) (Br (ByteArray.toList s0==ByteArray.toList (bytes [61])) (uP a (Q true)) (uP a (Q
 (ByteArray.toList s0==ByteArray.toList (bytes [60]))))))):ACalls prog 253 [.bool] [PV.str s0] N Q:=
  eE H0 h
theorem HE (N:Nat) (I:D) (Q:QT [.ag 9,.bool]) (h :
Bel N I->∃ s,(I.cell 1)=D.t s/\kB 251 [.str s] N (λb d=>Br b (∃ a b,∃ c:Nat,(I.cell 8)=D.sl a 9 b c/\yn Q N 3 2 2 a b
 c (b.length:Int) 0 I 0 b0 b0 0 0 none [] 0 0 none [] 0 none [] 0 [D.j 0,D.j 0] 2 d) (∃ a b,∃ c:Nat,(I.cell 8)=D.sl a 9 b c /\
 yn Q N 2 2 2 a b c (b.length:Int) 0 I 0 b0 b0 0 0 none [] 0 0 none [] 0 none [] 0 [D.j 0,D.j 0] 2 d))):ACalls prog 231 [.ag 9,.bool] [PV.dg 9 I] N Q:=
  eE p9 h
theorem De (N:Nat) (n0:Int) (Q:QT [.ag 9]) (h :
∀ a,N<=a->Q (D.ag [D.j 2,D.t b0,D.t b0,D.j n0,D.j 0,D.sl none 2 [] 0,D.j 0,D.sl none 2 [] 0,D.sl none 9 [] 0]) a):ACalls prog 110 [.ag 9] [PV.int .i64 n0] N Q:=
  eE H0 h
theorem t8 (N:Nat) (n0:Int) (b1:Bool) (Q:QT [.ag 9]) (h :
Br b1 (∀ a,N<=a->Q (D.ag [D.j 3,D.t b0,D.t b0,D.j n0,D.j 0,D.sl none 2 [] 0,D.j 0,D.sl none 2 [] 0,D.sl none 9 [] 0]) a) (kA 9 110 [.j n0] N
 (fun x a=>uP a (Q x)))):ACalls prog 105 [.ag 9] [PV.int .i64 n0,PV.bool b1] N Q:=
  eE H0 h
theorem G6 (N:Nat) (s0:ByteArray) (n1 n2:Int) (Q:QT [.int .i64,.bool]) (h :
kB 236 [.j n1] N (fun b a=>Br (!b) (uP a (Q 0 false)) (kB 236 [.j n2] a (fun a b=>Br (!a) (uP b (Q 0 false)) (Br (ByteArray.toList s0 ==
 ByteArray.toList (bytes [43])) (kI 271 [.j (IntKind.i64.wrap (n1+n2))] b (fun n a=>uP a (Q n true))) (Br (ByteArray.toList s0==ByteArray.toList (bytes
 [45])) (kI 271 [.j (IntKind.i64.wrap (n1 - n2))] b (fun a b=>uP b (Q a true))) (Br (ByteArray.toList s0==ByteArray.toList (bytes [42])) (kI 271 [.j
 (IntKind.i64.wrap (n1*n2))] b (fun a b=>uP b (Q a true))) (Br (ByteArray.toList s0==ByteArray.toList (bytes [61])) (kI 272 [.bool (n1==n2)] b
 (fun a b=>uP b (Q a true))) (Br (ByteArray.toList s0==ByteArray.toList (bytes [60])) (kI 272 [.bool (decide (n1<n2))] b (fun a b=>uP b (Q
 a true))) (Br (ByteArray.toList s0==ByteArray.toList (bytes [38])) (Br (n1==1) (kI 272 [.bool (n2==1)] b (fun a b=>uP b (Q a true))) (kI 272
 [.bool false] b (fun a b=>uP b (Q a true)))) (Br (ByteArray.toList s0==ByteArray.toList (bytes [124])) (Br (n1==1) (kI 272 [.bool true] b (fun
 a b=>uP b (Q a true))) (kI 272 [.bool (n2==1)] b (fun a b=>uP b (Q a true)))) (Br (ByteArray.toList s0==ByteArray.toList (bytes [33]))
 (kI 272 [.bool (n1==0)] b (fun a b=>uP b (Q a true))) (uP b (Q 0 false)))))))))))))):ACalls prog 252 [.int .i64,.bool] [PV.str s0,PV.int .i64 n1,PV.int .i64 n2] N Q:=
  eE H0 h
theorem Ja (N:Nat) (n0:Int) (Q:QT [.int .i64]) (h :
(10007:Int)≠(0:Int)/\(10007:Int)≠(0:Int)/\∀ a,N<=a->Q (Int.tmod (IntKind.i64.wrap (Int.tmod n0 10007+10007)) 10007) a):ACalls prog 271 [.int .i64] [PV.int .i64 n0] N Q:=
 eE H0 h
theorem PC (N:Nat) (b0:Bool) (Q:QT [.int .i64]) (h :
Br b0 (uP N (Q 1)) (uP N (Q 0))):ACalls prog 272 [.int .i64] [PV.bool b0] N Q:=
 eE H0 h
theorem LT (N:Nat) (I:D) (Q:QT [.ag 9,.int .i64]) (h :
Bel N I->∃ a d,∃ c:Nat,(I.cell 8)=D.sl a 9 d c/\Br (decide ((d.length:Int)>0)) (∃ a c,∃ d:Nat,(I.cell 8)=D.sl a 9 c d
 /\ ((0:Int)<=(0:Int)/\0<(c.length:Int))/\∃ n:Int,(I.cell 0)=D.j n/\Br (n==4) (kAB 9 231 [.dg 9 I] N (λx b a=>Br b (uP a (Q x 1))
 (uP a (Q I 0)))) (Br (n==5) (∃ a:Int,D.cell (List.getD c 0 default) 0=D.j a/\Br (a==3) (∃ a b,∃ d:Nat,(I.cell 8)=D.sl a 9
 b d/\∃ a:Int,D.cell (List.getD c 0 default) 3=D.j a/\(0<=IntKind.i64.wrap (2 - a)/\IntKind.i64.wrap (2 - a)<(b.length:Int))/\∀
 c,N<=c->ACalls prog 123 [.pk,.i,.str,.str,.i,.dc,.dc,.dc,.dc,.row 35 9] [.dg 9 (List.getD b (IntKind.i64.wrap (2 - a)).toNat default)] c
 (λa s b d e f g h i j k=>c<=k->Bel k (D.ag i)->w2 (i.length=i.length/\j=j) (∀ c l,k<=l->Fresh N l c
 [D.ag i,e,f,g,h]->uP l (Q (D.ag [D.j a,D.t s,D.t b,D.j d,e,f,g,h,D.sl c 9 i j]) 2)))) (uP N (Q I 0))) (Br (n ==
 7) (∃ a:Int,D.cell (List.getD c 0 default) 0=D.j a/\Br (a==6) (∃ a b,∃ d:Nat,D.cell (List.getD c 0 default) 8=D.sl a 9 b
 d/\((0:Int)<=(0:Int)/\0<(b.length:Int))/\∃ a,D.cell (List.getD c 0 default) 1=D.t a/\∃ c d,∃ e:Nat,(I.cell 8)=D.sl c
 9 d e/\((0:Int)<=(1:Int)/\1<(d.length:Int))/\kA 9 232 [.dg 9 (List.getD b 0 default),.str a,.dg 9 (List.getD d 1 default)] N (fun
 a b=>uP b (Q a 3))) (Br (a==9) (∃ a b,∃ d:Nat,D.cell (List.getD c 0 default) 8=D.sl a 9 b d/\((0:Int)<=(0:Int)/\0 <
 (b.length:Int))/\∃ a,D.cell (List.getD c 0 default) 1=D.t a/\∃ d,D.cell (List.getD c 0 default) 2=D.t d/\∃ e f,∃ g:Nat,
 (I.cell 8)=D.sl e 9 f g/\((0:Int)<=(1:Int)/\1<(f.length:Int))/\kA 9 232 [.dg 9 (List.getD b 0 default),.str a,.dg 9 (List.getD
 c 0 default)] N (λa b=>kA 9 232 [.dg 9 a,.str d,.dg 9 (List.getD f 1 default)] b (λa b=>uP b (Q a 4)))) (uP N (Q I 0))))
 (Br (n==8) (∃ a b,∃ d:Nat,(I.cell 8)=D.sl a 9 b d/\((0:Int)<=(1:Int)/\1<(b.length:Int))/\∃ a,(I.cell 1)=D.t a/\kA
 9 232 [.dg 9 (List.getD b 1 default),.str a,.dg 9 (List.getD c 0 default)] N (λa b=>uP b (Q a 5))) (Br (n==12) (kAB 9 230 [.dg 9
 (List.getD c 0 default)] N (λa b c=>Br b (uP c (Q a 7)) (uP c (Q I 0)))) (Br (n==13) (kAB 9 233 [.dg 9 (List.getD c 0 default)] N
 (λa b c=>Br b (uP c (Q a 8)) (uP c (Q I 0)))) (uP N (Q I 0)))))))) (∃ a:Int,(I.cell 0)=D.j a/\Br (a==4) (kAB 9 231 [.dg 9
 I] N (λa b c=>Br b (uP c (Q a 1)) (uP c (Q I 0)))) (Br (a==5) (uP N (Q I 0)) (Br (a==7) (uP N (Q I 0)) (Br (a==8) (∃ a
 b,∃ c:Nat,(I.cell 8)=D.sl a 9 b c/\((0:Int)<=(1:Int)/\1<(b.length:Int))/\∃ a,(I.cell 1)=D.t a/\kA 9 232 [.dg 9
 (List.getD b 1 default),.str a,.dg 9 (D.ag [D.j 0,D.t b0,D.t b0,D.j 0,D.j 0,D.sl none 2 [] 0,D.j 0,D.sl none 2 [] 0,D.sl none 9 [] 0])] N (fun
 a b=>uP b (Q a 5))) (Br (a==12) (kAB 9 230 [.dg 9 (D.ag [D.j 0,D.t b0,D.t b0,D.j 0,D.j 0,D.sl none 2 [] 0,D.j 0,D.sl none 2 [] 0,D.sl
 none 9 [] 0])] N (λa b c=>Br b (uP c (Q a 7)) (uP c (Q I 0)))) (Br (a==13) (kAB 9 233 [.dg 9 (D.ag [D.j 0,D.t b0,D.t b0,D.j 0,D.j
 0,D.sl none 2 [] 0,D.j 0,D.sl none 2 [] 0,D.sl none 9 [] 0])] N (λa b c=>Br b (uP c (Q a 8)) (uP c (Q I 0)))) (uP N (Q I 0))))))))):ACalls prog 191 [.ag 9,.int .i64] [PV.dg 9 I] N Q:=
  eE KE h
theorem GP (N:Nat) (I:D) (Q:QT [.int .i64]) (h :
Bel N I->∃ n:Int,(I.cell 0)=D.j n/\Br (n==4) (∃ a b,∃ c:Nat,(I.cell 8)=D.sl a 9 b c/\uP N (Q (b.length:Int))) (Br (n==7) (∃ a
 b,∃ c:Nat,(I.cell 8)=D.sl a 9 b c/\uP N (Q (b.length:Int))) (Br (n==5) (uP N (Q 1)) (Br (n==8) (uP N (Q 1)) (Br (n==12) (uP N (Q
 1)) (Br (n==13) (uP N (Q 1)) (uP N (Q 0)))))))):ACalls prog 190 [.int .i64] [PV.dg 9 I] N Q:=
  eE H0 h
theorem Mr (N:Nat) (I:D) (Q:QT [.ag 9,.int .i64]) (h :
Bel N I->kB 124 [.dg 9 I] N (λb d=>Br b (uP d (Q I 0)) (∃ n:Int,(I.cell 0)=D.j n/\Br (n==10) (∃ a b,∃ c:Nat,(I.cell 8)=D.sl a 9
 b c/\((0:Int)<=(0:Int)/\0<(b.length:Int))/\∀ a,d<=a->ACalls prog 188 [.ag 9,.i,.bool] [.dg 9 (List.getD b 0 default),.j 1,.fn 125 []]
 a (λx b _ c=>a<=c->Bel c x->(1=([x]).length/\1=1)/\∀ a,ApA a [x]->Off [a] I->∀ d,c<=d->vN d [a]->ACalls prog 189
 [.pk,.i,.str,.str,.i,.dc,.dc,.dc,.dc,Sh.bk 1] [.dg 9 I,.sv a 9 [x] 1] d (λc s e f g h i j k l=>d<=l->k=D.sl a 9
 [x] 1/\Off [a] g/\Off [a] h/\Off [a] i/\Off [a] j/\w3 (1=([x]).length/\1=1) (∀ a d,l<=d->Fresh N d a [D.ag [x],g,h,
 i,j]->uP d (Q (D.ag [D.j c,D.t s,D.t e,D.j f,g,h,i,j,D.sl a 9 [x] 1]) b))))) (kI 190 [.dg 9 I] d (λa b=>
 uS Q N a 0 I 0 b0 b0 0 0 none [] 0 0 none [] 0 none [] 0 b))))):ACalls prog 125 [.ag 9,.int .i64] [PV.dg 9 I] N Q:=
  eE Ep h
theorem GF (N:Nat) (x0:D) (Q:QT [.ag 9,.bool]) (h :
Bel N x0->∃ n:Int,(x0.cell 0)=D.j n/\Br (bne n 10) (∀ a,N<=a->Q (D.ag [D.j 0,D.t b0,D.t b0,D.j 0,D.j 0,D.sl none 2 [] 0,D.j 0,D.sl none
 2 [] 0,D.sl none 9 [] 0]) false a) (kB 124 [.dg 9 x0] N (fun b d=>Br (!b) (∀ a,d<=a->Q (D.ag [D.j 0,D.t b0,D.t b0,D.j 0,D.j 0,D.sl none 2 [] 0,
 D.j 0,D.sl none 2 [] 0,D.sl none 9 [] 0]) false a) (∃ a b,∃ c:Nat,(x0.cell 8)=D.sl a 9 b c/\((0:Int)<=(0:Int)/\0<(b.length:Int))/\∀ a,
 d<=a->ACalls prog 123 [.pk,.i,.str,.str,.i,.dc,.dc,.dc,.dc,.row 35 9] [.dg 9 (List.getD b 0 default)] a (fun b s c d x e f g h i
 j=>a<=j->Bel j (D.ag h)->w2 (h.length=h.length/\i=i) (∀ a k,j<=k->Fresh N k a [D.ag h,x,e,f,g]->uP k (Q
 (D.ag [D.j b,D.t s,D.t c,D.j d,x,e,f,g,D.sl a 9 h i]) true))))))):ACalls prog 230 [.ag 9,.bool] [PV.dg 9 x0] N Q:=
  eE Ei h
theorem JZ (N:Nat) (I:D) (Q:QT [.ag 9,.bool]) (h :
Bel N I->∃ n:Int,(I.cell 0)=D.j n/\Br (bne n 2) (∃ d:Int,(I.cell 0)=D.j d/\Br (bne d 3) (∀ a,N<=a->Q (D.ag [D.j 0,D.t b0,D.t
 b0,D.j 0,D.j 0,D.sl none 2 [] 0,D.j 0,D.sl none 2 [] 0,D.sl none 9 [] 0]) false a) (kB 64 [.dg 9 I] N (λb d=>Br (!b) (∀ a,d<=a->Q (D.ag [D.j
 0,D.t b0,D.t b0,D.j 0,D.j 0,D.sl none 2 [] 0,D.j 0,D.sl none 2 [] 0,D.sl none 9 [] 0]) false a) (∀ b,d<=b->ACalls prog 123 [.pk,.i,.str,.str,
 .i,.dc,.dc,.dc,.dc,.row 35 9] [.dg 9 I] b (λc s d e x f g h i j k=>b<=k->Bel k (D.ag i)->(i.length=i.length/\j=j)/\∀ a
 b,k<=b->Fresh N b a [D.ag i]->(1=([D.ag [D.j c,D.t s,D.t d,D.j e,x,f,g,h,D.sl a 9 i j]]).length/\1=1)/\∀ k l,b<=l ->
 Fresh N l k [D.ag [D.ag [D.j c,D.t s,D.t d,D.j e,x,f,g,h,D.sl a 9 i j]]]->kA 9 258 [.j 10,.sv k 9 [D.ag [D.j c,D.t s,D.t d,
 D.j e,x,f,g,h,D.sl a 9 i j]] 1] l (λa b=>uP b (Q a true))))))) (kB 64 [.dg 9 I] N (λa b=>Br (!a) (∀ a,b<=a->Q
 (D.ag [D.j 0,D.t b0,D.t b0,D.j 0,D.j 0,D.sl none 2 [] 0,D.j 0,D.sl none 2 [] 0,D.sl none 9 [] 0]) false a) (∀ a,b<=a->ACalls prog 123 [.pk,
 .i,.str,.str,.i,.dc,.dc,.dc,.dc,.row 35 9] [.dg 9 I] a (λb c d e f g h i j k l=>a<=l->Bel l (D.ag j) ->
 (j.length=j.length/\k=k)/\∀ a m,l<=m->Fresh N m a [D.ag j]->(1=([D.ag [D.j b,D.t c,D.t d,D.j e,f,g,h,
 i,D.sl a 9 j k]]).length/\1=1)/\∀ l n,m<=n->Fresh N n l [D.ag [D.ag [D.j b,D.t c,D.t d,D.j e,f,g,h,i,D.sl
 a 9 j k]]]->kA 9 258 [.j 10,.sv l 9 [D.ag [D.j b,D.t c,D.t d,D.j e,f,g,h,i,D.sl a 9 j k]] 1] n (λa b=>uP
 b (Q a true))))))):ACalls prog 233 [.ag 9,.bool] [PV.dg 9 I] N Q:=
  eE IJ h
theorem GH (N:Nat) (x0:D) (Q:QT [.bool]) (h :
Bel N x0->∃ n:Int,(x0.cell 0)=D.j n/\Br (n==2) (kB 64 [.dg 9 x0] N (fun b a=>uP a (Q b))) (Br (n==3) (kB 64 [.dg 9 x0] N (fun a b=>uP
 b (Q a))) (Br (n==6) (kB 64 [.dg 9 x0] N (fun a b=>uP b (Q a))) (Br (n==9) (kB 64 [.dg 9 x0] N (fun a b=>uP b (Q a))) (Br (n==10) (kB
 64 [.dg 9 x0] N (fun b d=>Br b (∃ a b,∃ c:Nat,(x0.cell 8)=D.sl a 9 b c/\((0:Int)<=(0:Int)/\0<(b.length:Int))/\kB 187 [.dg 9
 (List.getD b 0 default),.j 1] d (fun a b=>uP b (Q a))) (uP d (Q false)))) (uP N (Q false))))))):ACalls prog 124 [.bool] [PV.dg 9 x0] N Q:=
  eE Ej h
theorem B4 (N:Nat) (I:D) (n1:Int) (Q:QT [.bool]) (h :
Bel N I->kB 57 [.dg 9 I,.j n1] N (λb a=>Br b (kB 118 [.dg 9 I,.j n1,.fn 229 []] a (λa b=>uP b (Q a))) (uP a (Q false)))):ACalls prog 187 [.bool] [PV.dg 9 I,PV.int .i64 n1] N Q:=
 eE Ah h
theorem pu (N:Nat) (I:D) (n1:Int) (Q:QT [.bool]) (h :
Bel N I->∃ n:Int,(I.cell 0)=D.j n/\Br (bne n 11) (uP N (Q true)) (uP N (Q (bne n1 1)))):ACalls prog 229 [.bool] [PV.dg 9 I,PV.int .i64 n1] N Q:=
 eE H0 h
theorem rX {Q:QT [.ag 9,.bool]} {N0:Nat} {n4:Int} {m5 c5:Nat} {ay:Option Addr} {J:List D} {az:Nat} {ax I:Int} {y0:D} {U:Int} {Y aa:ByteArray} {ab ac:Int} {ae:Option Addr} {ah:List D} {ai:Nat} {aj:Int} {ak:Option Addr} {al:List D} {ao:Nat} {aq:Option Addr} {au:List D} {aw:Nat} {O:List D} {q2:Nat} {N:Nat} (h :
Br (decide (I<ax)) ((0<=I/\I<(J.length:Int))/\∃ n:Int,D.cell (List.getD J I.toNat default) 0=D.j n/\Br (bne n n4) (∀ a,N<=a
 -> Q (D.ag [D.j 0,D.t b0,D.t b0,D.j 0,D.j 0,D.sl none 2 [] 0,D.j 0,D.sl none 2 [] 0,D.sl none 9 [] 0]) false a) (∃ a:Int,D.cell (List.getD J
 I.toNat default) 3=D.j a/\(0<=I/\I<(m5:Int)/\(0+I.toNat:Nat)<O.length)/\(0+I.toNat:Nat)<O.length/\yn Q N0 n4
 m5 c5 ay J az ax (IntKind.i64.wrap (I+1)) y0 U Y aa ab ac ae ah ai aj ak al ao aq au aw (List.set O (0+I.toNat :
 Nat) (D.j a)) q2 N)) (∃ s,(y0.cell 1)=D.t s/\((0:Int)<=(0:Int)/\0<(m5:Int)/\0<O.length)/\0<O.length/\∃ a:Int,List.getD O 0
 default=D.j a/\((0:Int)<=(1:Int)/\1<(m5:Int)/\1<O.length)/\1<O.length/\∃ c:Int,List.getD O 1 default=D.j c/\kIB 252 [.str s,
 .j a,.j c] N (λa b c=>∃ d,(y0.cell 1)=D.t d/\kB 253 [.str d] c (λc d=>kA 9 105 [.j a,.bool c] d (λx a=>uP a (Q x
 b)))))):yn Q N0 n4 m5 c5 ay J az ax I y0 U Y aa ab ac ae ah ai aj ak al ao aq au aw O q2 N:=
  hE p9 h
theorem EG (N:Nat) (I:D) (n1:Int) (Q:QT [.ag 9,.int .i64,.bool]) (h :
Bel N I->∃ n:Int,(I.cell 0)=D.j n/\Br (n==11) (Br (n1==1) (∃ a d,∃ c:Nat,(I.cell 8)=D.sl a 9 d c/\((0:Int)<=(0:Int)/\0 <
 (d.length:Int))/\kB 124 [.dg 9 (List.getD d 0 default)] N (λb a=>Br (!b) (∀ b,a<=b->ACalls prog 125 [.ag 9,.i] [.dg 9 (List.getD d 0
 default)] b (λx a c=>b<=c->Bel c x->(1=([x]).length/\1=1)/\∀ b,ApA b [x]->Off [b] I->∀ d,c<=d->vN d [b]->ACalls prog
 189 [.pk,.i,.str,.str,.i,.dc,.dc,.dc,.dc,Sh.bk 1] [.dg 9 I,.sv b 9 [x] 1] d (λc s e f g h i j k l=>d<=l->k=D.sl b
 9 [x] 1/\Off [b] g/\Off [b] h/\Off [b] i/\Off [b] j/\w3 (1=([x]).length/\1=1) (∀ b d,l<=d->Fresh N d b [D.ag [x],g,h,
 i,j]->uP d (Q (D.ag [D.j c,D.t s,D.t e,D.j f,g,h,i,j,D.sl b 9 [x] 1]) a true))))) (kAB 9 230 [.dg 9 (List.getD d 0 default)]
 a (λa b c=>Br b (uP c (Q a 6 true)) (uP c (Q I 0 true)))))) (∃ a b,∃ c:Nat,(I.cell 8)=D.sl a 9 b c/\yo
 Q N n1 a b c (b.length:Int) 0 I 0 b0 b0 0 0 none [] 0 0 none [] 0 none [] 0 N)) (∃ a b,∃ c:Nat,(I.cell 8)=D.sl a 9 b c /\
 yo Q N n1 a b c (b.length:Int) 0 I 0 b0 b0 0 0 none [] 0 0 none [] 0 none [] 0 N)):ACalls prog 188 [.ag 9,.int .i64,.bool] [.dg 9 I,.int .i64 n1,.fn 125 []] N Q:=
  eE Aq h
theorem Ba {Q:QT [.ag 9,.int .i64]} {N0:Nat} {au I:Int} {y0:D} {J:Int} {O U:ByteArray} {Y aa:Int} {ab:Option Addr} {ac:List D} {ae:Nat} {ah:Int} {ai:Option Addr} {aj:List D} {ak:Nat} {al:Option Addr} {ao:List D} {aq:Nat} {N:Nat} (h :
Br (decide (I<au)) (∃ a d,∃ c:Nat,(y0.cell 8)=D.sl a 9 d c/\(0<=I/\I<(d.length:Int))/\kB 124 [.dg 9 (List.getD d I.toNat
 default)] N (λb a=>Br b (uS Q N0 au (IntKind.i64.wrap (I+1)) y0 J O U Y aa ab ac ae ah ai aj ak al ao aq
 a) (∃ b c,∃ d:Nat,(y0.cell 8)=D.sl b 9 c d/\(0<=I/\I<(c.length:Int))/\∀ b,a<=b->ACalls prog 125 [.ag 9,.i] [.dg 9
 (List.getD c I.toNat default)] b (λx n a=>b<=a->Bel a x->∀ b,a<=b->ACalls prog 123 [.pk,.i,.str,.str,.i,.dc,.dc,.dc,.dc,.row 35
 9] [.dg 9 y0] b (λa s c d e f g h i j k=>b<=k->Bel k (D.ag i)->(0<=I/\I<(i.length:Int)/\(0+I.toNat:Nat) <
 i.length)/\(0+I.toNat:Nat)<i.length/\w5 (i.length=(List.set i (0+I.toNat:Nat) x).length/\j=j) (∀ b l,k<=l->Fresh N0
 l b [D.ag (List.set i (0+I.toNat:Nat) x),e,f,g,h]->∀ k,l<=k->Q (D.ag [D.j a,D.t s,D.t c,D.j d,e,f,g,h,D.sl
 b 9 (List.set i (0+I.toNat:Nat) x) j]) n k)))))) (∀ a,N<=a->ACalls prog 191 [.ag 9,.i] [.dg 9 y0] a (λb c d=>a<=d->Bel d
 b->uP d (Q b c))) ):uS Q N0 au I y0 J O U Y aa ab ac ae ah ai aj ak al ao aq N:=
  hE Ep h
theorem DJ (N:Nat) (I:D) (n1:Int) (Q:QT [.bool]) (h :
Bel N I->kB 229 [.dg 9 I,.j n1] N (λb d=>Br (!b) (uP d (Q false)) (∃ a b,∃ c:Nat,(I.cell 8)=D.sl a 9 b c/\wH Q N n1 a b
 c (b.length:Int) 0 I d))):ACalls prog 118 [.bool] [.dg 9 I,.int .i64 n1,.fn 229 []] N Q:=
  eE p8 h
theorem rZ {Q:QT [.ag 9,.int .i64,.bool]} {N0:Nat} {n1:Int} {ax:Option Addr} {J:List D} {ay:Nat} {aw I:Int} {y0:D} {O:Int} {U Y:ByteArray} {aa ab:Int} {ac:Option Addr} {ae:List D} {ah:Nat} {ai:Int} {aj:Option Addr} {ak:List D} {al:Nat} {ao:Option Addr} {aq:List D} {au:Nat} {N:Nat} (h :
Br (decide (I<aw)) ((0<=I/\I<(J.length:Int))/\kI 175 [.dg 9 y0,.j n1] N (λn d=>∀ e,d<=e->ACalls prog 188 [.ag 9,.i,.bool]
 [.dg 9 (List.getD J I.toNat default),.j n,.fn 125 []] e (λx b d f=>e<=f->Bel f x->Br d (∀ d,f<=d->ACalls prog 123 [.pk,.i,.str,
 .str,.i,.dc,.dc,.dc,.dc,.row 35 9] [.dg 9 y0] d (λc s e f g h i j k l m=>d<=m->Bel m (D.ag k)->(0<=I/\I<(k.length :
 Int)/\(0+I.toNat:Nat)<k.length)/\(0+I.toNat:Nat)<k.length/\w5 (k.length=(List.set k (0+I.toNat:Nat) x).length/\l=l) (∀ a d,
 m<=d->Fresh N0 d a [D.ag (List.set k (0+I.toNat:Nat) x),g,h,i,j]->∀ m,d<=m->Q (D.ag [D.j c,D.t s,D.t e,D.j f,g,h,
 i,j,D.sl a 9 (List.set k (0+I.toNat:Nat) x) l]) b true m))) (yo Q N0 n1 ax J ay aw (IntKind.i64.wrap (I+1)) y0 O U
 Y aa ab ac ae ah ai aj ak al ao aq au f)))) (uP N (Q y0 0 false))):yo Q N0 n1 ax J ay aw I y0 O U Y aa ab ac ae ah ai aj ak al ao aq au N:=
  hE Aq h
theorem rV {Q:QT [.bool]} {N0:Nat} {n1:Int} {U:Option Addr} {J:List D} {Y:Nat} {O I:Int} {y0:D} {N:Nat} (h :
Br (decide (I<O)) ((0<=I/\I<(J.length:Int))/\kI 175 [.dg 9 y0,.j n1] N (λn a=>kB 118 [.dg 9 (List.getD J I.toNat default),.j
 n,.fn 229 []] a (λb a=>Br (!b) (uP a (Q false)) (wH Q N0 n1 U J Y O (IntKind.i64.wrap (I+1)) y0 a)))) (uP N (Q true))):wH Q N0 n1 U J Y O I y0 N:=
  hE p8 h
end Go.Proofs.YtlaniepnglheoaaGreatDoor
set_option maxRecDepth 100000
namespace Go.Proofs.YtlaniepnglheoaaGreatDoor
open Go Go.Proofs Go.Proofs.Tryz
def Ay:Hint:=⟨[hc 3 [1,3,4]],[],[(5,hs 9 [ec 6 [17]])]⟩
def tm:Hint:=⟨[hc 6 [1,4,5,6]],[],[(1,hs 8 [ec 1 [9]]),(3,hs 4 [ec 1 [18]]),(6,hs 3 [ec 1 [22]]),(8,hs 2 [ec 1 [27]]),(12,hs 8 [ec 1 [39]])]⟩
def AA:Hint:=⟨[hc 6 [1,2,6,7,8]],[],[(1,hs 8 [{ i:=1,hard:=true,cl:=[11],fs:=[11] }]),(3,hs 4 [{ i:=1,hard:=true,cl:=[20],fs:=[20] }]),(6,hs 4 [{ i:=1,hard:=true,cl:=[25],fs:=[25] }]),(8,hs 3 [{ i:=1,hard:=true,cl:=[31],fs:=[31] }]),(12,hs 8 [{ i:=1,hard:=true,cl:=[44],fs:=[44] }]),(16,hs 3 [{ i:=1,hard:=true,cl:=[56],fs:=[56] }])]⟩
def GZ:Hint:=⟨[],[],[(1,hs 4 [ec 2 [5]])]⟩
def wn (Q:QT [.int .i64])(N0:Nat)(I n4:Int)(J:D)(N:Nat):Prop:=AT prog 46 [.int .i64] Q N0 .ord (zF prog 46 3) ⟨an 1 (.pb 0 0 0 0::an 1 (.int .i64 I::.int .i64 n4::an 16 [])),[.vd J 9],N,none⟩
def rP (Q:QT [.ag 11])(N0:Nat)(n1 n6 J O:Int)(U Y:ByteArray)(aa ab:Int)(ac:Option Addr)(ae:List D)(ah:Nat)(ai:Int)(aj:Option Addr)(ak:List D)(al:Nat)(ao:Option Addr)(aq:List D)(au:Nat)(I aw:Int)(ax ay:ByteArray)(az:Int)(a6 a7 a8 ba:D)(bb bc:Nat)(r2:List D)(q2:Nat)(N:Nat):Prop:=AT prog 18 [.ag 11] Q N0 .ord (zF prog 18 6) ⟨an 1 (.int .i64 n1::an 2 (.pb 0 0 0 0::.pb 1 0 0 0::.int .i64 n6::an 42 [])),[.var [.int .i64 J,.int .i64 O,.str U,.str Y,.int .i64 aa,.int .i64 ab,.sv ac 2 ae ah,.int .i64 ai,.sv aj 2 ak al,.sv ao 9 aq au,.int .i64 I],.var [.int .i64 aw,.str ax,.str ay,.int .i64 az,.dc a6,.dc a7,.dc a8,.dc ba,.sb 2 9 0 bb bc],.arr 35 9 r2 q2],N,none⟩
def xT (Q:QT [.ag 11])(N0:Nat)(n1 n6 J O:Int)(U Y:ByteArray)(aa ab:Int)(ac:Option Addr)(ae:List D)(ah:Nat)(ai:Int)(aj:Option Addr)(ak:List D)(al:Nat)(ao:Option Addr)(aq:List D)(au:Nat)(I:Int)(y1:D)(N:Nat):Prop:=AT prog 18 [.ag 11] Q N0 .ord (zF prog 18 6) ⟨an 1 (.int .i64 n1::an 2 (.pb 0 0 0 0::.pb 1 0 0 0::.int .i64 n6::an 42 [])),[.var [.int .i64 J,.int .i64 O,.str U,.str Y,.int .i64 aa,.int .i64 ab,.sv ac 2 ae ah,.int .i64 ai,.sv aj 2 ak al,.sv ao 9 aq au,.int .i64 I],.vd y1 9],N,none⟩
def wI (Q:QT [.ag 11])(N0:Nat)(n1 n8 J O:Int)(U Y:ByteArray)(aa ab:Int)(ac:Option Addr)(ae:List D)(ah:Nat)(ai:Int)(aj:Option Addr)(ak:List D)(al:Nat)(ao:Option Addr)(aq:List D)(au:Nat)(I aw:Int)(ax ay:ByteArray)(az:Int)(a6 a7 a8 ba:D)(bb bc:Nat)(r2:List D)(q2:Nat)(N:Nat):Prop:=AT prog 60 [.ag 11] Q N0 .ord (zF prog 60 6) ⟨an 1 (.int .i64 n1::.fn 61 []::an 3 (.pb 0 0 0 0::.pb 1 0 0 0::.int .i64 n8::an 49 [])),[.var [.int .i64 J,.int .i64 O,.str U,.str Y,.int .i64 aa,.int .i64 ab,.sv ac 2 ae ah,.int .i64 ai,.sv aj 2 ak al,.sv ao 9 aq au,.int .i64 I],.var [.int .i64 aw,.str ax,.str ay,.int .i64 az,.dc a6,.dc a7,.dc a8,.dc ba,.sb 2 9 0 bb bc],.arr 35 9 r2 q2],N,none⟩
theorem Jn (N:Nat) (I:D) (Q:QT [.int .i64]) (h :
Bel N I->wn Q N 1 0 I N):ACalls prog 46 [.int .i64] [PV.dg 9 I] N Q:=
 eE Ay h
theorem HK (N:Nat) (I:D) (n1:Int) (Q:QT [.ag 11]) (h :
Bel N I->kB 42 [.dg 9 I,.j 0] N (λb a=>Br (!b) (∀ b,a<=b->Q (D.ag [D.j 0,D.j 0,D.t b0,D.t b0,D.j 0,D.j 0,D.sl none 2 [] 0,D.j 0,
 D.sl none 2 [] 0,D.sl none 9 [] 0,D.j 0]) b) (kB 44 [.j n1,.j 0,.j 200] a (λa b=>Br (!a) (∀ a,b<=a->Q (D.ag [D.j 0,D.j 0,D.t b0,D.t b0,
 D.j 0,D.j 0,D.sl none 2 [] 0,D.j 0,D.sl none 2 [] 0,D.sl none 9 [] 0,D.j 0]) a) (∀ a,b<=a->ACalls prog 45 [.pk,.i,.str,.str,.i,.dc,.dc,.dc,
 .dc,.row 35 9] [.dg 9 I] a (λn s b c x d e f g h i=>a<=i->Bel i (D.ag g)->rP Q N n1 0 0 0 b0 b0 0 0 none [] 0 0 none []
 0 none [] 0 0 n s b c x d e f g.length h g h i)))))):ACalls prog 18 [.ag 11] [PV.dg 9 I,PV.int .i64 n1] N Q:=
  eE tm h
theorem EA (N:Nat) (n0:Int) (Q:QT []) (h :
uP N Q):ACalls prog 61 [] [PV.int .i64 n0] N Q:=
 eE H0 h
theorem HA (N:Nat) (I:D) (n1:Int) (Q:QT [.ag 11]) (h :
Bel N I->kA 11 60 [.dg 9 I,.j n1,.fn 61 []] N (λx a=>uP a (Q x))):ACalls prog 26 [.ag 11] [PV.dg 9 I,PV.int .i64 n1] N Q:=
 eE GZ h
theorem qV {Q:QT [.int .i64]} {N0:Nat} {n3 n4:Int} {y0:D} {N:Nat} (h :
∃ a b,∃ c:Nat,(y0.cell 8)=D.sl a 9 b c/\Br (decide (n4<(b.length:Int))) (∃ a b,∃ c:Nat,(y0.cell 8)=D.sl a 9 b c/\(0<=n4
 /\ n4<(b.length:Int))/\∀ a,N<=a->ACalls prog 46 [.i] [.dg 9 (List.getD b n4.toNat default)] a (fun n b=>a<=b->wn Q N0
 (IntKind.i64.wrap (n3+n)) (IntKind.i64.wrap (n4+1)) y0 b)) (uP N (Q n3))):wn Q N0 n3 n4 y0 N:=
  hE Ay h
theorem D0 {Q:QT [.ag 11]} {N0:Nat} {n1 n6 n0_0 n0_1:Int} {s0_2 s0_3:ByteArray} {n0_4 n0_5:Int} {a0_6:Option Addr} {e0_6:List D} {c0_6:Nat} {n0_7:Int} {a0_8:Option Addr} {e0_8:List D} {c0_8:Nat} {a0_9:Option Addr} {e0_9:List D} {c0_9:Nat} {n0_10 n1_0:Int} {s1_1 s1_2:ByteArray} {n1_3:Int} {x1_4 x1_5 x1_6 x1_7:D} {m1_8 c1_8:Nat} {r2:List D} {q2:Nat} {N:Nat} (h :
(m1_8=r2.length/\c1_8=q2)/\(m1_8=r2.length/\c1_8=q2)/\∀ a c,N<=c->Fresh N0 c a [D.ag r2]->∀ d,c<=d->ACalls prog 46 [.i] [.dg 9
 (D.ag [D.j n1_0,D.t s1_1,D.t s1_2,D.j n1_3,x1_4,x1_5,x1_6,x1_7,D.sl a 9 r2 q2])] d (fun n c=>d<=c->Br (decide (n>400)) (∀ a,c<=a->Q
 (D.ag [D.j 3,D.j 0,D.t b0,D.t b0,D.j 0,D.j 0,D.sl none 2 [] 0,D.j 0,D.sl none 2 [] 0,D.sl none 9 [] 0,D.j n6]) a) (kB 47 [.dg 9 (D.ag [D.j n1_0,D.t
 s1_1,D.t s1_2,D.j n1_3,x1_4,x1_5,x1_6,x1_7,D.sl a 9 r2 q2])] c (fun b c=>Br b (uP c (Q (D.ag [D.j 1,D.j n1_0,D.t s1_1,D.t s1_2,D.j n1_3,x1_4,
 x1_5,x1_6,x1_7,D.sl a 9 r2 q2,D.j n6]))) (Br (n6==n1) (uP c (Q (D.ag [D.j 2,D.j n1_0,D.t s1_1,D.t s1_2,D.j n1_3,x1_4,x1_5,x1_6,x1_7,D.sl a 9 r2
 q2,D.j n6]))) (∀ b,c<=b->ACalls prog 48 [.ag 9,.i] [.dg 9 (D.ag [D.j n1_0,D.t s1_1,D.t s1_2,D.j n1_3,x1_4,x1_5,x1_6,x1_7,D.sl a 9 r2 q2])] b
 (fun x c d=>b<=d->Bel d x->Br (c==0) (uP d (Q (D.ag [D.j 4,D.j n1_0,D.t s1_1,D.t s1_2,D.j n1_3,x1_4,x1_5,x1_6,x1_7,D.sl a 9 r2 q2,
 D.j n6]))) (xT Q N0 n1 (IntKind.i64.wrap (n6+1)) n0_0 n0_1 s0_2 s0_3 n0_4 n0_5 a0_6 e0_6 c0_6 n0_7 a0_8 e0_8 c0_8 a0_9 e0_9 c0_9 n0_10 x
 d)))))))):rP Q N0 n1 n6 n0_0 n0_1 s0_2 s0_3 n0_4 n0_5 a0_6 e0_6 c0_6 n0_7 a0_8 e0_8 c0_8 a0_9 e0_9 c0_9 n0_10 n1_0 s1_1 s1_2 n1_3 x1_4 x1_5 x1_6 x1_7 m1_8 c1_8 r2 q2 N:=
  hE tm h
theorem DK (N:Nat) (I:D) (n1:Int) (Q:QT [.ag 11]) (h :
Bel N I->kB 57 [.dg 9 I,.j 0] N (λb a=>Br (!b) (∀ b,a<=b->Q (D.ag [D.j 0,D.j 0,D.t b0,D.t b0,D.j 0,D.j 0,D.sl none 2 [] 0,D.j 0,
 D.sl none 2 [] 0,D.sl none 9 [] 0,D.j 0]) b) (kB 39 [.j n1,.j 0,.j 200] a (λa b=>Br (!a) (∀ a,b<=a->Q (D.ag [D.j 0,D.j 0,D.t b0,D.t b0,
 D.j 0,D.j 0,D.sl none 2 [] 0,D.j 0,D.sl none 2 [] 0,D.sl none 9 [] 0,D.j 0]) a) (∀ a,b<=a->ACalls prog 123 [.pk,.i,.str,.str,.i,.dc,.dc,.dc,
 .dc,.row 35 9] [.dg 9 I] a (λn s b c x d e f g h i=>a<=i->Bel i (D.ag g)->wI Q N n1 0 0 0 b0 b0 0 0 none [] 0 0 none []
 0 none [] 0 0 n s b c x d e f g.length h g h i)))))):ACalls prog 60 [.ag 11] [.dg 9 I,.int .i64 n1,.fn 61 []] N Q:=
  eE AA h
theorem uv {Q:QT [.ag 11]} {N0:Nat} {n1 n6 O U:Int} {Y aa:ByteArray} {ab ac:Int} {ae:Option Addr} {ah:List D} {ai:Nat} {aj:Int} {ak:Option Addr} {al:List D} {ao:Nat} {aq:Option Addr} {au:List D} {aw:Nat} {J:Int} {I:D} {N:Nat} (h :
∀ a,N<=a->ACalls prog 46 [.i] [.dg 9 I] a (λn c=>a<=c->Br (decide (n>400)) (∀ a,c<=a->Q (D.ag [D.j 3,D.j 0,D.t b0,D.t b0,D.j
 0,D.j 0,D.sl none 2 [] 0,D.j 0,D.sl none 2 [] 0,D.sl none 9 [] 0,D.j n6]) a) (kB 47 [.dg 9 I] c (λb a=>Br b (uP a (Q (D.ag [D.j 1,(I.cell 0),
 (I.cell 1),(I.cell 2),(I.cell 3),(I.cell 4),(I.cell 5),(I.cell 6),(I.cell 7),(I.cell 8),D.j n6]))) (Br (n6==n1) (uP a (Q (D.ag [D.j 2,
 (I.cell 0),(I.cell 1),(I.cell 2),(I.cell 3),(I.cell 4),(I.cell 5),(I.cell 6),(I.cell 7),(I.cell 8),D.j n6]))) (∀ b,a<=b->ACalls prog 48
 [.ag 9,.i] [.dg 9 I] b (λx a c=>b<=c->Bel c x->Br (a==0) (uP c (Q (D.ag [D.j 4,(I.cell 0),(I.cell 1),(I.cell 2),(I.cell 3),
 (I.cell 4),(I.cell 5),(I.cell 6),(I.cell 7),(I.cell 8),D.j n6]))) (xT Q N0 n1 (IntKind.i64.wrap (n6+1)) O U Y aa ab
 ac ae ah ai aj ak al ao aq au aw J x c)))))))):xT Q N0 n1 n6 O U Y aa ab ac ae ah ai aj ak al ao aq au aw J I N:=
  hE tm h
theorem rY {Q:QT [.ag 11]} {N0:Nat} {n1 n8 n0_0 n0_1:Int} {s0_2 s0_3:ByteArray} {n0_4 n0_5:Int} {a0_6:Option Addr} {e0_6:List D} {c0_6:Nat} {n0_7:Int} {a0_8:Option Addr} {e0_8:List D} {c0_8:Nat} {a0_9:Option Addr} {e0_9:List D} {c0_9:Nat} {n0_10 n1_0:Int} {s1_1 s1_2:ByteArray} {n1_3:Int} {x1_4 x1_5 x1_6 x1_7:D} {m1_8 c1_8:Nat} {r2:List D} {q2:Nat} {N:Nat} (h :
(m1_8=r2.length/\c1_8=q2)/\(m1_8=r2.length/\c1_8=q2)/\∀ a d,N<=d->Fresh N0 d a [D.ag r2,x1_4,x1_5,x1_6,x1_7]->∀ e,d<=e->ACalls
 prog 121 [.i] [.dg 9 (D.ag [D.j n1_0,D.t s1_1,D.t s1_2,D.j n1_3,x1_4,x1_5,x1_6,x1_7,D.sl a 9 r2 q2])] e (fun n d=>e<=d->Br (decide (n>400)) (∀
 a,d<=a->Q (D.ag [D.j 3,D.j 0,D.t b0,D.t b0,D.j 0,D.j 0,D.sl none 2 [] 0,D.j 0,D.sl none 2 [] 0,D.sl none 9 [] 0,D.j n8]) a) (kB 124 [.dg 9
 (D.ag [D.j n1_0,D.t s1_1,D.t s1_2,D.j n1_3,x1_4,x1_5,x1_6,x1_7,D.sl a 9 r2 q2])] d (fun b d=>Br b (uP d (Q (D.ag [D.j 1,D.j n1_0,D.t s1_1,D.t
 s1_2,D.j n1_3,x1_4,x1_5,x1_6,x1_7,D.sl a 9 r2 q2,D.j n8]))) (Br (n8==n1) (uP d (Q (D.ag [D.j 2,D.j n1_0,D.t s1_1,D.t s1_2,D.j n1_3,x1_4,x1_5,
 x1_6,x1_7,D.sl a 9 r2 q2,D.j n8]))) (∀ b,d<=b->ACalls prog 125 [.ag 9,.i] [.dg 9 (D.ag [D.j n1_0,D.t s1_1,D.t s1_2,D.j n1_3,x1_4,x1_5,x1_6,
 x1_7,D.sl a 9 r2 q2])] b (fun x d e=>b<=e->Bel e x->Br (d==0) (uP e (Q (D.ag [D.j 4,D.j n1_0,D.t s1_1,D.t s1_2,D.j n1_3,x1_4,x1_5,
 x1_6,x1_7,D.sl a 9 r2 q2,D.j n8]))) (∀ a,e<=a->ACalls prog 61 [] [.j d] a (fun b=>a<=b->∀ a,b<=a->ACalls prog 123 [.pk,.i,
 .str,.str,.i,.dc,.dc,.dc,.dc,.row 35 9] [.dg 9 x] a (fun b s c d e f g h i j k=>a<=k->Bel k (D.ag i)->wI Q
 N0 n1 (IntKind.i64.wrap (n8+1)) n0_0 n0_1 s0_2 s0_3 n0_4 n0_5 a0_6 e0_6 c0_6 n0_7 a0_8 e0_8 c0_8 a0_9 e0_9 c0_9 n0_10 b s c d e f g h i.length
 j i j k)))))))))):wI Q N0 n1 n8 n0_0 n0_1 s0_2 s0_3 n0_4 n0_5 a0_6 e0_6 c0_6 n0_7 a0_8 e0_8 c0_8 a0_9 e0_9 c0_9 n0_10 n1_0 s1_1 s1_2 n1_3 x1_4 x1_5 x1_6 x1_7 m1_8 c1_8 r2 q2 N:=
  hE AA h
end Go.Proofs.YtlaniepnglheoaaGreatDoor
set_option maxRecDepth 100000
namespace Go.Proofs.YtlaniepnglheoaaGreatDoor
open Go Go.Proofs Go.Proofs.Tryz
def Dj:Hint:=⟨[],[],[(1,hs 8 [ec 1 [6]]),(2,hs 6 [ec 3 [12]])]⟩
def Do:Hint:=⟨[],[],[(1,hs 9 [ec 2 [6,7]]),(2,hs 6 [ec 3 [13]])]⟩
def CT:Hint:=⟨[],[],[(1,hs 3 [ec 1 [3]]),(3,hs 3 [ec 1 [6]])]⟩
def Ga:Hint:=⟨[],[],[(2,hs 8 [ec 1 [14]]),(3,hs 11 [ec 8 [25]]),(5,hs 4 [ec 1 [29]]),(7,[en 0,en 3,en 4,ec 1 [34],en 2,eh 5,en 6,en 7]),(8,[en 0,en 3,en 4,en 8,en 9,ec 1 [41],en 2,ec 5 [45],en 6,en 7,eh 10,en 11,en 12])]⟩
def Gd:Hint:=⟨[],[],[(2,hs 7 [ec 4 [16]]),(4,hs 9 [ec 2 [21,22]]),(5,hs 4 [ec 1 [26]]),(7,[en 0,en 3,en 4,ec 1 [31],en 2,eh 5,en 6,en 7]),(8,[en 0,en 3,en 4,en 8,en 9,ec 1 [38],en 2,ec 5 [42],en 6,en 7,eh 10,en 11,en 12])]⟩
theorem D8 (N:Nat) (I:D) (Q:QT [.bool]) (h :
Bel N I->kAB 2 24 [.sv none 4 [] 0,.dg 9 I,.j 0] N (λ_ b a=>Br b (kB 59 [.dg 9 I] a (λa b=>uP b (Q a))) (uP a (Q false)))):ACalls prog 25 [.bool] [PV.dg 9 I] N Q:=
 eE Dj h
theorem EK (N:Nat) (x0:D) (Q:QT [.bool]) (h :
Bel N x0->(0=0/\0=0)/\∀ a c,N<=c->Fresh N c a [D.ag []]->kAB 2 17 [.sv a 4 [] 0,.dg 9 x0,.j 0] c (fun _ b a=>Br b (kB 40 [.dg 9 x0] a
 (fun a b=>uP b (Q a))) (uP a (Q false)))):ACalls prog 16 [.bool] [PV.dg 9 x0] N Q:=
  eE Do h
theorem DH (N:Nat) (n0:Int) (Q:QT [.str]) (h :
kB 39 [.j n0,.j 0,.j 4] N (λb a=>Br (!b) (uP a (Q (bytes [63]))) ((0<=n0/\n0<5/\(0+n0.toNat:Nat)<5)/\(0+n0.toNat:Nat)<5/\∃ s,
 List.getD [D.t (bytes [98,97,100]),D.t (bytes [100,111,110,101]),D.t (bytes [102,117,101,108]),D.t (bytes [108,97,114,103,101]),D.t (bytes [115,
 116,117,99,107])] (0+n0.toNat:Nat) default=D.t s/\uP a (Q s)))):ACalls prog 28 [.str] [PV.int .i64 n0] N Q:=
  eE H0 h
theorem DO (N:Nat) (n0:Int) (Q:QT [.str]) (h :
kB 44 [.j n0,.j 0,.j 4] N (λb a=>Br (!b) (uP a (Q (bytes [63]))) ((0<=n0/\n0<5/\(0+n0.toNat:Nat)<5)/\(0+n0.toNat:Nat)<5/\∃ s,
 List.getD [D.t (bytes [98,97,100]),D.t (bytes [100,111,110,101]),D.t (bytes [102,117,101,108]),D.t (bytes [108,97,114,103,101]),D.t (bytes [115,
 116,117,99,107])] (0+n0.toNat:Nat) default=D.t s/\uP a (Q s)))):ACalls prog 20 [.str] [PV.int .i64 n0] N Q:=
  eE H0 h
theorem DM (N:Nat) (I:D) (Q:QT [.str]) (h :
Bel N I->kB 49 [.dg 2 I] N (λb a=>Br (!b) (uP a (Q b0)) (kS 50 [.dg 2 I] a (λs a=>uP a (Q s))))):ACalls prog 19 [.str] [PV.dg 2 I] N Q:=
 eE CT h
theorem B3 (N:Nat) (n0:Int) (Q:QT [.str]) (h :
kB 39 [.j n0,.j 1,.j 6] N (λb a=>Br (!b) (uP a (Q b0)) ((0<=IntKind.i64.wrap (n0 - 1)/\IntKind.i64.wrap (n0 - 1)<6/\(0+(IntKind.i64.wrap
 (n0 - 1)).toNat:Nat)<6)/\(0+(IntKind.i64.wrap (n0 - 1)).toNat:Nat)<6/\∃ s,List.getD [D.t (bytes [60,40,92,120,58,73,46,126,40,40,114,
 101,99,32,112,32,110,58,73,62,60,73,62,46,40,105,102,32,40,110,61,48,41,32,60,49,62,32,60,40,120,42,126,40,112,32,40,110,
 45,49,41,41,41,62,41,41,32,51,41,41,62]),D.t (bytes [40,108,101,116,32,99,61,60,40,49,43,50,41,62,32,60,40,126,99,42,126,99,
 41,62,41]),D.t (bytes [60,40,92,121,58,73,46,126,40,40,92,122,58,60,73,62,46,60,40,92,121,58,73,46,40,126,122,43,121,41,41,62,
 41,32,60,121,62,41,41,62]),D.t (bytes [40,40,114,117,110,32,60,40,92,120,58,73,46,40,120,43,126,40,108,105,102,116,32,40,50,42,
 51,41,41,41,41,62,41,32,49,41]),D.t (bytes [40,114,117,110,32,60,40,114,117,110,32,60,53,62,41,62,41]),D.t (bytes [40,108,101,116,
 32,110,61,55,32,60,126,40,105,102,32,40,110,60,53,41,32,60,48,62,32,60,40,49,43,126,40,108,105,102,116,32,110,41,41,62,41,
 62,41])] (0+(IntKind.i64.wrap (n0 - 1)).toNat:Nat) default=D.t s/\uP a (Q s)))):ACalls prog 14 [.str] [PV.int .i64 n0] N Q:=
  eE H0 h
theorem CD (N:Nat) (n0:Int) (Q:QT [.str]) (h :
Br (n0==1) (uP N (Q (bytes [60,40,92,120,58,73,46,126,40,40,114,101,99,32,112,32,110,58,73,62,60,73,62,46,40,105,102,32,40,
 110,61,48,41,32,60,49,62,32,60,40,120,42,126,40,112,32,40,110,45,49,41,41,41,62,41,41,32,51,41,41,62]))) (Br (n0==2) (uP N (Q
 (bytes [40,108,101,116,32,99,61,60,40,49,43,50,41,62,32,60,40,126,99,42,126,99,41,62,41]))) (Br (n0==3) (uP N (Q (bytes [60,40,92,
 121,58,73,46,126,40,40,92,122,58,60,73,62,46,60,40,92,121,58,73,46,40,126,122,43,121,41,41,62,41,32,60,121,62,41,41,62])))
 (Br (n0==4) (uP N (Q (bytes [40,40,114,117,110,32,60,40,92,120,58,73,46,40,120,43,126,40,108,105,102,116,32,40,50,42,51,41,41,41,
 41,62,41,32,49,41]))) (Br (n0==5) (uP N (Q (bytes [40,114,117,110,32,60,40,114,117,110,32,60,53,62,41,62,41]))) (Br (n0==6) (uP N (Q
 (bytes [40,108,101,116,32,110,61,55,32,60,126,40,105,102,32,40,110,60,53,41,32,60,48,62,32,60,40,49,43,126,40,108,105,102,116,
 32,110,41,41,62,41,62,41]))) (uP N (Q b0)))))))):ACalls prog 15 [.str] [PV.int .i64 n0] N Q:=
  eE H0 h
theorem HB (N:Nat) (I:ByteArray) (Q:QT [.str]) (h :
kAB 9 23 [.str I] N (λx b a=>kAB 2 24 [.sv none 4 [] 0,.dg 9 x,.j 0] a (λa c d=>Br (!b) (uP d (Q (bytes [98,97,100]))) (Br (!c)
 (uP d (Q (bytes [98,97,100]))) (kB 25 [.dg 9 x] d (λb c=>Br (!b) (uP c (Q (bytes [98,97,100]))) (kA 11 26 [.dg 9 x,.j 200] c (λb c=>
 ∃ n:Int,(b.cell 0)=D.j n/\Br (bne n 1) (∃ d:Int,(b.cell 0)=D.j d/\kS 27 [.dg 2 a] c (λs a=>(s.size+1:Nat) <=
 9223372036854775807/\kS 28 [.j d] a (λa b=>(ByteArray.size (s++bytes [32])+a.size:Nat)<=9223372036854775807/\uP b (Q (s++bytes [32]
 ++ a))))) (∃ d:Int,(b.cell 10)=D.j d/\kS 27 [.dg 2 a] c (λa c=>(a.size+3:Nat)<=9223372036854775807/\kS 29 [.dg 9 (D.sub b 1
 9)] c (λb c=>(ByteArray.size (a++bytes [32,61,32])+b.size:Nat)<=9223372036854775807/\(ByteArray.size (a++bytes [32,61,32]++b)
 + 1:Nat)<=9223372036854775807/\kS 30 [.j d] c (λc d=>(ByteArray.size (a++bytes [32,61,32]++b++bytes [32])+c.size:Nat) <=
 9223372036854775807/\uP d (Q (a++bytes [32,61,32]++b++bytes [32]++c)))))))))))))):ACalls prog 7 [.str] [PV.str I] N Q:=
  eE Ga h
theorem HL (N:Nat) (I:ByteArray) (Q:QT [.str]) (h :
kAB 9 13 [.str I] N (λx b c=>Br (!b) (uP c (Q (bytes [98,97,100]))) (kB 16 [.dg 9 x] c (λb c=>Br (!b) (uP c (Q (bytes [98,97,
 100]))) ((0=0/\0=0)/\∀ a b,c<=b->Fresh N b a [D.ag []]->kAB 2 17 [.sv a 4 [] 0,.dg 9 x,.j 0] b (λa _ b=>kA 11 18 [.dg 9 x,.j 200] b
 (λb c=>∃ n:Int,(b.cell 0)=D.j n/\Br (bne n 1) (∃ d:Int,(b.cell 0)=D.j d/\kS 19 [.dg 2 a] c (λs a=>(s.size+1:Nat) <=
 9223372036854775807/\kS 20 [.j d] a (λa b=>(ByteArray.size (s++bytes [32])+a.size:Nat)<=9223372036854775807/\uP b (Q (s++bytes [32]
 ++ a))))) (∃ d:Int,(b.cell 10)=D.j d/\kS 19 [.dg 2 a] c (λa c=>(a.size+3:Nat)<=9223372036854775807/\kS 21 [.dg 9 (D.sub b 1
 9)] c (λb c=>(ByteArray.size (a++bytes [32,61,32])+b.size:Nat)<=9223372036854775807/\(ByteArray.size (a++bytes [32,61,32]++b)
 + 1:Nat)<=9223372036854775807/\kS 22 [.j d] c (λc d=>(ByteArray.size (a++bytes [32,61,32]++b++bytes [32])+c.size:Nat) <=
 9223372036854775807/\uP d (Q (a++bytes [32,61,32]++b++bytes [32]++c))))))))))))):ACalls prog 6 [.str] [PV.str I] N Q:=
  eE Gd h
theorem DF (N:Nat) (n0:Int) (Q:QT [.str]) (h :
kS 14 [.j n0] N (λs a=>Br (ByteArray.toList s==ByteArray.toList b0) (uP a (Q b0)) (kS 14 [.j n0] a (λa b=>kS 7 [.str a] b (λa b
 => uP b (Q a)))))):ACalls prog 9 [.str] [PV.int .i64 n0] N Q:=
  eE H0 h
theorem DN (N:Nat) (n0:Int) (Q:QT [.str]) (h :
kS 15 [.j n0] N (λs a=>Br (ByteArray.toList s==ByteArray.toList b0) (uP a (Q b0)) (kS 15 [.j n0] a (λa b=>kS 6 [.str a] b (λa b
 => uP b (Q a)))))):ACalls prog 8 [.str] [PV.int .i64 n0] N Q:=
  eE H0 h
theorem sa (N:Nat) (n0:Int) (Q:QT [.bool]) (h :
kS 8 [.j n0] N (λs a=>kS 9 [.j n0] a (λa b=>Br (!(ByteArray.toList a==ByteArray.toList s)) (uP b (Q false)) (uP b (Q true))))):ACalls prog 4 [.bool] [PV.int .i64 n0] N Q:=
 eE H0 h
end Go.Proofs.YtlaniepnglheoaaGreatDoor
