/- Printed by gen.py: what the functions come to. -/
import Derived.Test.YtlaniepnglheoaaGreatDoorJh
set_option linter.unusedVariables false
set_option maxRecDepth 100000
namespace Go.Proofs.YtlaniepnglheoaaGreatDoor
open Go Go.Proofs Go.Proofs.Tryz
def IR:Hint:=⟨[],[],[(1,hs 7 [ec 1 [16]]),(2,hs 14 [ec 6 [25],ec 10 [20,26,28,29]]),(3,hs 4 [ec 1 [33]]),(4,[en 0,en 1,en 2,en 3,en 4,en 5,en 6,en 7,en 8,en 9,eh 10,ec 11 [42,45],en 12,eh 13])]⟩
def uk:Hint:=⟨[hc 10 [3,4,5,6,7,8,9,39,40,41],hc 19 [4,5,6,8,9,12,75,76,77]],[],[(3,hs 3 [ec 1 [22]]),(4,hs 3 [ec 1 [24]]),(5,hs 7 [ec 1 [27]]),(7,hs 4 [ec 2 [33]]),(8,hs 4 [ec 1 [36]]),(13,[en 0,en 1,en 2,en 3,en 4,en 5,ec 6 [52,54],en 7,eh 8]),(15,[en 0,en 1,eh 2,en 3,en 4,en 5,en 6,en 7,en 8,en 10,ec 9 [66],eh 11,en 12,en 13]),(17,hs 3 [ec 1 [73]]),(22,hs 7 [ec 5 [84]]),(24,[en 0,en 1,en 2,en 3,en 4,en 5,en 6,en 7,en 8,en 9,ec 10 [98,100],en 11,eh 12])]⟩
def Bz:Hint:=⟨[],[],[(1,hs 5 [ec 3 [5,7]])]⟩
def BI:Hint:=⟨[hc 4 [1,2,3,8,9,10,12]],[],[(1,hs 4 [ec 1 [16]]),(8,hs 15 [ec 6 [46]]),(9,[en 0,en 1,en 2,en 3,en 4,en 5,en 6,en 7,en 8,en 9,en 10,en 11,en 12,eh 13,ec 14 [62,68],en 15,eh 16])]⟩
def qO:Hint:=⟨[hc 9 [1,5,6,7,9,10,11]],[],[(2,hs 3 [ec 1 [21]]),(3,hs 4 [ec 1 [23]]),(6,hs 17 [ec 12 [45]]),(7,[en 0,en 1,en 2,en 3,ec 4 [54],ec 5 [51],eh 6]),(12,[en 0,en 1,en 2,en 3,en 4,en 5,en 6,en 7,en 8,en 9,ec 10 [78,80],en 11,eh 12])]⟩
def tN:Hint:=⟨[hc 3 [1,2,4,5,10,11,12] [(5,35,9)]],[],[(5,hs 7 [{ i:=3,hard:=true,cl:=[18],fs:=[5,18] },{ i:=4,hard:=true,cl:=[19],fs:=[5,19] }]),(7,hs 4 [{ i:=2,hard:=true,cl:=[23],fs:=[5,23] }])]⟩
def ya (Q:QT [.ag 9]) N0 a7 e7 c7 n8 bg bh bi bj bm y0 I y2 J O U Y aa ab ac ae ah ai aj ak al ao aq au aw ax ay az a6 a8 ba bb bc r5 q5 N:=jT 232 10 Q N0 (an 3 (.pb 0 0 0 0::.pb 1 0 0 0::.pb 2 0 0 0::.pb 3 0 0 0::.sv a7 0 e7 c7::.j n8::.pb 4 0 0 0::an 29 (.sv bg 9 bh bi::.j bj::.j bm::an 62 []))) [.vd y0 9,.var [.str I],.vd y2 9,jV J O U Y aa ab ac ae ah ai aj ak al ao aq,.var [.j au,.str aw,.str ax,.j ay,.dc az,.dc a6,.dc a8,.dc ba,.sb 5 9 0 bb bc],.arr 35 9 r5 q5] N
def yr (Q:QT [.pk,.i,.str,.str,.i,.dc,.dc,.dc,.dc,.row 35 9]) N0 n1 s2 a3 e3 c3 bb bc bg bh I J O U Y aa ab ac ae ah ai aj ak al ao aq au aw ax ay az a6 a7 a8 ba r2 q2 N:=jT 212 4 Q N0 (an 1 (.j n1::.str s2::.sv a3 0 e3 c3::an 4 (.pb 0 0 0 0::.pb 1 0 0 0::.sv bb 0 bc bg::an 1 (.j bh::an 65 [])))) [jV I J O U Y aa ab ac ae ah ai aj ak al ao,.var [.j aq,.str au,.str aw,.j ax,.dc ay,.dc az,.dc a6,.dc a7,.sb 2 9 0 a8 ba],.arr 35 9 r2 q2] N
def zE (Q:QT [.ag 9]) N0 s1 n9 bb bc y0 I J O U Y aa ab ac ae ah ai aj ak al ao aq au aw ax ay az a6 a7 a8 ba r3 q3 N:=jT 158 9 Q N0 (an 1 (.str s1::an 3 (.pb 0 0 0 0::.pb 1 0 0 0::.pb 2 0 0 0::an 1 (.j n9::.bool bb::.j bc::an 72 [])))) [.vd y0 9,jV I J O U Y aa ab ac ae ah ai aj ak al ao,.var [.j aq,.str au,.str aw,.j ax,.dc ay,.dc az,.dc a6,.dc a7,.sb 3 9 0 a8 ba],.arr 35 9 r3 q3] N
def yu (Q:QT [.pk,.i,.str,.str,.i,.dc,.dc,.dc,.dc,.row 35 9]) N0 O I U J m5 c5 ay az a6 a7 a8 y0 Y aa ab ac ae ah ai aj ak al ao aq au aw ax r2 q2 N:=jT 186 3 Q N0 (an 1 (.fn 255 [.pd O 0 I,.pd U 9 J]::.pb 0 0 0 0::an 1 (.pb 1 0 0 0::.sb 2 9 0 m5 c5::an 4 (.sv ay 9 az a6::.j a7::.j a8::an 13 [])))) [.vd y0 9,jV Y aa ab ac ae ah ai aj ak al ao aq au aw ax,.arr 35 9 r2 q2] N
def yb (Q:QT [.ag 9]) N0 n8 bc bg a75 bh c75 bi bj I y1 J O U Y aa ab ac ae ah ai aj ak al ao aq au aw ax ay az a6 a7 a8 ba bb r4 q4 r5 q5 N:=jT 232 19 Q N0 (an 4 (.pb 0 0 0 0::.pb 1 0 0 0::.pb 2 0 0 0::an 1 (.j n8::.pb 3 0 0 0::an 2 (.sb 4 0 0 bc bg::an 62 (.sv a75 0 bh c75::.j bi::.j bj::an 26 []))))) [.var [.str I],.vd y1 9,jV J O U Y aa ab ac ae ah ai aj ak al ao aq,.var [.j au,.str aw,.str ax,.j ay,.dc az,.dc a6,.dc a7,.dc a8,.sb 5 9 0 ba bb],.arr 9 0 r4 q4,.arr 35 9 r5 q5] N
theorem I5 N I n1 U a3 O c3 J(Q:QT [.pk,.i,.str,.str,.i,.dc,.dc,.dc,.dc,.row 35 9])(h :
Bel N I->Bel N (D.sl a3 0 O c3)->∀ b,N<=b->ACalls prog 254 [.sl 0,.i] [.dg 9 I] b (λa c d _ e=>b<=e->Bel e (D.sl a 0 c d)->∃ b
 f,∃ g:Nat,(I.cell 8)=D.sl b 9 f g/\jL n1 f/\∀ b,e<=b->ACalls prog 256 [.row 9 0] [.dg 9 (f.getD n1.toNat jD)] b (λe f g=>b<=g->Bel g (D.ag e)->(e.length=e.length/\f=f)/\∀ b h,g<=h->Fresh N h b [D.ag
 e]->(1=([D.t J]).length/\1=1)/\∀ g i,h<=i->Fresh N i g [D.ag [D.t J]]->(4=([D.sl a3 0 O c3,D.sl b 0 e f,D.sl g 0 [D.t J]
 1,D.sl a 0 c d]).length/\4=4)/\∀ h,ApA h [D.sl a3 0 O c3,D.sl b 0 e f,D.sl g 0 [D.t J] 1,D.sl a 0 c d]->∀ j,i<=j->xj j [h]
 -> ACalls prog 277 [.sl 0] [.sv h 0 [D.sl a3 0 O c3,D.sl b 0 e f,D.sl g 0 [D.t J] 1,D.sl a 0 c d] 4] j (λa b c d=>j<=d->Off
 [h] (D.sl a 0 b c)/\(Bel d (D.sl a 0 b c)->kS 276 [.sv a 0 b c] d (λs a=>∀ b,a<=b->ACalls prog 123 [.pk,.i,.str,
 .str,.i,.dc,.dc,.dc,.dc,.row 35 9] [.dg 9 I] b (λa c d e x f g h i j k=>b<=k->Bel k (D.ag i)->∃ b l,∃ m :
 Nat,(I.cell 8)=D.sl b 9 l m/\jL n1 l/\kA 9 111 [.str s] k (λb k=>kA 9 232 [.dg 9 (l.getD n1.toNat jD),.str U,.dg 9 b] k (λb k=>(0<=n1/\n1<(i.length:Int)/\(0+n1.toNat:Nat)<i.length)/\(0+n1.toNat:Nat)<i.length
 /\ ∃ l,(I.cell 1)=D.t l/\Br (jE l U) ((i.length=(List.set i (0+n1.toNat:Nat) b).length/\j=j) /\
 uP k (Q a s d e x f g h (List.set i (0+n1.toNat:Nat) b) j)) ((i.length=(List.set i (0+n1.toNat:Nat) b).length/\j =
 j)/\uP k (Q a c s e x f g h (List.set i (0+n1.toNat:Nat) b) j))))))))))):jC 257 [.dg 9 I,.j n1,.str U,.sv a3 0 O c3,.str J] N Q:=
  eE IR h
theorem Fd N I O J(Q:QT [.ag 9])(h :
Bel N I->Bel N J->∃ n:Int,(I.cell 0)=D.j n/\Br (n==1) (∃ s,(I.cell 1)=D.t s/\Br (jE s O) (∀ b,N<=b
 -> ACalls prog 123 [.pk,.i,.str,.str,.i,.dc,.dc,.dc,.dc,.row 35 9] [.dg 9 J] b (λc d e f x g h i j k l=>b<=l->Bel l (D.ag
 j)->w2 (j.length=j.length/\k=k) (∀ a b,l<=b->Fresh N b a [D.ag j,x,g,h,i]->uP b (Q (D.ag [D.j c,D.t d,D.t e,D.j f,x,
 g,h,i,D.sl a 9 j k]))))) (∀ a,N<=a->ACalls prog 123 [.pk,.i,.str,.str,.i,.dc,.dc,.dc,.dc,.row 35 9] [.dg 9 I] a (λb c d e
 f g h i j k l=>a<=l->Bel l (D.ag j)->w2 (j.length=j.length/\k=k) (∀ a m,l<=m->Fresh N m a [D.ag j,f,
 g,h,i]->uP m (Q (D.ag [D.j b,D.t c,D.t d,D.j e,f,g,h,i,D.sl a 9 j k])))))) (∀ a,N<=a->ACalls prog 254 [.sl 0,.i]
 [.dg 9 I] a (λb c d e f=>a<=f->Bel f (D.sl b 0 c d)->Br (decide (e<0)) (∀ a,ApA (Option.some a) [D.t O]->Off
 [Option.some a] I->∀ b,ApA (Option.some b) [J]->Off [Option.some b] I->∀ c,f<=c->xj c [Option.some a,Option.some b]->ACalls
 prog 186 [.pk,.i,.str,.str,.i,.dc,.dc,.dc,.dc,.row 35 9] [.dg 9 I,.fn 255 [.pd a 0 (D.t O),.pd b 9 J]] c (λd e f g h i j
 k l m n=>c<=n->Off [Option.some a,Option.some b] h/\Off [Option.some a,Option.some b] i/\Off [Option.some a,Option.some
 b] j/\Off [Option.some a,Option.some b] k/\Off [Option.some a,Option.some b] (D.ag l)/\(Bel n (D.ag l)->w2 (l.length =
 l.length/\m=m) (∀ a b,n<=b->Fresh N b a [D.ag l,h,i,j,k]->uP b (Q (D.ag [D.j d,D.t e,D.t f,D.j g,h,
 i,j,k,D.sl a 9 l m])))))) (∀ a,f<=a->ACalls prog 123 [.pk,.i,.str,.str,.i,.dc,.dc,.dc,.dc,.row 35 9] [.dg 9 I] a (λf
 g h i j k l m n o p=>a<=p->Bel p (D.ag n)->∃ a q,∃ r:Nat,(I.cell 8)=D.sl a 9 q r /\
 ya Q N b c d e a q r (q.length:Int) 0 I O J 0 b0 b0 0 0 none [] 0 0 none [] 0 none [] 0 f g h i j k l
 m n.length o n o p))))):jC 232 [.dg 9 I,.str O,.dg 9 J] N Q:=
  eE uk h
theorem JK N I n1 O a3 J c3(Q:QT [.pk,.i,.str,.str,.i,.dc,.dc,.dc,.dc,.row 35 9])(h :
Bel N I->Bel N (D.sl a3 0 J c3)->∀ b,N<=b->ACalls prog 45 [.pk,.i,.str,.str,.i,.dc,.dc,.dc,.dc,.row 35 9] [.dg 9 I] b (λn s c d
 x e f g h i j=>b<=j->Bel j (D.ag h)->∀ b,j<=b->ACalls prog 209 [.sl 0,.i] [.dg 9 I] b (λa j k _ l=>b<=l->Bel l (D.sl
 a 0 j k)->yr Q N n1 O a3 J c3 a j k 0 0 b0 b0 0 0 none [] 0 0 none [] 0 none [] 0 n s c d x e f g h.length i h i l))):jC 212 [.dg 9 I,.j n1,.str O,.sv a3 0 J c3] N Q:=
  eE BI h
theorem Fp N O I J(Q:QT [.ag 9])(h :
Bel N O->Bel N J->∃ n:Int,(O.cell 0)=D.j n/\Br (n==1) (∃ s,(O.cell 1)=D.t s/\Br (jE s I) (∀ b,N<=b
 -> ACalls prog 45 [.pk,.i,.str,.str,.i,.dc,.dc,.dc,.dc,.row 35 9] [.dg 9 J] b (λc d e f x g h i j k l=>b<=l->Bel l (D.ag j)
 -> w2 (j.length=j.length/\k=k) (∀ a b,l<=b->Fresh N b a [D.ag j,x,g,h,i]->uP b (Q (D.ag [D.j c,D.t d,D.t e,D.j f,x,g,
 h,i,D.sl a 9 j k]))))) (∀ a,N<=a->ACalls prog 45 [.pk,.i,.str,.str,.i,.dc,.dc,.dc,.dc,.row 35 9] [.dg 9 O] a (λb c d e f g
 h i j k l=>a<=l->Bel l (D.ag j)->∀ a,l<=a->ACalls prog 209 [.sl 0,.i] [.dg 9 O] a (λl m n o p=>a<=p->Bel p
 (D.sl l 0 m n)->∀ a,p<=a->ACalls prog 210 [.i] [.sv l 0 m n,.str I] a (λl m=>a<=m->Br (decide (o≥0)) (Br (!(decide
 (l≥0))) (∃ a n,∃ p:Nat,(O.cell 8)=D.sl a 9 n p/\jL o n/\kL 0 211 [.dg 9 (n.getD o.toNat jD)] m (λa m n p=>∀ q,p<=q->ACalls prog 210 [.i] [.sv a 0 m n,.str I] q (λa m=>q<=m->Br (decide (a ≥
 0)) (kL 0 211 [.dg 9 J] m (λa b c d=>∀ e,d<=e->ACalls prog 212 [.pk,.i,.str,.str,.i,.dc,.dc,.dc,.dc,.row 35 9] [.dg 9 O,.j
 o,.str I,.sv a 0 b c] e (λa b c d f g h i j k m=>e<=m->Bel m (D.ag j)->zE Q N I o
 (decide (l≥0)) 0 J 0 b0 b0 0 0 none [] 0 0 none [] 0 none [] 0 a b c d f g h i j.length k j k m))) (zE Q N I
 o (decide (l≥0)) 0 J 0 b0 b0 0 0 none [] 0 0 none [] 0 none [] 0 b c d e f g h i j.length k j k m)))) (zE Q N
 I o (decide (l≥0)) 0 J 0 b0 b0 0 0 none [] 0 0 none [] 0 none [] 0 b c d e f g h i j.length k j k m)) (zE Q
 N I o (decide (l≥0)) 0 J 0 b0 b0 0 0 none [] 0 0 none [] 0 none [] 0 b c d e f g h i j.length k j k m)))))) (∀ a,N<=a
 -> ACalls prog 45 [.pk,.i,.str,.str,.i,.dc,.dc,.dc,.dc,.row 35 9] [.dg 9 O] a (λb c d e f g h i j k l=>a<=l ->
 Bel l (D.ag j)->∀ a,l<=a->ACalls prog 209 [.sl 0,.i] [.dg 9 O] a (λl m n o p=>a<=p->Bel p (D.sl l 0 m n)->∀
 a,p<=a->ACalls prog 210 [.i] [.sv l 0 m n,.str I] a (λl m=>a<=m->Br (decide (o≥0)) (Br (!(decide (l≥0))) (∃ a
 n,∃ p:Nat,(O.cell 8)=D.sl a 9 n p/\jL o n/\kL 0 211 [.dg 9 (n.getD o.toNat jD)] m (fun
 a m n p=>∀ q,p<=q->ACalls prog 210 [.i] [.sv a 0 m n,.str I] q (λa m=>q<=m->Br (decide (a≥0)) (kL 0 211
 [.dg 9 J] m (λa b c d=>∀ e,d<=e->ACalls prog 212 [.pk,.i,.str,.str,.i,.dc,.dc,.dc,.dc,.row 35 9] [.dg 9 O,.j o,.str
 I,.sv a 0 b c] e (λa b c d f g h i j k m=>e<=m->Bel m (D.ag j)->zE Q N I o
 (decide (l≥0)) 0 J 0 b0 b0 0 0 none [] 0 0 none [] 0 none [] 0 a b c d f g h i j.length k j k m)))
 (zE Q N I o (decide (l≥0)) 0 J 0 b0 b0 0 0 none [] 0 0 none [] 0 none [] 0 b c d e f g h i j.length k j
 k m)))) (zE Q N I o (decide (l≥0)) 0 J 0 b0 b0 0 0 none [] 0 0 none [] 0 none [] 0 b c d e f g h i
 j.length k j k m)) (zE Q N I o (decide (l≥0)) 0 J 0 b0 b0 0 0 none [] 0 0 none [] 0 none [] 0 b c d e f g
 h i j.length k j k m)))))):jC 158 [.dg 9 O,.str I,.dg 9 J] N Q:=
  eE qO h
theorem qt N Y O I U J(Q:QT [.pk,.i,.str,.str,.i,.dc,.dc,.dc,.dc,.row 35 9])(h :
Bel N Y->∃ a b,∃ c:Nat,(Y.cell 8)=D.sl a 9 b c/\yu Q N O I U J 0 0 a b c (b.length:Int) 0 Y 0 b0 b0 0 0
 none [] 0 0 none [] 0 none [] 0 [] 0 N):jC 186 [.dg 9 Y,.fn 255 [.pd O 0 I,.pd U 9 J]] N Q:=
  eE tN h
theorem tZ {Q:QT [.ag 9]}{N0 a7 e7 c7 n8 bj bh bm bi Y y0 aa y2 ak al ao aq au aw ax ay az a6 a8 ba bb bc bg ac ae ah ai I J O U}{ab aj:Nat}{r5 q5 N}(h :
Br (decide (Y<bi)) (jL Y bh/\Br (bne Y n8) (kA 9 232 [.dg 9 (bh.getD Y.toNat jD),.str aa,.dg 9 y2] N
 (λx a=>(0<=Y/\Y<(ab:Int)/\(0+Y.toNat:Nat)<r5.length)/\(0+Y.toNat:Nat)<r5.length/\ya Q N0 a7 e7 c7 n8 bj
 bh bm bi (jW.wrap (Y+1)) y0 aa y2 ak al ao aq au aw ax ay az a6 a8 ba bb bc bg ac ae ah ai I J
 O U ab aj (List.set r5 (0+Y.toNat:Nat) x) q5 a)) (ya Q N0 a7 e7 c7 n8 bj bh bm bi (jW.wrap (Y+1)) y0 aa y2
 ak al ao aq au aw ax ay az a6 a8 ba bb bc bg ac ae ah ai I J O U ab aj r5 q5 N)) (kB 174 [.sv a7 0 e7 c7,
 .str aa] N (λb d=>Br b (w3 (ab=r5.length/\aj=q5) (∀ a b,d<=b->Fresh N0 b a [D.ag r5,I,J,O,U]->uP b (Q (D.ag [D.j ac,
 D.t ae,D.t ah,D.j ai,I,J,O,U,D.sl a 9 r5 q5])))) (∃ a b,∃ c:Nat,(y0.cell 8)=D.sl a 9 b c/\jL n8 b/\∀ a,d<=a->ACalls prog 256 [.row 9 0] [.dg 9 (b.getD n8.toNat jD)] a (λb c d=>a<=d->Bel d (D.ag b)->(b.length =
 b.length/\c=c)/\∀ a,ApA a b->∀ e,d<=e->xj e [a]->ACalls prog 174 [.bool] [.sv a 0 b c,.str aa] e (λa b=>e <=
 b->Br (!a) (w3 (ab=r5.length/\aj=q5) (∀ a c,b<=c->Fresh N0 c a [D.ag r5,I,J,O,U]->uP c (Q (D.ag [D.j ac,D.t
 ae,D.t ah,D.j ai,I,J,O,U,D.sl a 9 r5 q5])))) (∀ a,b<=a->ACalls prog 256 [.row 9 0] [.dg 9 y2] a (λb c d=>a <=
 d->Bel d (D.ag b)->yb Q N0 n8 b.length c a7 e7 c7 (e7.length:Int) 0 aa y2 ak al ao aq au aw ax ay az a6
 a8 ba bb bc bg ac ae ah ai I J O U ab aj b c r5 q5 d)))))))):ya Q N0 a7 e7 c7 n8 bj bh bm bi Y y0 aa y2 ak al ao aq au aw ax ay az a6 a8 ba bb bc bg ac ae ah ai I J O U ab aj r5 q5 N:=
  hE uk h
theorem qe {Q:QT [.pk,.i,.str,.str,.i,.dc,.dc,.dc,.dc,.row 35 9]}{N0 n1 s2 a3 e3 c3 bg ah bh O ak al ao aq au aw ax ay az a6 a7 a8 ba bb bc U ai aj Y aa ab ac ae I J r2 q2 N}(h :
Br (decide (O<(ah.length:Int))) (jL O ah/\∃ s,ah.getD O.toNat jD=D.t s/\∀ b,N<=b->ACalls prog
 210 [.i] [.sv a3 0 e3 c3,.str s] b (λn d=>b<=d->Br (decide (n<0)) (yr Q N0 n1 s2 a3 e3 c3 bg ah bh (jW.wrap (O+1))
 ak al ao aq au aw ax ay az a6 a7 a8 ba bb bc U ai aj Y aa ab ac ae I J r2 q2 d) ((I=r2.length/\J
 = q2)/\∀ a,ApA a r2->∀ b,d<=b->xj b [a]->ACalls prog 209 [.sl 0,.i] [.dg 9 (D.ag [D.j U,D.t ai,D.t aj,D.j Y,aa,ab,ac,ae,
 D.sl a 9 r2 J])] b (λc d e _ f=>b<=f->Off [a] (D.sl c 0 d e)/\(Bel f (D.sl c 0 d e)->(0<=n1/\n1<(I:Int)/\(0+n1.toNat :
 Nat)<r2.length)/\(0+n1.toNat:Nat)<r2.length/\kL 0 211 [.dg 9 (List.getD r2 (0+n1.toNat:Nat) default)] f (λa b c e=>∀ f,e<=f ->
 ACalls prog 245 [.row 9 0] [.sv a3 0 e3 c3,.sv a 0 b c] f (λa b c=>f<=c->Bel c (D.ag a)->(a.length=a.length/\b=b) /\
 zB a [D.t s2] 16/\∀(b:Nat),((a++[D.t s2]).length=(a++[D.t s2]).length/\b=b)/\zB (a++[D.t s2]) d 16/\∀(b :
 Nat),((a++[D.t s2]++d).length=(a++[D.t s2]++d).length/\b=b)/\∀ e,ApA e (a++[D.t s2]++d)->∀ f,c<=f->xj f [e]
 -> ACalls prog 246 [.str] [.sv e 0 (a++[D.t s2]++d) b] f (λa b=>f<=b->(0<=n1/\n1<(I:Int)/\(0+n1.toNat:Nat)<r2.length)
 /\ (0+n1.toNat:Nat)<r2.length/\jL O ah/\∃ c,ah.getD O.toNat jD=D.t c/\kA 9 77 [.str a] b (λx b
 => kA 9 158 [.dg 9 (List.getD r2 (0+n1.toNat:Nat) default),.str c,.dg 9 x] b (λb c=>(0<=n1/\n1<(I:Int)/\(0+n1.toNat:Nat) <
 r2.length)/\(0+n1.toNat:Nat)<r2.length/\Br (O==0) (yr Q N0 n1 s2 a3 e3 c3 bg ah bh (jW.wrap (O+1)) ak al ao aq
 au aw ax ay az a6 a7 a8 ba bb bc U a aj Y aa ab ac ae I J (List.set r2 (0+n1.toNat:Nat) b) q2 c)
 (yr Q N0 n1 s2 a3 e3 c3 bg ah bh (jW.wrap (O+1)) ak al ao aq au aw ax ay az a6 a7 a8 ba bb bc U
 ai a Y aa ab ac ae I J (List.set r2 (0+n1.toNat:Nat) b) q2 c))))))))))) ((I=r2.length/\J=q2)/\uP N (Q U ai aj
 Y aa ab ac ae r2 J))):yr Q N0 n1 s2 a3 e3 c3 bg ah bh O ak al ao aq au aw ax ay az a6 a7 a8 ba bb bc U ai aj Y aa ab ac ae I J r2 q2 N:=
  hE BI h
theorem sW {Q:QT [.ag 9]}{N0 s1 n9 bc I y0 aj ak al ao aq au aw ax ay az a6 a7 a8 ba bb ab ac ae ah O U Y aa}{J ai:Nat}{r3 q3 N}(h :
Br (decide (I<(J:Int))) (Br (bne I n9) ((0<=I/\I<(J:Int)/\(0+I.toNat:Nat)<r3.length)/\(0+I.toNat:Nat)<r3.length /\
 kA 9 158 [.dg 9 (List.getD r3 (0+I.toNat:Nat) default),.str s1,.dg 9 y0] N (λx a=>(0<=I/\I<(J:Int)/\(0+I.toNat:Nat) <
 r3.length)/\(0+I.toNat:Nat)<r3.length/\zE Q N0 s1 n9 bc (jW.wrap (I+1)) y0 aj ak al ao aq au aw ax ay
 az a6 a7 a8 ba bb ab ac ae ah O U Y aa J ai (List.set r3 (0+I.toNat:Nat) x) q3 a)) (Br (!bc) ((0<=I/\I<(J
 : Int)/\(0+I.toNat:Nat)<r3.length)/\(0+I.toNat:Nat)<r3.length/\kA 9 158 [.dg 9 (List.getD r3 (0+I.toNat:Nat) default),.str s1,.dg 9
 y0] N (λa b=>(0<=I/\I<(J:Int)/\(0+I.toNat:Nat)<r3.length)/\(0+I.toNat:Nat)<r3.length/\zE Q N0 s1 n9 bc
 (jW.wrap (I+1)) y0 aj ak al ao aq au aw ax ay az a6 a7 a8 ba bb ab ac ae ah O U Y aa J ai
 (List.set r3 (0+I.toNat:Nat) a) q3 b)) (zE Q N0 s1 n9 bc (jW.wrap (I+1)) y0 aj ak al ao aq au aw ax ay
 az a6 a7 a8 ba bb ab ac ae ah O U Y aa J ai r3 q3 N))) (w4 (J=r3.length/\ai=q3) (∀ a b,N<=b->Fresh N0 b a
 [D.ag r3,O,U,Y,aa]->uP b (Q (D.ag [D.j ab,D.t ac,D.t ae,D.j ah,O,U,Y,aa,D.sl a 9 r3 q3]))))):zE Q N0 s1 n9 bc I y0 aj ak al ao aq au aw ax ay az a6 a7 a8 ba bb ab ac ae ah O U Y aa J ai r3 q3 N:=
  hE qO h
theorem ub {Q:QT [.pk,.i,.str,.str,.i,.dc,.dc,.dc,.dc,.row 35 9]}{N0 O I U J m5 c5 a7 aa a8 a6 Y y0 ab ac ae ah ai aj ak al ao aq au aw ax ay az r2 q2 N}(h :
Br (decide (Y<a6)) (jL Y aa/\kA 9 255 [.dg 9 (aa.getD Y.toNat jD),.pd O 0 I,.pd U 9 J] N
 (λx a=>(m5=r2.length/\c5=q2)/\zB r2 [x] 136/\∀(c:Nat),yu Q N0 O I U J (r2++[x]).length c a7 aa a8
 a6 (jW.wrap (Y+1)) y0 ab ac ae ah ai aj ak al ao aq au aw ax ay az (r2++[x]) c a)) ((m5=r2.length/\c5=q2) /\
 ∀ a,ApA a r2->Off [a] y0->∀ b,N<=b->xj b [a]->ACalls prog 189 [.pk,.i,.str,.str,.i,.dc,.dc,.dc,.dc,Sh.bk 1] [.dg 9 y0,.sv a 9 r2 c5] b
 (λn s c d e f g h i j=>b<=j->i=D.sl a 9 r2 c5/\Off [a] e/\Off [a] f/\Off [a] g/\Off [a] h/\(m5=r2.length/\c5=q2) /\
 uP j (Q n s c d e f g h r2 c5)))):yu Q N0 O I U J m5 c5 a7 aa a8 a6 Y y0 ab ac ae ah ai aj ak al ao aq au aw ax ay az r2 q2 N:=
  hE tN h
theorem tf {Q:QT [.ag 9]}{N0 n8 al ab a75 ao c75 bj ak J y1 aq au aw ax ay az a6 a7 a8 ba bb bc bg bh bi ac ae ah ai O U Y aa I aj r4 q4 r5 q5 N}(h :
Br (decide (ak<bj)) (jL ak ao/\∃ s,ao.getD ak.toNat jD=D.t s/\(al=r4.length/\ab=q4)/\∀ a,ApA a r4
 -> ∀ d,N<=d->xj d [a]->ACalls prog 174 [.bool] [.sv a 0 r4 ab,.str s] d (λb a=>d<=a->Br b (w2 (I=r5.length/\aj=q5) (∀ b d,a
 <= d->Fresh N0 d b [D.ag r5]->(al=r4.length/\ab=q4)/\∀ a,ApA a r4->∀ e,d<=e->xj e [a]->ACalls prog 257 [.pk,.i,.str,.str,.i,
 .dc,.dc,.dc,.dc,.row 35 9] [.dg 9 (D.ag [D.j ac,D.t ae,D.t ah,D.j ai,O,U,Y,aa,D.sl b 9 r5 q5]),.j n8,.str s,.sv a 0 r4
 ab,.str J] e (λn b c d x f g h i j k=>e<=k->Off [a] x/\Off [a] f/\Off [a] g/\Off [a] h/\Off [a] (D.ag i) /\
 (Bel k (D.ag i)->yb Q N0 n8 al ab a75 ao c75 bj (jW.wrap (ak+1)) J y1 aq au aw ax ay az a6 a7 a8 ba
 bb bc bg bh bi n b c d x f g h i.length j r4 q4 i j k)))) (yb Q N0 n8 al ab a75 ao c75 bj (jW.wrap (ak +
 1)) J y1 aq au aw ax ay az a6 a7 a8 ba bb bc bg bh bi ac ae ah ai O U Y aa I aj r4 q4 r5 q5 a))) ((0 <=
 n8/\n8<(I:Int)/\(0+n8.toNat:Nat)<r5.length)/\(0+n8.toNat:Nat)<r5.length/\kA 9 232 [.dg 9 (List.getD r5 (0+n8.toNat:Nat) default),
 .str J,.dg 9 y1] N (λa b=>(0<=n8/\n8<(I:Int)/\(0+n8.toNat:Nat)<r5.length)/\(0+n8.toNat:Nat)<r5.length/\w5 (I=(List.set
 r5 (0+n8.toNat:Nat) a).length/\aj=q5) (∀ c d,b<=d->Fresh N0 d c [D.ag (List.set r5 (0+n8.toNat:Nat) a),O,U,Y,aa]->∀
 b,d<=b->Q (D.ag [D.j ac,D.t ae,D.t ah,D.j ai,O,U,Y,aa,D.sl c 9 (List.set r5 (0+n8.toNat:Nat) a) q5]) b)))):yb Q N0 n8 al ab a75 ao c75 bj ak J y1 aq au aw ax ay az a6 a7 a8 ba bb bc bg bh bi ac ae ah ai O U Y aa I aj r4 q4 r5 q5 N:=
  hE uk h
theorem AK N O a1 I a2 J(Q:QT [.ag 9])(h :
Bel N O->∃ s,I=D.t s/\kA 9 232 [.dg 9 O,.str s,.dg 9 J] N (λx a=>uP a (Q x))):jC 255 [.dg 9 O,.pd a1 0 I,.pd a2 9 J] N Q:=
 eE Bz h
end Go.Proofs.YtlaniepnglheoaaGreatDoor
set_option maxRecDepth 100000
namespace Go.Proofs.YtlaniepnglheoaaGreatDoor
open Go Go.Proofs Go.Proofs.Tryz
def BC:Hint:=⟨[hc 5 [1,2,4,5,15,16,17]],[],[(11,[en 0,en 1,en 2,en 3,en 4,en 5,en 6,en 7,eh 8,en 9,en 10,en 11,en 12,en 13])]⟩
def MD:Hint:=⟨[],[],[(6,hs 8 [ec 1 [25]]),(11,hs 10 [ec 7 [42]]),(15,[en 0,en 1,en 2,en 3,en 4,en 5,en 6,en 7,en 8,en 9,ec 10 [53,59],eh 11,en 12]),(17,[en 0,en 1,en 2,en 3,en 4,en 5,en 6,en 8,en 9,en 10,en 11,en 12,en 13,ec 7 [66,69],ec 14 [70,76],eh 15,en 16]),(19,[en 0,en 1,en 2,en 3,en 4,en 5,en 6,ec 7 [83,86],eh 8,en 9]),(21,hs 8 [ec 1 [91]]),(25,hs 8 [ec 1 [100]])]⟩
def B5:Hint:=⟨[hc 11 [1,2,3,6,54,55,56]],[],[(3,hs 3 [ec 1 [31]]),(4,hs 9 [ec 2 [36]]),(5,hs 8 [ec 3 [40]]),(6,hs 8 [ec 1 [46]]),(13,[en 0,en 1,en 2,en 4,en 10,ec 3 [63],ec 5 [62],en 6,en 7,en 8,en 9,eh 11,en 12,en 13]),(15,hs 4 [ec 1 [72]])]⟩
def GT:Hint:=⟨[hc 7 [1,2,32,33]],[],[(1,hs 2 [ec 1 [11]]),(4,hs 13 [ec 4 [21]]),(5,hs 7 [ec 3 [26]]),(6,hs 3 [ec 1 [31]]),(9,hs 6 [ec 5 [40]]),(10,hs 12 [ec 5 [47]]),(11,hs 4 [ec 1 [51]]),(15,hs 6 [ec 1 [61]])]⟩
def GM:Hint:=⟨[],[],[(1,hs 8 [ec 5 [8]]),(3,hs 7 [ec 4 [16]])]⟩
def KA:Hint:=⟨[],[],[(1,hs 13 [ec 10 [13]]),(3,hs 6 [ec 1 [18],ec 2 [19],ec 3 [20]])]⟩
def GN:Hint:=⟨[],[],[(6,hs 3 [ec 1 [10]]),(8,hs 10 [ec 1 [14],ec 7 [20]])]⟩
def Bt:Hint:=⟨[],[],[(1,hs 9 [ec 2 [5],ec 6 [9]])]⟩
def BB:Hint:=⟨[hc 4 [1,2,3,15,16,17]],[],[(1,hs 5 [ec 3 [10]]),(6,[en 0,en 1,en 2,en 4,ec 3 [22],ec 5 [21],en 6])]⟩
def yp (Q:QT [.ag 9,.bool]) N0 n4 m5 c5 aq au aw ax ay y0 I J O U Y aa ab ac ae ah ai aj ak al ao r2 q2 N:=jT 231 5 Q N0 (an 1 (.pb 0 0 0 0::.pb 1 0 0 0::an 1 (.j n4::.sb 2 0 0 m5 c5::an 9 (.sv aq 9 au aw::.j ax::.j ay::an 33 [])))) [.vd y0 9,jV I J O U Y aa ab ac ae ah ai aj ak al ao,.arr 3 0 r2 q2] N
def tA (Q:QT [.ag 9,.i]) N0 aq au y0 I J O U Y aa ab ac ae ah ai aj ak al ao N:=jT 125 7 Q N0 (an 1 (.pb 0 0 0 0::.pb 1 0 0 0::an 29 (.j aq::.j au::an 31 []))) [.vd y0 9,jV I J O U Y aa ab ac ae ah ai aj ak al ao] N
def yq (Q:QT [.ag 9,.i,.bool]) N0 n1 aq au aw ax ay y0 I J O U Y aa ab ac ae ah ai aj ak al ao N:=jT 188 11 Q N0 (an 1 (.j n1::.fn 125 []::.pb 0 0 0 0::an 2 (.pb 1 0 0 0::an 47 (.sv aq 9 au aw::.j ax::.j ay::an 26 [])))) [.vd y0 9,jV I J O U Y aa ab ac ae ah ai aj ak al ao] N
def wh (Q:QT [.bool]) N0 n1 I J O U Y y0 N:=jT 118 4 Q N0 (an 1 (.j n1::.fn 229 []::.pb 0 0 0 0::an 11 (.sv I 9 J O::.j U::.j Y::an 11 []))) [.vd y0 9] N
theorem H8 N I(Q:QT [.bool])(h :
Br (jE I (bytes [38])) (uP N (Q true)) (Br (jE I (bytes [124])) (uP N (Q true)) (uP N
 (Q (jE I (bytes [33])))))):jC 251 [.str I] N Q:=
  eE H0 h
theorem Fg N I(Q:QT [.bool])(h :
kB 251 [.str I] N (λb a=>Br b (uP a (Q true)) (Br (jE I (bytes [61])) (uP a (Q true)) (uP a (Q
 (jE I (bytes [60]))))))):jC 253 [.str I] N Q:=
  eE H0 h
theorem I4 N I(Q:QT [.ag 9,.bool])(h :
Bel N I->∃ s,(I.cell 1)=D.t s/\kB 251 [.str s] N (λb d=>Br b (∃ a b,∃ c:Nat,(I.cell 8)=D.sl a 9 b c/\yp Q N 3 2 2 a b
 c (b.length:Int) 0 I 0 b0 b0 0 0 none [] 0 0 none [] 0 none [] 0 [D.j 0,D.j 0] 2 d) (∃ a b,∃ c:Nat,(I.cell 8)=D.sl a 9 b c /\
 yp Q N 2 2 2 a b c (b.length:Int) 0 I 0 b0 b0 0 0 none [] 0 0 none [] 0 none [] 0 [D.j 0,D.j 0] 2 d))):jC 231 [.dg 9 I] N Q:=
  eE BC h
theorem E8 N n0(Q:QT [.ag 9])(h :
∀ a,N<=a->Q (D.ag [D.j 2,D.t b0,D.t b0,D.j n0,D.j 0,jN,D.j 0,jN,D.sl none 9 [] 0]) a):jC 110 [.j n0] N Q:=
  eE H0 h
theorem s9 N n0 b1(Q:QT [.ag 9])(h :
Br b1 (∀ a,N<=a->Q (D.ag [D.j 3,D.t b0,D.t b0,D.j n0,D.j 0,jN,D.j 0,jN,D.sl none 9 [] 0]) a) (kA 9 110 [.j n0] N
 (λx a=>uP a (Q x)))):jC 105 [.j n0,.bool b1] N Q:=
  eE H0 h
theorem Iw N I n1 n2(Q:QT [.i,.bool])(h :
kB 236 [.j n1] N (λb a=>Br (!b) (uP a (Q 0 false)) (kB 236 [.j n2] a (λa b=>Br (!a) (uP b (Q 0 false)) (Br (jE I (bytes [43])) (kI 271 [.j (jW.wrap (n1+n2))] b (λn a=>uP a (Q n true))) (Br (jE I (bytes
 [45])) (kI 271 [.j (jW.wrap (n1 - n2))] b (λa b=>uP b (Q a true))) (Br (jE I (bytes [42])) (kI 271 [.j
 (jW.wrap (n1*n2))] b (λa b=>uP b (Q a true))) (Br (jE I (bytes [61])) (kI 272 [.bool (n1==n2)] b
 (λa b=>uP b (Q a true))) (Br (jE I (bytes [60])) (kI 272 [.bool (decide (n1<n2))] b (λa b=>uP b (Q
 a true))) (Br (jE I (bytes [38])) (Br (n1==1) (kI 272 [.bool (n2==1)] b (λa b=>uP b (Q a true))) (kI 272
 [.bool false] b (λa b=>uP b (Q a true)))) (Br (jE I (bytes [124])) (Br (n1==1) (kI 272 [.bool true] b (fun
 a b=>uP b (Q a true))) (kI 272 [.bool (n2==1)] b (λa b=>uP b (Q a true)))) (Br (jE I (bytes [33]))
 (kI 272 [.bool (n1==0)] b (λa b=>uP b (Q a true))) (uP b (Q 0 false)))))))))))))):jC 252 [.str I,.j n1,.j n2] N Q:=
  eE H0 h
theorem LX N n0(Q:QT [.i])(h :
(10007:Int)≠(0:Int)/\(10007:Int)≠(0:Int)/\∀ a,N<=a->Q (Int.tmod (jW.wrap (Int.tmod n0 10007+10007)) 10007) a):jC 271 [.j n0] N Q:=
 eE H0 h
theorem Ro N b0(Q:QT [.i])(h :
Br b0 (uP N (Q 1)) (uP N (Q 0))):jC 272 [.bool b0] N Q:=
 eE H0 h
theorem Ni N I(Q:QT [.ag 9,.i])(h :
Bel N I->∃ a d,∃ c:Nat,(I.cell 8)=D.sl a 9 d c/\Br (decide ((d.length:Int)>0)) (∃ a c,∃ d:Nat,(I.cell 8)=D.sl a 9 c d
 /\ jL 0 c/\∃ n:Int,(I.cell 0)=D.j n/\Br (n==4) (kAB 9 231 [.dg 9 I] N (λx b a=>Br b (uP a (Q x 1))
 (uP a (Q I 0)))) (Br (n==5) (∃ a:Int,D.cell (c.getD 0 jD) 0=D.j a/\Br (a==3) (∃ a b,∃ d:Nat,(I.cell 8)=D.sl a 9
 b d/\∃ a:Int,D.cell (c.getD 0 jD) 3=D.j a/\(0<=jW.wrap (2 - a)/\jW.wrap (2 - a)<(b.length:Int))/\∀
 c,N<=c->ACalls prog 123 [.pk,.i,.str,.str,.i,.dc,.dc,.dc,.dc,.row 35 9] [.dg 9 (List.getD b (jW.wrap (2 - a)).toNat default)] c
 (λa s b d e f g h i j k=>c<=k->Bel k (D.ag i)->w2 (i.length=i.length/\j=j) (∀ c l,k<=l->Fresh N l c
 [D.ag i,e,f,g,h]->uP l (Q (D.ag [D.j a,D.t s,D.t b,D.j d,e,f,g,h,D.sl c 9 i j]) 2)))) (uP N (Q I 0))) (Br (n ==
 7) (∃ a:Int,D.cell (c.getD 0 jD) 0=D.j a/\Br (a==6) (∃ a b,∃ d:Nat,D.cell (c.getD 0 jD) 8=D.sl a 9 b
 d/\jL 0 b/\∃ a,D.cell (c.getD 0 jD) 1=D.t a/\∃ c d,∃ e:Nat,(I.cell 8)=D.sl c
 9 d e/\jL 1 d/\kA 9 232 [.dg 9 (b.getD 0 jD),.str a,.dg 9 (d.getD 1 jD)] N (fun
 a b=>uP b (Q a 3))) (Br (a==9) (∃ a b,∃ d:Nat,D.cell (c.getD 0 jD) 8=D.sl a 9 b d/\jL 0 b/\∃ a,D.cell (c.getD 0 jD) 1=D.t a/\∃ d,D.cell (c.getD 0 jD) 2=D.t d/\∃ e f,∃ g:Nat,
 (I.cell 8)=D.sl e 9 f g/\jL 1 f/\kA 9 232 [.dg 9 (b.getD 0 jD),.str a,.dg 9 (c.getD 0 jD)] N (λa b=>kA 9 232 [.dg 9 a,.str d,.dg 9 (f.getD 1 jD)] b (λa b=>uP b (Q a 4)))) (uP N (Q I 0))))
 (Br (n==8) (∃ a b,∃ d:Nat,(I.cell 8)=D.sl a 9 b d/\jL 1 b/\∃ a,(I.cell 1)=D.t a/\kA
 9 232 [.dg 9 (b.getD 1 jD),.str a,.dg 9 (c.getD 0 jD)] N (λa b=>uP b (Q a 5))) (Br (n==12) (kAB 9 230 [.dg 9
 (c.getD 0 jD)] N (λa b c=>Br b (uP c (Q a 7)) (uP c (Q I 0)))) (Br (n==13) (kAB 9 233 [.dg 9 (c.getD 0 jD)] N
 (λa b c=>Br b (uP c (Q a 8)) (uP c (Q I 0)))) (uP N (Q I 0)))))))) (∃ a:Int,(I.cell 0)=D.j a/\Br (a==4) (kAB 9 231 [.dg 9
 I] N (λa b c=>Br b (uP c (Q a 1)) (uP c (Q I 0)))) (Br (a==5) (uP N (Q I 0)) (Br (a==7) (uP N (Q I 0)) (Br (a==8) (∃ a
 b,∃ c:Nat,(I.cell 8)=D.sl a 9 b c/\jL 1 b/\∃ a,(I.cell 1)=D.t a/\kA 9 232 [.dg 9
 (b.getD 1 jD),.str a,.dg 9 (D.ag [D.j 0,D.t b0,D.t b0,D.j 0,D.j 0,jN,D.j 0,jN,D.sl none 9 [] 0])] N (fun
 a b=>uP b (Q a 5))) (Br (a==12) (kAB 9 230 [.dg 9 (D.ag [D.j 0,D.t b0,D.t b0,D.j 0,D.j 0,jN,D.j 0,jN,D.sl
 none 9 [] 0])] N (λa b c=>Br b (uP c (Q a 7)) (uP c (Q I 0)))) (Br (a==13) (kAB 9 233 [.dg 9 (D.ag [D.j 0,D.t b0,D.t b0,D.j 0,D.j
 0,jN,D.j 0,jN,D.sl none 9 [] 0])] N (λa b c=>Br b (uP c (Q a 8)) (uP c (Q I 0)))) (uP N (Q I 0))))))))):jC 191 [.dg 9 I] N Q:=
  eE MD h
theorem IA N I(Q:QT [.i])(h :
Bel N I->∃ n:Int,(I.cell 0)=D.j n/\Br (n==4) (∃ a b,∃ c:Nat,(I.cell 8)=D.sl a 9 b c/\uP N (Q (b.length:Int))) (Br (n==7) (∃ a
 b,∃ c:Nat,(I.cell 8)=D.sl a 9 b c/\uP N (Q (b.length:Int))) (Br (n==5) (uP N (Q 1)) (Br (n==8) (uP N (Q 1)) (Br (n==12) (uP N (Q
 1)) (Br (n==13) (uP N (Q 1)) (uP N (Q 0)))))))):jC 190 [.dg 9 I] N Q:=
  eE H0 h
theorem PT N I(Q:QT [.ag 9,.i])(h :
Bel N I->kB 124 [.dg 9 I] N (λb d=>Br b (uP d (Q I 0)) (∃ n:Int,(I.cell 0)=D.j n/\Br (n==10) (∃ a b,∃ c:Nat,(I.cell 8)=D.sl a 9
 b c/\jL 0 b/\∀ a,d<=a->ACalls prog 188 [.ag 9,.i,.bool] [.dg 9 (b.getD 0 jD),.j 1,.fn 125 []]
 a (λx b _ c=>a<=c->Bel c x->(1=([x]).length/\1=1)/\∀ a,ApA a [x]->Off [a] I->∀ d,c<=d->xj d [a]->ACalls prog 189
 [.pk,.i,.str,.str,.i,.dc,.dc,.dc,.dc,Sh.bk 1] [.dg 9 I,.sv a 9 [x] 1] d (λc s e f g h i j k l=>d<=l->k=D.sl a 9
 [x] 1/\Off [a] g/\Off [a] h/\Off [a] i/\Off [a] j/\w3 (1=([x]).length/\1=1) (∀ a d,l<=d->Fresh N d a [D.ag [x],g,h,
 i,j]->uP d (Q (D.ag [D.j c,D.t s,D.t e,D.j f,g,h,i,j,D.sl a 9 [x] 1]) b))))) (kI 190 [.dg 9 I] d (λa b=>
 tA Q N a 0 I 0 b0 b0 0 0 none [] 0 0 none [] 0 none [] 0 b))))):jC 125 [.dg 9 I] N Q:=
  eE GT h
theorem Hz N I(Q:QT [.ag 9,.bool])(h :
Bel N I->∃ n:Int,(I.cell 0)=D.j n/\Br (bne n 10) (∀ a,N<=a->Q (D.ag [D.j 0,D.t b0,D.t b0,D.j 0,D.j 0,jN,D.j 0,D.sl none
 2 [] 0,D.sl none 9 [] 0]) false a) (kB 124 [.dg 9 I] N (λb d=>Br (!b) (∀ a,d<=a->Q (D.ag [D.j 0,D.t b0,D.t b0,D.j 0,D.j 0,jN,
 D.j 0,jN,D.sl none 9 [] 0]) false a) (∃ a b,∃ c:Nat,(I.cell 8)=D.sl a 9 b c/\jL 0 b/\∀ a,
 d<=a->ACalls prog 123 [.pk,.i,.str,.str,.i,.dc,.dc,.dc,.dc,.row 35 9] [.dg 9 (b.getD 0 jD)] a (λb s c d x e f g h i
 j=>a<=j->Bel j (D.ag h)->w2 (h.length=h.length/\i=i) (∀ a k,j<=k->Fresh N k a [D.ag h,x,e,f,g]->uP k (Q
 (D.ag [D.j b,D.t s,D.t c,D.j d,x,e,f,g,D.sl a 9 h i]) true))))))):jC 230 [.dg 9 I] N Q:=
  eE GM h
theorem LW N I(Q:QT [.ag 9,.bool])(h :
Bel N I->∃ n:Int,(I.cell 0)=D.j n/\Br (bne n 2) (∃ d:Int,(I.cell 0)=D.j d/\Br (bne d 3) (∀ a,N<=a->Q (D.ag [D.j 0,D.t b0,D.t
 b0,D.j 0,D.j 0,jN,D.j 0,jN,D.sl none 9 [] 0]) false a) (kB 64 [.dg 9 I] N (λb d=>Br (!b) (∀ a,d<=a->Q (D.ag [D.j
 0,D.t b0,D.t b0,D.j 0,D.j 0,jN,D.j 0,jN,D.sl none 9 [] 0]) false a) (∀ b,d<=b->ACalls prog 123 [.pk,.i,.str,.str,
 .i,.dc,.dc,.dc,.dc,.row 35 9] [.dg 9 I] b (λc s d e x f g h i j k=>b<=k->Bel k (D.ag i)->(i.length=i.length/\j=j)/\∀ a
 b,k<=b->Fresh N b a [D.ag i]->(1=([D.ag [D.j c,D.t s,D.t d,D.j e,x,f,g,h,D.sl a 9 i j]]).length/\1=1)/\∀ k l,b<=l ->
 Fresh N l k [D.ag [D.ag [D.j c,D.t s,D.t d,D.j e,x,f,g,h,D.sl a 9 i j]]]->kA 9 258 [.j 10,.sv k 9 [D.ag [D.j c,D.t s,D.t d,
 D.j e,x,f,g,h,D.sl a 9 i j]] 1] l (λa b=>uP b (Q a true))))))) (kB 64 [.dg 9 I] N (λa b=>Br (!a) (∀ a,b<=a->Q
 (D.ag [D.j 0,D.t b0,D.t b0,D.j 0,D.j 0,jN,D.j 0,jN,D.sl none 9 [] 0]) false a) (∀ a,b<=a->ACalls prog 123 [.pk,
 .i,.str,.str,.i,.dc,.dc,.dc,.dc,.row 35 9] [.dg 9 I] a (λb c d e f g h i j k l=>a<=l->Bel l (D.ag j) ->
 (j.length=j.length/\k=k)/\∀ a m,l<=m->Fresh N m a [D.ag j]->(1=([D.ag [D.j b,D.t c,D.t d,D.j e,f,g,h,
 i,D.sl a 9 j k]]).length/\1=1)/\∀ l n,m<=n->Fresh N n l [D.ag [D.ag [D.j b,D.t c,D.t d,D.j e,f,g,h,i,D.sl
 a 9 j k]]]->kA 9 258 [.j 10,.sv l 9 [D.ag [D.j b,D.t c,D.t d,D.j e,f,g,h,i,D.sl a 9 j k]] 1] n (λa b=>uP
 b (Q a true))))))):jC 233 [.dg 9 I] N Q:=
  eE KA h
theorem H2 N I(Q:QT [.bool])(h :
Bel N I->∃ n:Int,(I.cell 0)=D.j n/\Br (n==2) (kB 64 [.dg 9 I] N (λb a=>uP a (Q b))) (Br (n==3) (kB 64 [.dg 9 I] N (λa b=>uP
 b (Q a))) (Br (n==6) (kB 64 [.dg 9 I] N (λa b=>uP b (Q a))) (Br (n==9) (kB 64 [.dg 9 I] N (λa b=>uP b (Q a))) (Br (n==10) (kB
 64 [.dg 9 I] N (λb d=>Br b (∃ a b,∃ c:Nat,(I.cell 8)=D.sl a 9 b c/\jL 0 b/\kB 187 [.dg 9
 (b.getD 0 jD),.j 1] d (λa b=>uP b (Q a))) (uP d (Q false)))) (uP N (Q false))))))):jC 124 [.dg 9 I] N Q:=
  eE GN h
theorem DG N I n1(Q:QT [.bool])(h :
Bel N I->kB 57 [.dg 9 I,.j n1] N (λb a=>Br b (kB 118 [.dg 9 I,.j n1,.fn 229 []] a (λa b=>uP b (Q a))) (uP a (Q false)))):jC 187 [.dg 9 I,.j n1] N Q:=
 eE Bt h
theorem A1 N I n1(Q:QT [.bool])(h :
Bel N I->∃ n:Int,(I.cell 0)=D.j n/\Br (bne n 11) (uP N (Q true)) (uP N (Q (bne n1 1)))):jC 229 [.dg 9 I,.j n1] N Q:=
 eE H0 h
theorem qW {Q:QT [.ag 9,.bool]}{N0 n4}{m5 c5:Nat}{ay J az ax I y0 U Y aa ab ac ae ah ai aj ak al ao aq au aw O q2 N}(h :
Br (decide (I<ax)) (jL I J/\∃ n:Int,D.cell (J.getD I.toNat jD) 0=D.j n/\Br (bne n n4) (∀ a,N<=a
 -> Q (D.ag [D.j 0,D.t b0,D.t b0,D.j 0,D.j 0,jN,D.j 0,jN,D.sl none 9 [] 0]) false a) (∃ a:Int,D.cell (J.getD I.toNat jD) 3=D.j a/\(0<=I/\I<(m5:Int)/\(0+I.toNat:Nat)<O.length)/\(0+I.toNat:Nat)<O.length/\yp Q N0 n4
 m5 c5 ay J az ax (jW.wrap (I+1)) y0 U Y aa ab ac ae ah ai aj ak al ao aq au aw (List.set O (0+I.toNat :
 Nat) (D.j a)) q2 N)) (∃ s,(y0.cell 1)=D.t s/\((0:Int)<=(0:Int)/\0<(m5:Int)/\0<O.length)/\0<O.length/\∃ a:Int,O.getD 0 jD=D.j a/\((0:Int)<=(1:Int)/\1<(m5:Int)/\1<O.length)/\1<O.length/\∃ c:Int,O.getD 1 jD=D.j c/\kIB 252 [.str s,
 .j a,.j c] N (λa b c=>∃ d,(y0.cell 1)=D.t d/\kB 253 [.str d] c (λc d=>kA 9 105 [.j a,.bool c] d (λx a=>uP a (Q x
 b)))))):yp Q N0 n4 m5 c5 ay J az ax I y0 U Y aa ab ac ae ah ai aj ak al ao aq au aw O q2 N:=
  hE BC h
theorem Fi N I n1(Q:QT [.ag 9,.i,.bool])(h :
Bel N I->∃ n:Int,(I.cell 0)=D.j n/\Br (n==11) (Br (n1==1) (∃ a d,∃ c:Nat,(I.cell 8)=D.sl a 9 d c/\jL 0 d/\kB 124 [.dg 9 (d.getD 0 jD)] N (λb a=>Br (!b) (∀ b,a<=b->ACalls prog 125 [.ag 9,.i] [.dg 9 (d.getD 0 jD)] b (λx a c=>b<=c->Bel c x->(1=([x]).length/\1=1)/\∀ b,ApA b [x]->Off [b] I->∀ d,c<=d->xj d [b]->ACalls prog
 189 [.pk,.i,.str,.str,.i,.dc,.dc,.dc,.dc,Sh.bk 1] [.dg 9 I,.sv b 9 [x] 1] d (λc s e f g h i j k l=>d<=l->k=D.sl b
 9 [x] 1/\Off [b] g/\Off [b] h/\Off [b] i/\Off [b] j/\w3 (1=([x]).length/\1=1) (∀ b d,l<=d->Fresh N d b [D.ag [x],g,h,
 i,j]->uP d (Q (D.ag [D.j c,D.t s,D.t e,D.j f,g,h,i,j,D.sl b 9 [x] 1]) a true))))) (kAB 9 230 [.dg 9 (d.getD 0 jD)]
 a (λa b c=>Br b (uP c (Q a 6 true)) (uP c (Q I 0 true)))))) (∃ a b,∃ c:Nat,(I.cell 8)=D.sl a 9 b c/\yq
 Q N n1 a b c (b.length:Int) 0 I 0 b0 b0 0 0 none [] 0 0 none [] 0 none [] 0 N)) (∃ a b,∃ c:Nat,(I.cell 8)=D.sl a 9 b c /\
 yq Q N n1 a b c (b.length:Int) 0 I 0 b0 b0 0 0 none [] 0 0 none [] 0 none [] 0 N)):jC 188 [.dg 9 I,.int .i64 n1,.fn 125 []] N Q:=
  eE B5 h
theorem Cm {Q:QT [.ag 9,.i]}{N0 au I y0 J O U Y aa ab ac ae ah ai aj ak al ao aq N}(h :
Br (decide (I<au)) (∃ a d,∃ c:Nat,(y0.cell 8)=D.sl a 9 d c/\jL I d/\kB 124 [.dg 9 (d.getD I.toNat jD)] N (λb a=>Br b (tA Q N0 au (jW.wrap (I+1)) y0 J O U Y aa ab ac ae ah ai aj ak al ao aq
 a) (∃ b c,∃ d:Nat,(y0.cell 8)=D.sl b 9 c d/\jL I c/\∀ b,a<=b->ACalls prog 125 [.ag 9,.i] [.dg 9
 (c.getD I.toNat jD)] b (λx n a=>b<=a->Bel a x->∀ b,a<=b->ACalls prog 123 [.pk,.i,.str,.str,.i,.dc,.dc,.dc,.dc,.row 35
 9] [.dg 9 y0] b (λa s c d e f g h i j k=>b<=k->Bel k (D.ag i)->(0<=I/\I<(i.length:Int)/\(0+I.toNat:Nat) <
 i.length)/\(0+I.toNat:Nat)<i.length/\w5 (i.length=(List.set i (0+I.toNat:Nat) x).length/\j=j) (∀ b l,k<=l->Fresh N0
 l b [D.ag (List.set i (0+I.toNat:Nat) x),e,f,g,h]->∀ k,l<=k->Q (D.ag [D.j a,D.t s,D.t c,D.j d,e,f,g,h,D.sl
 b 9 (List.set i (0+I.toNat:Nat) x) j]) n k)))))) (∀ a,N<=a->ACalls prog 191 [.ag 9,.i] [.dg 9 y0] a (λb c d=>a<=d->Bel d
 b->uP d (Q b c))) ):tA Q N0 au I y0 J O U Y aa ab ac ae ah ai aj ak al ao aq N:=
  hE GT h
theorem Ed N I n1(Q:QT [.bool])(h :
Bel N I->kB 229 [.dg 9 I,.j n1] N (λb d=>Br (!b) (uP d (Q false)) (∃ a b,∃ c:Nat,(I.cell 8)=D.sl a 9 b c/\wh Q N n1 a b
 c (b.length:Int) 0 I d))):jC 118 [.dg 9 I,.int .i64 n1,.fn 229 []] N Q:=
  eE BB h
theorem qY {Q:QT [.ag 9,.i,.bool]}{N0 n1 ax J ay aw I y0 O U Y aa ab ac ae ah ai aj ak al ao aq au N}(h :
Br (decide (I<aw)) (jL I J/\kI 175 [.dg 9 y0,.j n1] N (λn d=>∀ e,d<=e->ACalls prog 188 [.ag 9,.i,.bool]
 [.dg 9 (J.getD I.toNat jD),.j n,.fn 125 []] e (λx b d f=>e<=f->Bel f x->Br d (∀ d,f<=d->ACalls prog 123 [.pk,.i,.str,
 .str,.i,.dc,.dc,.dc,.dc,.row 35 9] [.dg 9 y0] d (λc s e f g h i j k l m=>d<=m->Bel m (D.ag k)->(0<=I/\I<(k.length :
 Int)/\(0+I.toNat:Nat)<k.length)/\(0+I.toNat:Nat)<k.length/\w5 (k.length=(List.set k (0+I.toNat:Nat) x).length/\l=l) (∀ a d,
 m<=d->Fresh N0 d a [D.ag (List.set k (0+I.toNat:Nat) x),g,h,i,j]->∀ m,d<=m->Q (D.ag [D.j c,D.t s,D.t e,D.j f,g,h,
 i,j,D.sl a 9 (List.set k (0+I.toNat:Nat) x) l]) b true m))) (yq Q N0 n1 ax J ay aw (jW.wrap (I+1)) y0 O U
 Y aa ab ac ae ah ai aj ak al ao aq au f)))) (uP N (Q y0 0 false))):yq Q N0 n1 ax J ay aw I y0 O U Y aa ab ac ae ah ai aj ak al ao aq au N:=
  hE B5 h
theorem qU {Q:QT [.bool]}{N0 n1 U J Y O I y0 N}(h :
Br (decide (I<O)) (jL I J/\kI 175 [.dg 9 y0,.j n1] N (λn a=>kB 118 [.dg 9 (J.getD I.toNat jD),.j
 n,.fn 229 []] a (λb a=>Br (!b) (uP a (Q false)) (wh Q N0 n1 U J Y O (jW.wrap (I+1)) y0 a)))) (uP N (Q true))):wh Q N0 n1 U J Y O I y0 N:=
  hE BB h
end Go.Proofs.YtlaniepnglheoaaGreatDoor
set_option maxRecDepth 100000
namespace Go.Proofs.YtlaniepnglheoaaGreatDoor
open Go Go.Proofs Go.Proofs.Tryz
def CC:Hint:=⟨[hc 3 [1,3,4]],[],[(5,hs 9 [ec 6 [17]])]⟩
def sn:Hint:=⟨[hc 6 [1,4,5,6]],[],[(1,hs 8 [ec 1 [9]]),(3,hs 4 [ec 1 [18]]),(6,hs 3 [ec 1 [22]]),(8,hs 2 [ec 1 [27]]),(12,hs 8 [ec 1 [39]])]⟩
def BD:Hint:=⟨[hc 6 [1,2,6,7,8]],[],[(1,hs 8 [{ i:=1,hard:=true,cl:=[11],fs:=[11] }]),(3,hs 4 [{ i:=1,hard:=true,cl:=[20],fs:=[20] }]),(6,hs 4 [{ i:=1,hard:=true,cl:=[25],fs:=[25] }]),(8,hs 3 [{ i:=1,hard:=true,cl:=[31],fs:=[31] }]),(12,hs 8 [{ i:=1,hard:=true,cl:=[44],fs:=[44] }]),(16,hs 3 [{ i:=1,hard:=true,cl:=[56],fs:=[56] }])]⟩
def qIo:Hint:=⟨[],[],[(1,hs 4 [ec 2 [5]])]⟩
def vN (Q:QT [.i]) N0 I n4 J N:=jT 46 3 Q N0 (an 1 (.pb 0 0 0 0::an 1 (.j I::.j n4::an 16 []))) [.vd J 9] N
def qP (Q:QT [.ag 11]) N0 n1 n6 J O U Y aa ab ac ae ah ai aj ak al ao aq au I aw ax ay az a6 a7 a8 ba bb bc r2 q2 N:=jT 18 6 Q N0 (an 1 (.j n1::an 2 (.pb 0 0 0 0::.pb 1 0 0 0::.j n6::an 42 []))) [.var [.j J,.j O,.str U,.str Y,.j aa,.j ab,.sv ac 2 ae ah,.j ai,.sv aj 2 ak al,.sv ao 9 aq au,.j I],.var [.j aw,.str ax,.str ay,.j az,.dc a6,.dc a7,.dc a8,.dc ba,.sb 2 9 0 bb bc],.arr 35 9 r2 q2] N
def xZ (Q:QT [.ag 11]) N0 n1 n6 J O U Y aa ab ac ae ah ai aj ak al ao aq au I y1 N:=jT 18 6 Q N0 (an 1 (.j n1::an 2 (.pb 0 0 0 0::.pb 1 0 0 0::.j n6::an 42 []))) [.var [.j J,.j O,.str U,.str Y,.j aa,.j ab,.sv ac 2 ae ah,.j ai,.sv aj 2 ak al,.sv ao 9 aq au,.j I],.vd y1 9] N
def wi (Q:QT [.ag 11]) N0 n1 n8 J O U Y aa ab ac ae ah ai aj ak al ao aq au I aw ax ay az a6 a7 a8 ba bb bc r2 q2 N:=jT 60 6 Q N0 (an 1 (.j n1::.fn 61 []::an 3 (.pb 0 0 0 0::.pb 1 0 0 0::.j n8::an 49 []))) [.var [.j J,.j O,.str U,.str Y,.j aa,.j ab,.sv ac 2 ae ah,.j ai,.sv aj 2 ak al,.sv ao 9 aq au,.j I],.var [.j aw,.str ax,.str ay,.j az,.dc a6,.dc a7,.dc a8,.dc ba,.sb 2 9 0 bb bc],.arr 35 9 r2 q2] N
theorem Ll N I(Q:QT [.i])(h :
Bel N I->vN Q N 1 0 I N):jC 46 [.dg 9 I] N Q:=
 eE CC h
theorem JA N I n1(Q:QT [.ag 11])(h :
Bel N I->kB 42 [.dg 9 I,.j 0] N (λb a=>Br (!b) (∀ b,a<=b->Q (D.ag [D.j 0,D.j 0,D.t b0,D.t b0,D.j 0,D.j 0,jN,D.j 0,
 jN,D.sl none 9 [] 0,D.j 0]) b) (kB 44 [.j n1,.j 0,.j 200] a (λa b=>Br (!a) (∀ a,b<=a->Q (D.ag [D.j 0,D.j 0,D.t b0,D.t b0,
 D.j 0,D.j 0,jN,D.j 0,jN,D.sl none 9 [] 0,D.j 0]) a) (∀ a,b<=a->ACalls prog 45 [.pk,.i,.str,.str,.i,.dc,.dc,.dc,
 .dc,.row 35 9] [.dg 9 I] a (λn s b c x d e f g h i=>a<=i->Bel i (D.ag g)->qP Q N n1 0 0 0 b0 b0 0 0 none [] 0 0 none []
 0 none [] 0 0 n s b c x d e f g.length h g h i)))))):jC 18 [.dg 9 I,.j n1] N Q:=
  eE sn h
theorem Fc N n0(Q:QT [])(h :
uP N Q):jC 61 [.j n0] N Q:=
 eE H0 h
theorem I0 N I n1(Q:QT [.ag 11])(h :
Bel N I->kA 11 60 [.dg 9 I,.j n1,.fn 61 []] N (λx a=>uP a (Q x))):jC 26 [.dg 9 I,.j n1] N Q:=
 eE qIo h
theorem pU {Q:QT [.i]}{N0 J n4 I N}(h :
∃ a b,∃ c:Nat,(I.cell 8)=D.sl a 9 b c/\Br (decide (n4<(b.length:Int))) (∃ a b,∃ c:Nat,(I.cell 8)=D.sl a 9 b c/\jL n4 b/\∀ a,N<=a->ACalls prog 46 [.i] [.dg 9 (b.getD n4.toNat jD)] a (λn b=>a<=b->vN Q N0
 (jW.wrap (J+n)) (jW.wrap (n4+1)) I b)) (uP N (Q J))):vN Q N0 J n4 I N:=
  hE CC h
theorem FT {Q:QT [.ag 11]}{N0 n1 n6 aj ak al ao aq au aw ax ay az a6 a7 a8 ba bb bc ae I J O U Y aa ab ac ah ai r2 q2 N}(h :
(ah=r2.length/\ai=q2)/\(ah=r2.length/\ai=q2)/\∀ a c,N<=c->Fresh N0 c a [D.ag r2]->∀ d,c<=d->ACalls prog 46 [.i] [.dg 9
 (D.ag [D.j I,D.t J,D.t O,D.j U,Y,aa,ab,ac,D.sl a 9 r2 q2])] d (λn c=>d<=c->Br (decide (n>400)) (∀ a,c<=a->Q
 (D.ag [D.j 3,D.j 0,D.t b0,D.t b0,D.j 0,D.j 0,jN,D.j 0,jN,D.sl none 9 [] 0,D.j n6]) a) (kB 47 [.dg 9 (D.ag [D.j I,D.t
 J,D.t O,D.j U,Y,aa,ab,ac,D.sl a 9 r2 q2])] c (λb c=>Br b (uP c (Q (D.ag [D.j 1,D.j I,D.t J,D.t O,D.j U,Y,
 aa,ab,ac,D.sl a 9 r2 q2,D.j n6]))) (Br (n6==n1) (uP c (Q (D.ag [D.j 2,D.j I,D.t J,D.t O,D.j U,Y,aa,ab,ac,D.sl a 9 r2
 q2,D.j n6]))) (∀ b,c<=b->ACalls prog 48 [.ag 9,.i] [.dg 9 (D.ag [D.j I,D.t J,D.t O,D.j U,Y,aa,ab,ac,D.sl a 9 r2 q2])] b
 (λx c d=>b<=d->Bel d x->Br (c==0) (uP d (Q (D.ag [D.j 4,D.j I,D.t J,D.t O,D.j U,Y,aa,ab,ac,D.sl a 9 r2 q2,
 D.j n6]))) (xZ Q N0 n1 (jW.wrap (n6+1)) aj ak al ao aq au aw ax ay az a6 a7 a8 ba bb bc ae x
 d)))))))):qP Q N0 n1 n6 aj ak al ao aq au aw ax ay az a6 a7 a8 ba bb bc ae I J O U Y aa ab ac ah ai r2 q2 N:=
  hE sn h
theorem Ee N I n1(Q:QT [.ag 11])(h :
Bel N I->kB 57 [.dg 9 I,.j 0] N (λb a=>Br (!b) (∀ b,a<=b->Q (D.ag [D.j 0,D.j 0,D.t b0,D.t b0,D.j 0,D.j 0,jN,D.j 0,
 jN,D.sl none 9 [] 0,D.j 0]) b) (kB 39 [.j n1,.j 0,.j 200] a (λa b=>Br (!a) (∀ a,b<=a->Q (D.ag [D.j 0,D.j 0,D.t b0,D.t b0,
 D.j 0,D.j 0,jN,D.j 0,jN,D.sl none 9 [] 0,D.j 0]) a) (∀ a,b<=a->ACalls prog 123 [.pk,.i,.str,.str,.i,.dc,.dc,.dc,
 .dc,.row 35 9] [.dg 9 I] a (λn s b c x d e f g h i=>a<=i->Bel i (D.ag g)->wi Q N n1 0 0 0 b0 b0 0 0 none [] 0 0 none []
 0 none [] 0 0 n s b c x d e f g.length h g h i)))))):jC 60 [.dg 9 I,.int .i64 n1,.fn 61 []] N Q:=
  eE BD h
theorem th {Q:QT [.ag 11]}{N0 n1 n6 O U Y aa ab ac ae ah ai aj ak al ao aq au aw J I N}(h :
∀ a,N<=a->ACalls prog 46 [.i] [.dg 9 I] a (λn c=>a<=c->Br (decide (n>400)) (∀ a,c<=a->Q (D.ag [D.j 3,D.j 0,D.t b0,D.t b0,D.j
 0,D.j 0,jN,D.j 0,jN,D.sl none 9 [] 0,D.j n6]) a) (kB 47 [.dg 9 I] c (λb a=>Br b (uP a (Q (D.ag [D.j 1,(I.cell 0),
 (I.cell 1),(I.cell 2),(I.cell 3),(I.cell 4),(I.cell 5),(I.cell 6),(I.cell 7),(I.cell 8),D.j n6]))) (Br (n6==n1) (uP a (Q (D.ag [D.j 2,
 (I.cell 0),(I.cell 1),(I.cell 2),(I.cell 3),(I.cell 4),(I.cell 5),(I.cell 6),(I.cell 7),(I.cell 8),D.j n6]))) (∀ b,a<=b->ACalls prog 48
 [.ag 9,.i] [.dg 9 I] b (λx a c=>b<=c->Bel c x->Br (a==0) (uP c (Q (D.ag [D.j 4,(I.cell 0),(I.cell 1),(I.cell 2),(I.cell 3),
 (I.cell 4),(I.cell 5),(I.cell 6),(I.cell 7),(I.cell 8),D.j n6]))) (xZ Q N0 n1 (jW.wrap (n6+1)) O U Y aa ab
 ac ae ah ai aj ak al ao aq au aw J x c)))))))):xZ Q N0 n1 n6 O U Y aa ab ac ae ah ai aj ak al ao aq au aw J I N:=
  hE sn h
theorem qX {Q:QT [.ag 11]}{N0 n1 n8 aj ak al ao aq au aw ax ay az a6 a7 a8 ba bb bc ae Y aa ab ac I J O U ah ai r2 q2 N}(h :
(ah=r2.length/\ai=q2)/\(ah=r2.length/\ai=q2)/\∀ a d,N<=d->Fresh N0 d a [D.ag r2,I,J,O,U]->∀ e,d<=e->ACalls
 prog 121 [.i] [.dg 9 (D.ag [D.j Y,D.t aa,D.t ab,D.j ac,I,J,O,U,D.sl a 9 r2 q2])] e (λn d=>e<=d->Br (decide (n>400)) (∀
 a,d<=a->Q (D.ag [D.j 3,D.j 0,D.t b0,D.t b0,D.j 0,D.j 0,jN,D.j 0,jN,D.sl none 9 [] 0,D.j n8]) a) (kB 124 [.dg 9
 (D.ag [D.j Y,D.t aa,D.t ab,D.j ac,I,J,O,U,D.sl a 9 r2 q2])] d (λb d=>Br b (uP d (Q (D.ag [D.j 1,D.j Y,D.t aa,D.t
 ab,D.j ac,I,J,O,U,D.sl a 9 r2 q2,D.j n8]))) (Br (n8==n1) (uP d (Q (D.ag [D.j 2,D.j Y,D.t aa,D.t ab,D.j ac,I,J,
 O,U,D.sl a 9 r2 q2,D.j n8]))) (∀ b,d<=b->ACalls prog 125 [.ag 9,.i] [.dg 9 (D.ag [D.j Y,D.t aa,D.t ab,D.j ac,I,J,O,
 U,D.sl a 9 r2 q2])] b (λx d e=>b<=e->Bel e x->Br (d==0) (uP e (Q (D.ag [D.j 4,D.j Y,D.t aa,D.t ab,D.j ac,I,J,
 O,U,D.sl a 9 r2 q2,D.j n8]))) (∀ a,e<=a->ACalls prog 61 [] [.j d] a (λb=>a<=b->∀ a,b<=a->ACalls prog 123 [.pk,.i,
 .str,.str,.i,.dc,.dc,.dc,.dc,.row 35 9] [.dg 9 x] a (λb s c d e f g h i j k=>a<=k->Bel k (D.ag i)->wi Q
 N0 n1 (jW.wrap (n8+1)) aj ak al ao aq au aw ax ay az a6 a7 a8 ba bb bc ae b s c d e f g h i.length
 j i j k)))))))))):wi Q N0 n1 n8 aj ak al ao aq au aw ax ay az a6 a7 a8 ba bb bc ae Y aa ab ac I J O U ah ai r2 q2 N:=
  hE BD h
end Go.Proofs.YtlaniepnglheoaaGreatDoor
set_option maxRecDepth 100000
namespace Go.Proofs.YtlaniepnglheoaaGreatDoor
open Go Go.Proofs Go.Proofs.Tryz
def FD:Hint:=⟨[],[],[(1,hs 8 [ec 1 [6]]),(2,hs 6 [ec 3 [12]])]⟩
def FI:Hint:=⟨[],[],[(1,hs 9 [ec 2 [6,7]]),(2,hs 6 [ec 3 [13]])]⟩
def Dm:Hint:=⟨[],[],[(1,hs 3 [ec 1 [3]]),(3,hs 3 [ec 1 [6]])]⟩
def IP:Hint:=⟨[],[],[(2,hs 8 [ec 1 [14]]),(3,hs 11 [ec 8 [25]]),(5,hs 4 [ec 1 [29]]),(7,[en 0,en 3,en 4,ec 1 [34],en 2,eh 5,en 6,en 7]),(8,[en 0,en 3,en 4,en 8,en 9,ec 1 [41],en 2,ec 5 [45],en 6,en 7,eh 10,en 11,en 12])]⟩
def IS:Hint:=⟨[],[],[(2,hs 7 [ec 4 [16]]),(4,hs 9 [ec 2 [21,22]]),(5,hs 4 [ec 1 [26]]),(7,[en 0,en 3,en 4,ec 1 [31],en 2,eh 5,en 6,en 7]),(8,[en 0,en 3,en 4,en 8,en 9,ec 1 [38],en 2,ec 5 [42],en 6,en 7,eh 10,en 11,en 12])]⟩
theorem Fa N I(Q:QT [.bool])(h :
Bel N I->kAB 2 24 [.sv none 4 [] 0,.dg 9 I,.j 0] N (λ_ b a=>Br b (kB 59 [.dg 9 I] a (λa b=>uP b (Q a))) (uP a (Q false)))):jC 25 [.dg 9 I] N Q:=
 eE FD h
theorem Fm N I(Q:QT [.bool])(h :
Bel N I->(0=0/\0=0)/\∀ a c,N<=c->Fresh N c a [D.ag []]->kAB 2 17 [.sv a 4 [] 0,.dg 9 I,.j 0] c (λ_ b a=>Br b (kB 40 [.dg 9 I] a
 (λa b=>uP b (Q a))) (uP a (Q false)))):jC 16 [.dg 9 I] N Q:=
  eE FI h
theorem Eb N n0(Q:QT [.str])(h :
kB 39 [.j n0,.j 0,.j 4] N (λb a=>Br (!b) (uP a (Q (bytes [63]))) ((0<=n0/\n0<5/\(0+n0.toNat:Nat)<5)/\(0+n0.toNat:Nat)<5/\∃ s,
 List.getD [D.t (bytes [98,97,100]),D.t (bytes [100,111,110,101]),D.t (bytes [102,117,101,108]),D.t (bytes [108,97,114,103,101]),D.t (bytes [115,
 116,117,99,107])] (0+n0.toNat:Nat) default=D.t s/\uP a (Q s)))):jC 28 [.j n0] N Q:=
  eE H0 h
theorem Ej N n0(Q:QT [.str])(h :
kB 44 [.j n0,.j 0,.j 4] N (λb a=>Br (!b) (uP a (Q (bytes [63]))) ((0<=n0/\n0<5/\(0+n0.toNat:Nat)<5)/\(0+n0.toNat:Nat)<5/\∃ s,
 List.getD [D.t (bytes [98,97,100]),D.t (bytes [100,111,110,101]),D.t (bytes [102,117,101,108]),D.t (bytes [108,97,114,103,101]),D.t (bytes [115,
 116,117,99,107])] (0+n0.toNat:Nat) default=D.t s/\uP a (Q s)))):jC 20 [.j n0] N Q:=
  eE H0 h
theorem Eh N I(Q:QT [.str])(h :
Bel N I->kB 49 [.dg 2 I] N (λb a=>Br (!b) (uP a (Q b0)) (kS 50 [.dg 2 I] a (λs a=>uP a (Q s))))):jC 19 [.dg 2 I] N Q:=
 eE Dm h
theorem DF N n0(Q:QT [.str])(h :
kB 39 [.j n0,.j 1,.j 6] N (λb a=>Br (!b) (uP a (Q b0)) ((0<=jW.wrap (n0 - 1)/\jW.wrap (n0 - 1)<6/\(0+(jW.wrap
 (n0 - 1)).toNat:Nat)<6)/\(0+(jW.wrap (n0 - 1)).toNat:Nat)<6/\∃ s,List.getD [D.t (bytes [60,40,92,120,58,73,46,126,40,40,114,
 101,99,32,112,32,110,58,73,62,60,73,62,46,40,105,102,32,40,110,61,48,41,32,60,49,62,32,60,40,120,42,126,40,112,32,40,110,
 45,49,41,41,41,62,41,41,32,51,41,41,62]),D.t (bytes [40,108,101,116,32,99,61,60,40,49,43,50,41,62,32,60,40,126,99,42,126,99,
 41,62,41]),D.t (bytes [60,40,92,121,58,73,46,126,40,40,92,122,58,60,73,62,46,60,40,92,121,58,73,46,40,126,122,43,121,41,41,62,
 41,32,60,121,62,41,41,62]),D.t (bytes [40,40,114,117,110,32,60,40,92,120,58,73,46,40,120,43,126,40,108,105,102,116,32,40,50,42,
 51,41,41,41,41,62,41,32,49,41]),D.t (bytes [40,114,117,110,32,60,40,114,117,110,32,60,53,62,41,62,41]),D.t (bytes [40,108,101,116,
 32,110,61,55,32,60,126,40,105,102,32,40,110,60,53,41,32,60,48,62,32,60,40,49,43,126,40,108,105,102,116,32,110,41,41,62,41,
 62,41])] (0+(jW.wrap (n0 - 1)).toNat:Nat) default=D.t s/\uP a (Q s)))):jC 14 [.j n0] N Q:=
  eE H0 h
theorem DQ N n0(Q:QT [.str])(h :
Br (n0==1) (uP N (Q (bytes [60,40,92,120,58,73,46,126,40,40,114,101,99,32,112,32,110,58,73,62,60,73,62,46,40,105,102,32,40,
 110,61,48,41,32,60,49,62,32,60,40,120,42,126,40,112,32,40,110,45,49,41,41,41,62,41,41,32,51,41,41,62]))) (Br (n0==2) (uP N (Q
 (bytes [40,108,101,116,32,99,61,60,40,49,43,50,41,62,32,60,40,126,99,42,126,99,41,62,41]))) (Br (n0==3) (uP N (Q (bytes [60,40,92,
 121,58,73,46,126,40,40,92,122,58,60,73,62,46,60,40,92,121,58,73,46,40,126,122,43,121,41,41,62,41,32,60,121,62,41,41,62])))
 (Br (n0==4) (uP N (Q (bytes [40,40,114,117,110,32,60,40,92,120,58,73,46,40,120,43,126,40,108,105,102,116,32,40,50,42,51,41,41,41,
 41,62,41,32,49,41]))) (Br (n0==5) (uP N (Q (bytes [40,114,117,110,32,60,40,114,117,110,32,60,53,62,41,62,41]))) (Br (n0==6) (uP N (Q
 (bytes [40,108,101,116,32,110,61,55,32,60,126,40,105,102,32,40,110,60,53,41,32,60,48,62,32,60,40,49,43,126,40,108,105,102,116,
 32,110,41,41,62,41,62,41]))) (uP N (Q b0)))))))):jC 15 [.j n0] N Q:=
  eE H0 h
theorem I1 N I(Q:QT [.str])(h :
kAB 9 23 [.str I] N (λx b a=>kAB 2 24 [.sv none 4 [] 0,.dg 9 x,.j 0] a (λa c d=>Br (!b) (uP d (Q (bytes [98,97,100]))) (Br (!c)
 (uP d (Q (bytes [98,97,100]))) (kB 25 [.dg 9 x] d (λb c=>Br (!b) (uP c (Q (bytes [98,97,100]))) (kA 11 26 [.dg 9 x,.j 200] c (λb c=>
 ∃ n:Int,(b.cell 0)=D.j n/\Br (bne n 1) (∃ d:Int,(b.cell 0)=D.j d/\kS 27 [.dg 2 a] c (λs a=>jX (s.size+1)/\kS 28 [.j d] a (λa b=>jX (ByteArray.size (s++bytes [32])+a.size)/\uP b (Q (s++bytes [32]
 ++ a))))) (∃ d:Int,(b.cell 10)=D.j d/\kS 27 [.dg 2 a] c (λa c=>jX (a.size+3)/\kS 29 [.dg 9 (D.sub b 1
 9)] c (λb c=>jX (ByteArray.size (a++bytes [32,61,32])+b.size)/\jX (ByteArray.size (a++bytes [32,61,32]++b)
 + 1)/\kS 30 [.j d] c (λc d=>jX (ByteArray.size (a++bytes [32,61,32]++b++bytes [32])+c.size)/\uP d (Q (a++bytes [32,61,32]++b++bytes [32]++c)))))))))))))):jC 7 [.str I] N Q:=
  eE IP h
theorem JB N I(Q:QT [.str])(h :
kAB 9 13 [.str I] N (λx b c=>Br (!b) (uP c (Q (bytes [98,97,100]))) (kB 16 [.dg 9 x] c (λb c=>Br (!b) (uP c (Q (bytes [98,97,
 100]))) ((0=0/\0=0)/\∀ a b,c<=b->Fresh N b a [D.ag []]->kAB 2 17 [.sv a 4 [] 0,.dg 9 x,.j 0] b (λa _ b=>kA 11 18 [.dg 9 x,.j 200] b
 (λb c=>∃ n:Int,(b.cell 0)=D.j n/\Br (bne n 1) (∃ d:Int,(b.cell 0)=D.j d/\kS 19 [.dg 2 a] c (λs a=>jX (s.size+1)/\kS 20 [.j d] a (λa b=>jX (ByteArray.size (s++bytes [32])+a.size)/\uP b (Q (s++bytes [32]
 ++ a))))) (∃ d:Int,(b.cell 10)=D.j d/\kS 19 [.dg 2 a] c (λa c=>jX (a.size+3)/\kS 21 [.dg 9 (D.sub b 1
 9)] c (λb c=>jX (ByteArray.size (a++bytes [32,61,32])+b.size)/\jX (ByteArray.size (a++bytes [32,61,32]++b)
 + 1)/\kS 22 [.j d] c (λc d=>jX (ByteArray.size (a++bytes [32,61,32]++b++bytes [32])+c.size)/\uP d (Q (a++bytes [32,61,32]++b++bytes [32]++c))))))))))))):jC 6 [.str I] N Q:=
  eE IS h
theorem EZ N n0(Q:QT [.str])(h :
kS 14 [.j n0] N (λs a=>Br (jE s b0) (uP a (Q b0)) (kS 14 [.j n0] a (λa b=>kS 7 [.str a] b (λa b
 => uP b (Q a)))))):jC 9 [.j n0] N Q:=
  eE H0 h
theorem Ei N n0(Q:QT [.str])(h :
kS 15 [.j n0] N (λs a=>Br (jE s b0) (uP a (Q b0)) (kS 15 [.j n0] a (λa b=>kS 6 [.str a] b (λa b
 => uP b (Q a)))))):jC 8 [.j n0] N Q:=
  eE H0 h
end Go.Proofs.YtlaniepnglheoaaGreatDoor
set_option maxRecDepth 100000
namespace Go.Proofs.YtlaniepnglheoaaGreatDoor
open Go Go.Proofs Go.Proofs.Tryz
def MI:Hint:=⟨[],[],[(3,hs 4 [ec 1 [13]])]⟩
theorem Nx N O J I(Q:QT [.ag 9])(h :
Bel N J->Bel N I->(1=([I]).length/\1=1)/\∀ a,ApA a [I]->∀ b,N<=b->xj b [a]->ACalls prog 141 [.ag 9] [.j 6,.sv a 9 [I] 1] b (λx
 c=>b<=c->Off [a] x/\(Bel c x->kA 2 90 [.dg 2 J] c (λa b=>uP b (Q (D.ag [(x.cell 0),D.t O,(x.cell 2),(x.cell 3),(a.cell 0),(a.cell
 1),(x.cell 6),(x.cell 7),(x.cell 8)])))))):jC 138 [.str O,.dg 2 J,.dg 9 I] N Q:=
  eE MI h
end Go.Proofs.YtlaniepnglheoaaGreatDoor
