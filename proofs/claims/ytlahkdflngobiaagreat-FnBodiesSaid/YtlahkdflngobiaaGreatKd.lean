/- Printed by gen.py: what the functions come to. -/
import Derived.Test.YtlahkdflngobiaaGreatJh
set_option linter.unusedVariables false
set_option maxRecDepth 100000
namespace Go.Proofs.YtlahkdflngobiaaGreat
open Go Go.Proofs Go.Proofs.Tryz
def zCp:Hint:=⟨[hc 3 [0,3,4]],[],[]⟩
def zG2:Hint:=⟨[],[],[(2,[en 0,en 1,en 2,en 3,en 4,en 5,en 6,en 7,en 8,en 9,en 10,en 11,en 12]),(3,[en 0,en 1,en 2,en 3,en 4,en 5,en 6,en 7,en 8,en 9]),(4,[en 0,en 1,en 2,en 3,en 4,en 5,en 6,en 7,en 8,en 9,en 10,en 11,en 12,en 13,eh 14])]⟩
def pV:Hint:=⟨[hc 3 [0,1,3,6,8,10,11] [(10,30,9)]],[],[(5,[en 0,en 1,en 2,en 3,en 4,en 5,en 6,en 7,en 8,en 9,en 10,en 11,en 12,en 13,ec 14 [31,32],en 15,en 16,en 17,en 18,en 19,en 20,en 21,en 22,en 24,eh 23,en 25,en 26])]⟩
def zGD:Hint:=⟨[],[],[(7,[en 0,en 1,en 2,en 3,en 4,en 5,en 6,en 7,en 8,en 9,eh 10,ec 11 [24,31],eh 12])]⟩
def si:Hint:=⟨[hc 4 [0,3,4,5] [(3,62,4)]],[],[(9,[en 0,en 1,en 2,en 3,en 4,en 5,en 6,eh 7,en 8,en 9,eh 10,eh 11])]⟩
def zBO:Hint:=⟨[],[hc 5 [0,1,3,6,8]],[(10,[en 0,en 1,en 3,en 4,en 6,en 7,en 8,en 9,en 10,en 12,en 13,en 14,en 15,en 16,eh 2,eh 5,eh 11,eh 17,en 18,eh 19,eh 20]),(13,[en 0,en 1,en 2,en 3,en 4,en 5,en 7,en 8,en 9,en 10,en 12,en 13,en 14,eh 6,ec 11 [74],eh 15,ec 16 [70,79],eh 17]),(15,[en 0,en 1,en 3,en 4,en 5,en 6,en 7,en 9,en 10,en 11,en 12,en 13,eh 2,eh 8,eh 14,en 15,eh 16,eh 17]),(18,[en 0,en 1,en 3,en 4,en 5,en 6,en 7,en 9,en 10,en 11,en 12,en 13,eh 2,eh 8,eh 14,en 15,eh 16,eh 17])]⟩
def pW:Hint:=⟨[hc 3 [0,1,5,6] [(5,3,0)]],[],[]⟩
def pq:Hint:=⟨[],[],[(3,hs 4 [ec 2 [17]]),(11,[en 0,en 1,en 2,en 3,eh 4,en 5])]⟩
def vW (Q:QT [.cu]) (N0:Nat) (I:Option Addr) (e0:List D) (J:Nat) (O U:Int) (N:Nat):Prop:=AT prog 24 [.cu] Q N0 .ord (zE prog 24 3) ⟨.sv I 0 e0 J::an 2 (.int .i64 O::.int .i64 U::an 27 []),[],N,none⟩
def yX (E:Env) (Q:QT [.row 3 0,.sl 0,.i,.i]) (N0:Nat) (a1:Option Addr) (e1:List D) (c1 m5 c5:Nat) (n6:Int) (I:Option Addr) (J:List D) (O:Nat) (U Y:Int) (r1:List D) (q1:Nat) (N:Nat):Prop:=AT prog 26 [.row 3 0,.sl 0,.i,.i] Q N0 (.io E [.var [.sv none 0 [] 0,.int .i64 0,.int .i64 0]]) (zE prog 26 3) ⟨.pb 0 0 0 0::.sv a1 4 e1 c1::an 3 (.sb 1 0 0 m5 c5::.int .i64 n6::an 25 []),[.var [.sv I 0 J O,.int .i64 U,.int .i64 Y],.arr 3 0 r1 q1],N,some (xk E 0 [.var [.sv none 0 [] 0,.int .i64 0,.int .i64 0]],[])⟩
def yI (E:Env) (Q:QT [.row 62 4,.sl 0,.i,.i]) (N0:Nat) (m3 c3:Nat) (n4 n5:Int) (I:Option Addr) (J:List D) (O:Nat) (U Y:Int) (r1:List D) (q1:Nat) (N:Nat):Prop:=AT prog 67 [.row 62 4,.sl 0,.i,.i] Q N0 (.io E [.var [.sv none 0 [] 0,.int .i64 0,.int .i64 0]]) (zE prog 67 4) ⟨.pb 0 0 0 0::an 2 (.sb 1 4 0 m3 c3::.int .i64 n4::.int .i64 n5::an 26 []),[.var [.sv I 0 J O,.int .i64 U,.int .i64 Y],.arr 62 4 r1 q1],N,some (xk E 0 [.var [.sv none 0 [] 0,.int .i64 0,.int .i64 0]],[])⟩
def yH (E:Env) (Q:QT [.ag 9,.sl 0,.i,.i]) (N0:Nat) (a1:Option Addr) (e1:List D) (c1:Nat) (n3:Int) (I:Option Addr) (J:List D) (O:Nat) (U Y:Int) (y1:D) (aa:Int) (ab ac:ByteArray) (ae ah:Int) (ai:Option Addr) (aj:List D) (ak:Nat) (al:Int) (am:Option Addr) (ao:List D) (aq:Nat) (au:Option Addr) (aw:List D) (ax:Nat) (N:Nat):Prop:=AT prog 68 [.ag 9,.sl 0,.i,.i] Q N0 (.io E [.var [.sv none 0 [] 0,.int .i64 0,.int .i64 0]]) (zAb prog 68 5) ⟨.pb 0 0 0 0::.sv a1 4 e1 c1::an 1 (.int .i64 n3::an 2 (.pb 1 0 0 0::an 1 (.pb 2 0 0 0::an 119 []))),[.var [.sv I 0 J O,.int .i64 U,.int .i64 Y],.vd y1 2,.var [.int .i64 aa,.str ab,.str ac,.int .i64 ae,.int .i64 ah,.sv ai 2 aj ak,.int .i64 al,.sv am 2 ao aq,.sv au 9 aw ax]],N,some (xk E 0 [.var [.sv none 0 [] 0,.int .i64 0,.int .i64 0]],[])⟩
def zl (E:Env) (Q:QT [.ag 9,.bool,.sl 0,.i,.i]) (N0:Nat) (a1:Option Addr) (e1:List D) (c1:Nat) (n3:Int) (ay az:Nat) (a0:Int) (I:Option Addr) (J:List D) (O:Nat) (U Y:Int) (y1:D) (aa:Int) (ab ac:ByteArray) (ae ah:Int) (ai:Option Addr) (aj:List D) (ak:Nat) (al:Int) (am:Option Addr) (ao:List D) (aq:Nat) (au:Option Addr) (aw:List D) (ax:Nat) (r3:List D) (q3:Nat) (N:Nat):Prop:=AT prog 109 [.ag 9,.bool,.sl 0,.i,.i] Q N0 (.io E [.var [.sv none 0 [] 0,.int .i64 0,.int .i64 0]]) (zE prog 109 3) ⟨.pb 0 0 0 0::.sv a1 4 e1 c1::an 1 (.int .i64 n3::an 2 (.pb 1 0 0 0::an 1 (.pb 2 0 0 0::an 1 (.sb 3 9 0 ay az::.int .i64 a0::an 54 [])))),[.var [.sv I 0 J O,.int .i64 U,.int .i64 Y],.vd y1 2,.var [.int .i64 aa,.str ab,.str ac,.int .i64 ae,.int .i64 ah,.sv ai 2 aj ak,.int .i64 al,.sv am 2 ao aq,.sv au 9 aw ax],.arr 30 9 r3 q3],N,some (xk E 0 [.var [.sv none 0 [] 0,.int .i64 0,.int .i64 0]],[])⟩
theorem zIo (N:Nat) (I:Option Addr) (e0:List D) (J:Nat) (Q:QT [.cu]) (h :
Bel N (D.sl I 0 e0 J)->vW Q N I e0 J (IntKind.i64.wrap (26583+(e0.length:Int))) 0 N):ACalls prog 24 [.cu] [PV.sv I 0 e0 J] N Q:=
 eE zCp h
theorem zKX (N:Nat) (s0:ByteArray) (a1:Option Addr) (e1:List D) (c1:Nat) (Q:QT [.ag 9]) (h :
Bel N (D.sl a1 9 e1 c1)->kA 9 45 [.j 4,.sv a1 9 e1 c1] N (fun x a=>uP a (Q (D.ag [(x.cell 0),D.t s0,(x.cell 2),(x.cell 3),(x.cell 4),(x.cell 5),
 (x.cell 6),(x.cell 7),(x.cell 8)])))):ACalls prog 113 [.ag 9] [PV.str s0,PV.sv a1 9 e1 c1] N Q:=
  eE H0 h
theorem pw (N:Nat) (I:Option Addr) (e0:List D) (J:Nat) (Q:QT [.sl 4,.ag 9,.sl 0]) (h :
Bel N (D.sl I 0 e0 J)->∀ b,N<=b->ACalls prog 24 [.cu] [.sv I 0 e0 J] b (λa c d n e f=>b<=f->∀ b,f<=b->BCalls prog 25 [.row 62
 4,.ag 9,.sl 0,.i,.i] [.pb 0 0 0 0] [Bx.var [.sv a 0 c d,.j n,.j e]] b (λa c x d e f g h i=>b<=i->Bel i x->Bel i (D.sl d
 0 e f)->Bel i (D.ag a)->w3 (a.length=a.length/\c=c) (∀ b j,i<=j->Fresh N j b [D.ag a]->∀ i,j<=i->BCalls prog 26
 [.row 3 0,.sl 0,.i,.i] [.pb 0 0 0 0,.sv b 4 a c] [Bx.var [.sv d 0 e f,.j g,.j h]] i (λd e f g h j k l=>i<=l ->
 Bel l (D.sl f 0 g h)->Bel l (D.ag d)->∀ i,l<=i->BCalls prog 27 [.i,.sl 0,.i,.i] [.pb 0 0 0 0,.j 12] [Bx.var [.sv f 0 g h,.j j,
 .j k]] i (λf g h j k l m=>i<=m->Bel m (D.sl g 0 h j)->Br (f==0) (∀ a,m<=a->BCalls prog 28 [.sl 4,.ag 9,.sl 0,
 .i,.i] [.pb 0 0 0 0] [Bx.var [.sv g 0 h j,.j k,.j l]] a (λb c f g h i j _ _ k=>a<=k->Bel k (D.sl b 4 c
 f)->Bel k g->Bel k (D.sl h 0 i j)->w4 (d.length=d.length/\e=e) (∀ a h,k<=h->Fresh N h a [D.ag d,D.sl b 4
 c f,g]->uP h (Q b c f g a d e)))) (Br (f==1) ((d.length=d.length/\e=e)/\zA d [D.j 1] 8/\∀ (e:Nat),
 w4 ((d++[D.j 1]).length=(d++[D.j 1]).length/\e=e) (∀ f g,m<=g->Fresh N g f [D.ag (d++[D.j 1]),D.sl b 4 a c,x] ->
 uP g (Q b a c x f (d++[D.j 1]) e))) (Br (f==2) (∀ f,m<=f->BCalls prog 29 [.i,.sl 0,.i,.i,.sl 0] [.pb 0 0 0 0,.sb 1 0 0 2 2]
 [Bx.var [.sv g 0 h j,.j k,.j l],Bx.arr 3 0 [D.j (-1),D.j 10007] 2] f (λg h i j _ _ k l m n=>f<=n->Bel n
 (D.sl h 0 i j)->Bel n (D.sl k 0 l m)->((0:Int)<=(0:Int)/\0<(d.length:Int)/\0<d.length)/\0<d.length/\w5
 (d.length=(List.set d 0 (D.j g)).length/\e=e) (∀ f h,n<=h->Fresh N h f [D.ag (List.set d 0 (D.j g)),D.sl b 4 a
 c,x]->∀ i,h<=i->Q b a c x f (List.set d 0 (D.j g)) e i))) (w4 (d.length=d.length/\e=e) (∀ f g,m<=g ->
 Fresh N g f [D.ag d,D.sl b 4 a c,x]->uP g (Q b a c x f d e))))))))))):ACalls prog 5 [.sl 4,.ag 9,.sl 0] [PV.sv I 0 e0 J] N Q:=
  eE pq h
theorem pO (Q:QT [.cu]) (N0:Nat) (a0:Option Addr) (e0:List D) (c0:Nat) (n3 n4:Int) (N:Nat) (h :
Br (decide (n4<(e0.length:Int))) (Br (decide (n4<4000)) ((0<=n4/\n4<(e0.length:Int))/\∃ n:Int,List.getD e0 n4.toNat default=D.lit (.int
 IntKind.u8 n)/\vW Q N0 a0 e0 c0 (IntKind.i64.wrap (BitVec.toNat (HAnd.hAnd (BitVec.ofInt 64 (IntKind.i64.wrap (IntKind.i64.wrap (IntKind.i64.wrap
 (n3*131)+IntKind.i64.wrap n)+7))) (BitVec.ofInt 64 1073741823)):Int)) (IntKind.i64.wrap (n4+1)) N) (uP N (Q a0 e0 c0 0 n3))) (uP N (Q a0 e0 c0 0 n3))):vW Q N0 a0 e0 c0 n3 n4 N:=
  hE zCp h
theorem zBz (N:Nat) (I:Option Addr) (J:List D) (O:Nat) (U Y:Int) (Q:QT [(Sh.row (OfNat.ofNat 62) 4),(Sh.ag 9),(Sh.sl 0),(Sh.int IntKind.i64),(Sh.int IntKind.i64)]) (h:∀ E:Env,
Bel N (D.sl I 0 J O)->∀ b,N<=b->BCalls prog 67 [.row 62 4,.sl 0,.i,.i] [.pb 0 0 0 0] [Bx.var [.sv I 0 J O,.j
 U,.j Y]] b (λa c d e f n g h=>b<=h->Bel h (D.sl d 0 e f)->Bel h (D.ag a)->(a.length=a.length/\c=c)/\∀ b,ApA b
 a->∀ i,h<=i->vI i [b]->ACalls prog 44 [.sl 4] [.sv b 4 a c] i (λh j k l=>i<=l->Off [b] (D.sl h 4 j k)/\(Bel l
 (D.sl h 4 j k)->kA 2 69 [] l (λx b=>∀ i,b<=i->BCalls prog 27 [.i,.sl 0,.i,.i] [.pb 0 0 0 0,.j 4] [Bx.var [.sv d 0 e f,.j n,.j
 g]] i (λb d e f g l m=>i<=m->Bel m (D.sl d 0 e f)->cA 9 68 [.sv h 4 j k,.dg 2 x,.j (IntKind.i64.wrap (2+b))] d
 e f g l m (λb d e f g h i=>vH E [.var [.sv none 0 [] 0,.j 0,.j 0]]/\(a.length=a.length/\c=c)/\uP i (Q a c b d
 e f g h)))))))):BCalls prog 25 [(Sh.row (OfNat.ofNat 62) 4),(Sh.ag 9),(Sh.sl 0),(Sh.int IntKind.i64),(Sh.int IntKind.i64)] [.pb 0 0 0 0] [.var [.sv I 0 J O,.int .i64 U,.int .i64 Y]] N Q:=
  bE H0 h
theorem zBu (N:Nat) (a1:Option Addr) (e1:List D) (c1:Nat) (I:Option Addr) (J:List D) (O:Nat) (U Y:Int) (Q:QT [(Sh.row (OfNat.ofNat 3) 0),(Sh.sl 0),(Sh.int IntKind.i64),(Sh.int IntKind.i64)]) (h:∀ E:Env,
Bel N (D.sl a1 4 e1 c1)->Bel N (D.sl I 0 J O)->yX E Q N a1 e1 c1 0 0 0 I J O U Y [] 0 N):BCalls prog 26 [(Sh.row (OfNat.ofNat 3) 0),(Sh.sl 0),(Sh.int IntKind.i64),(Sh.int IntKind.i64)] [.pb 0 0 0 0,.sv a1 4 e1 c1] [.var [.sv I 0 J O,.int .i64 U,.int .i64 Y]] N Q:=
 bE pW h
theorem zCX (N:Nat) (n1:Int) (aB0_0:Option Addr) (eB0_0:List D) (cB0_0:Nat) (nB0_1 nB0_2:Int) (Q:QT [(Sh.int IntKind.i64),(Sh.sl 0),(Sh.int IntKind.i64),(Sh.int IntKind.i64)]) (h:∀ E:Env,
Bel N (D.sl aB0_0 0 eB0_0 cB0_0)->Br (decide (n1<=0)) (vH E [.var [.sv none 0 [] 0,.j 0,.j 0]]/\uP N (Q 0 aB0_0 eB0_0 cB0_0 nB0_1 nB0_2))
 (Br (decide (n1<=256)) (cI 70 [] aB0_0 eB0_0 cB0_0 nB0_1 nB0_2 N (fun n a b c d e f=>n1≠0/\vH E [.var [.sv none 0 [] 0,.j 0,.j 0]]/\uP f (Q
 (Int.tmod n n1) a b c d e))) (cI 70 [] aB0_0 eB0_0 cB0_0 nB0_1 nB0_2 N (fun a b c d e f g=>cI 70 [] b c d e f g (fun b c
 d e f g h=>cI 70 [] c d e f g h (fun c d e f g h i=>cI 70 [] d e f g h i (fun d e f g h
 i j=>n1≠0/\vH E [.var [.sv none 0 [] 0,.j 0,.j 0]]/\∀ k,j<=k->Q (Int.tmod (IntKind.i64.wrap (IntKind.i64.wrap (IntKind.i64.wrap
 (IntKind.i64.wrap (a*16777216)+IntKind.i64.wrap (b*65536))+IntKind.i64.wrap (c*256))+d)) n1) e f g h i k))))))):BCalls prog 27 [(Sh.int IntKind.i64),(Sh.sl 0),(Sh.int IntKind.i64),(Sh.int IntKind.i64)] [.pb 0 0 0 0,.int .i64 n1] [.var [.sv aB0_0 0 eB0_0 cB0_0,.int .i64 nB0_1,.int .i64 nB0_2]] N Q:=
  bE H0 h
theorem pc (N:Nat) (m1 c1:Nat) (I:Option Addr) (J:List D) (O:Nat) (Y aa:Int) (U:List D) (ab:Nat) (Q:QT [(Sh.int IntKind.i64),(Sh.sl 0),(Sh.int IntKind.i64),(Sh.int IntKind.i64),(Sh.sl 0)]) (h:∀ E:Env,
Bel N (D.sl I 0 J O)->Bel N (D.sl none 0 U ab)->∀ b,N<=b->BCalls prog 27 [.i,.sl 0,.i,.i] [.pb 0 0 0 0,.j (m1:Int)]
 [Bx.var [.sv I 0 J O,.j Y,.j aa]] b (λn a c d e f g=>b<=g->Bel g (D.sl a 0 c d)->(0<=n/\n<(m1:Int)/\(0+n.toNat
 : Nat)<U.length)/\(0+n.toNat:Nat)<U.length/\∃ b:Int,List.getD U (0+n.toNat:Nat) default=D.j b/\vH E [.var [.sv none 0 [] 0,.j
 0,.j 0],.arr 3 0 [] 0]/\uP g (Q b a c d e f none U ab))):BCalls prog 29 [(Sh.int IntKind.i64),(Sh.sl 0),(Sh.int IntKind.i64),(Sh.int IntKind.i64),(Sh.sl 0)] [.pb 0 0 0 0,.sb 1 0 0 m1 c1] [.var [.sv I 0 J O,.int .i64 Y,.int .i64 aa],.arr 3 0 U ab] N Q:=
  bE H0 h
theorem zAB (N:Nat) (I:Option Addr) (J:List D) (O:Nat) (U Y:Int) (Q:QT [(Sh.row (OfNat.ofNat 62) 4),(Sh.sl 0),(Sh.int IntKind.i64),(Sh.int IntKind.i64)]) (h:∀ E:Env,
Bel N (D.sl I 0 J O)->∀ b,N<=b->BCalls prog 27 [.i,.sl 0,.i,.i] [.pb 0 0 0 0,.j 4] [Bx.var [.sv I 0 J O,.j
 U,.j Y]] b (λn a c d e f g=>b<=g->Bel g (D.sl a 0 c d)->yI E Q N 0 0 (IntKind.i64.wrap (1+n)) 0 a c d e f []
 0 g)):BCalls prog 67 [(Sh.row (OfNat.ofNat 62) 4),(Sh.sl 0),(Sh.int IntKind.i64),(Sh.int IntKind.i64)] [.pb 0 0 0 0] [.var [.sv I 0 J O,.int .i64 U,.int .i64 Y]] N Q:=
  bE si h
theorem su (N:Nat) (a1:Option Addr) (e1:List D) (c1:Nat) (x2:D) (n3:Int) (I:Option Addr) (J:List D) (O:Nat) (U Y:Int) (Q:QT [(Sh.ag 9),(Sh.sl 0),(Sh.int IntKind.i64),(Sh.int IntKind.i64)]) (h:∀ E:Env,
Bel N (D.sl a1 4 e1 c1)->Bel N x2->Bel N (D.sl I 0 J O)->cB 108 [.j 3] I J O U Y N (λb a c d n e f=>
 Br (!b) (∀ b,f<=b->BCalls prog 109 [.ag 9,.bool,.sl 0,.i,.i] [.pb 0 0 0 0,.sv a1 4 e1 c1,.dg 2 x2,.j 0] [Bx.var [.sv a 0 c d,.j n,.j e]] b
 (λx a c d e f g h=>b<=h->Bel h x->Bel h (D.sl c 0 d e)->Br a (vH E [.var [.sv none 0 [] 0,.j 0,.j 0]]/\uP h (Q x c
 d e f g)) (yH E Q N a1 e1 c1 n3 c d e f g x2 0 b0 b0 0 0 none [] 0 0 none [] 0 none [] 0 h))) (Br (decide (n3<2)) (∀ b,f
 <= b->BCalls prog 109 [.ag 9,.bool,.sl 0,.i,.i] [.pb 0 0 0 0,.sv a1 4 e1 c1,.dg 2 x2,.j 0] [Bx.var [.sv a 0 c d,.j n,.j e]] b (λa c d
 e f g h i=>b<=i->Bel i a->Bel i (D.sl d 0 e f)->Br c (vH E [.var [.sv none 0 [] 0,.j 0,.j 0]]/\uP i (Q a d e f g
 h)) (yH E Q N a1 e1 c1 n3 d e f g h x2 0 b0 b0 0 0 none [] 0 0 none [] 0 none [] 0 i))) (yH E Q N a1 e1 c1 n3 a c d n
 e x2 0 b0 b0 0 0 none [] 0 0 none [] 0 none [] 0 f)))):BCalls prog 68 [(Sh.ag 9),(Sh.sl 0),(Sh.int IntKind.i64),(Sh.int IntKind.i64)] [.pb 0 0 0 0,.sv a1 4 e1 c1,.dg 2 x2,.int .i64 n3] [.var [.sv I 0 J O,.int .i64 U,.int .i64 Y]] N Q:=
  bE zBO h
theorem rA (E:Env) (Q:QT [(Sh.row (OfNat.ofNat 3) 0),(Sh.sl 0),(Sh.int IntKind.i64),(Sh.int IntKind.i64)]) (N0:Nat) (a1:Option Addr) (e1:List D) (c1 m5 c5:Nat) (n6:Int) (I:Option Addr) (J:List D) (O:Nat) (U Y:Int) (r1:List D) (q1:Nat) (N:Nat) (h :
Br (decide (n6<(e1.length:Int))) (∀ b,N<=b->BCalls prog 29 [.i,.sl 0,.i,.i,.sl 0] [.pb 0 0 0 0,.sb 1 0 0 6 6] [Bx.var [.sv I 0 J O,
 .j U,.j Y],Bx.arr 3 0 [D.j 0,D.j 1,D.j 2,D.j 3,D.j 10006,D.j 500] 6] b (λn a c d e f g h i j=>b<=j->Bel j (D.sl a 0 c d) ->
 Bel j (D.sl g 0 h i)->(0<=n6/\n6<(e1.length:Int))/\∃ b:Int,(if 0=0 then D.cell (if 2=0 then D.cell (List.getD e1 n6.toNat default) 1
 else D.sub (List.getD e1 n6.toNat default) 1 2) 0 else D.sub (if 2=0 then D.cell (List.getD e1 n6.toNat default) 1 else D.sub (List.getD e1 n6.toNat default)
 1 2) 0 0)=D.j b/\Br (b==2) ((2:Int)≠(0:Int)/\(m5=r1.length/\c5=q1)/\zA r1 [D.j (Int.tmod n 2)] 8/\∀ (b:Nat),yX E
 Q N0 a1 e1 c1 (r1++[D.j (Int.tmod n 2)]).length b (IntKind.i64.wrap (n6+1)) a c d e f (r1++[D.j (Int.tmod n 2)]) b j) ((m5=r1.length/\c5 =
 q1)/\zA r1 [D.j n] 8/\∀ (b:Nat),yX E Q N0 a1 e1 c1 (r1++[D.j n]).length b (IntKind.i64.wrap (n6+1)) a c d e f (r1++[D.j
 n]) b j))) (vH E [.var [.sv none 0 [] 0,.j 0,.j 0]]/\(m5=r1.length/\c5=q1)/\uP N (Q r1 c5 I J O U Y))):yX E Q N0 a1 e1 c1 m5 c5 n6 I J O U Y r1 q1 N:=
  hE pW h
theorem zC7 (N:Nat) (U:Option Addr) (I:List D) (Y:Nat) (J O:Int) (Q:QT [(Sh.int IntKind.i64),(Sh.sl 0),(Sh.int IntKind.i64),(Sh.int IntKind.i64)]) (h:∀ E:Env,
Bel N (D.sl U 0 I Y)->(0:Int)<=(33:Int)/\(0:Int)<=(45:Int)/\Br (decide (J<(I.length:Int))) ((0<=J /\
 J<(I.length:Int))/\∃ n:Int,List.getD I J.toNat default=D.lit (.int IntKind.u8 n)/\vH E [.var [.sv none 0 [] 0,.j 0,.j 0]]/\∀ a,
 N<=a->Q (IntKind.i64.wrap (BitVec.toNat (HAnd.hAnd (BitVec.ofInt 64 (IntKind.i64.wrap (IntKind.i64.wrap (BitVec.toNat (HAnd.hAnd (BitVec.ofInt 64
 (IntKind.i64.wrap (BitVec.toNat (HXor.hXor (BitVec.ofInt 64 (Int.fdiv (IntKind.i64.wrap (IntKind.i64.wrap (O*6364136223846793005)+1442695040888963407))
 8589934592)) (BitVec.ofInt 64 (Int.fdiv (IntKind.i64.wrap (IntKind.i64.wrap (O*6364136223846793005)+1442695040888963407)) 35184372088832))):Int)))
 (BitVec.ofInt 64 255)):Int)+IntKind.i64.wrap n))) (BitVec.ofInt 64 255)):Int)) U I Y (IntKind.i64.wrap (J+1)) (IntKind.i64.wrap
 (IntKind.i64.wrap (O*6364136223846793005)+1442695040888963407)) a) (vH E [.var [.sv none 0 [] 0,.j 0,.j 0]]/\∀ a,N<=a->Q (IntKind.i64.wrap
 (BitVec.toNat (HAnd.hAnd (BitVec.ofInt 64 (IntKind.i64.wrap (BitVec.toNat (HXor.hXor (BitVec.ofInt 64 (Int.fdiv (IntKind.i64.wrap (IntKind.i64.wrap (O *
 6364136223846793005)+1442695040888963407)) 8589934592)) (BitVec.ofInt 64 (Int.fdiv (IntKind.i64.wrap (IntKind.i64.wrap (O*6364136223846793005) +
 1442695040888963407)) 35184372088832))):Int))) (BitVec.ofInt 64 255)):Int)) U I Y J (IntKind.i64.wrap (IntKind.i64.wrap (O *
 6364136223846793005)+1442695040888963407)) a)):BCalls prog 70 [(Sh.int IntKind.i64),(Sh.sl 0),(Sh.int IntKind.i64),(Sh.int IntKind.i64)] [.pb 0 0 0 0] [.var [.sv U 0 I Y,.int .i64 J,.int .i64 O]] N Q:=
  bE zG2 h
theorem u9 (E:Env) (Q:QT [(Sh.row (OfNat.ofNat 62) 4),(Sh.sl 0),(Sh.int IntKind.i64),(Sh.int IntKind.i64)]) (N0:Nat) (m3 c3:Nat) (n4 I:Int) (J:Option Addr) (O:List D) (U:Nat) (Y aa:Int) (r1:List D) (q1:Nat) (N:Nat) (h :
Br (decide (I<n4)) (kA 2 69 [] N (λx d=>Br (I==3) (kA 2 107 [] d (λd e=>(0<=I/\I<4/\(0+I.toNat:Nat)<4)/\(0+I.toNat :
 Nat)<4/\∃ s,List.getD [D.t (bytes [120]),D.t (bytes [121]),D.t (bytes [110]),D.t (bytes [98])] (0+I.toNat:Nat) default=D.t s/\cB 108 [.j 2] J
 O U Y aa e (λb a c e n f g=>(m3=r1.length/\c3=q1)/\zA r1 [D.ag [D.t s,(d.cell 0),(d.cell 1),D.lit (.bool b)]] 56/\∀ (h
 : Nat),yI E Q N0 (r1++[D.ag [D.t s,(d.cell 0),(d.cell 1),D.lit (.bool b)]]).length h n4 (IntKind.i64.wrap (I+1)) a c e n f (r1
 ++ [D.ag [D.t s,(d.cell 0),(d.cell 1),D.lit (.bool b)]]) h g))) ((0<=I/\I<4/\(0+I.toNat:Nat)<4)/\(0+I.toNat:Nat)<4/\∃ a,
 List.getD [D.t (bytes [120]),D.t (bytes [121]),D.t (bytes [110]),D.t (bytes [98])] (0+I.toNat:Nat) default=D.t a/\cB 108 [.j 2] J O U Y
 aa d (λb c d e f g h=>(m3=r1.length/\c3=q1)/\zA r1 [D.ag [D.t a,(x.cell 0),(x.cell 1),D.lit (.bool b)]] 56/\∀ (i :
 Nat),yI E Q N0 (r1++[D.ag [D.t a,(x.cell 0),(x.cell 1),D.lit (.bool b)]]).length i n4 (IntKind.i64.wrap (I+1)) c d e f
 g (r1++[D.ag [D.t a,(x.cell 0),(x.cell 1),D.lit (.bool b)]]) i h)))) (vH E [.var [.sv none 0 [] 0,.j 0,.j 0]]/\(m3=r1.length/\c3=q1) /\
 uP N (Q r1 c3 J O U Y aa))):yI E Q N0 m3 c3 n4 I J O U Y aa r1 q1 N:=
  hE si h
theorem zDA (N:Nat) (n1:Int) (I:Option Addr) (J:List D) (O:Nat) (U Y:Int) (Q:QT [Sh.bool,(Sh.sl 0),(Sh.int IntKind.i64),(Sh.int IntKind.i64)]) (h:∀ E:Env,
Bel N (D.sl I 0 J O)->∀ b,N<=b->BCalls prog 27 [.i,.sl 0,.i,.i] [.pb 0 0 0 0,.j n1] [Bx.var [.sv I 0 J O,.j
 U,.j Y]] b (λn a c d e f g=>b<=g->Bel g (D.sl a 0 c d)->vH E [.var [.sv none 0 [] 0,.j 0,.j 0]]/\uP g (Q (n==0) a c d e
 f))):BCalls prog 108 [Sh.bool,(Sh.sl 0),(Sh.int IntKind.i64),(Sh.int IntKind.i64)] [.pb 0 0 0 0,.int .i64 n1] [.var [.sv I 0 J O,.int .i64 U,.int .i64 Y]] N Q:=
  bE H0 h
theorem zCW (N:Nat) (a1:Option Addr) (e1:List D) (c1:Nat) (x2:D) (n3:Int) (I:Option Addr) (J:List D) (O:Nat) (U Y:Int) (Q:QT [(Sh.ag 9),Sh.bool,(Sh.sl 0),(Sh.int IntKind.i64),(Sh.int IntKind.i64)]) (h:∀ E:Env,
Bel N (D.sl a1 4 e1 c1)->Bel N x2->Bel N (D.sl I 0 J O)->zl E Q N a1 e1 c1 n3 0 0 0 I J O U Y
 x2 0 b0 b0 0 0 none [] 0 0 none [] 0 none [] 0 [] 0 N):BCalls prog 109 [(Sh.ag 9),Sh.bool,(Sh.sl 0),(Sh.int IntKind.i64),(Sh.int IntKind.i64)] [.pb 0 0 0 0,.sv a1 4 e1 c1,.dg 2 x2,.int .i64 n3] [.var [.sv I 0 J O,.int .i64 U,.int .i64 Y]] N Q:=
  bE pV h
theorem qN (E:Env) (Q:QT [(Sh.ag 9),(Sh.sl 0),(Sh.int IntKind.i64),(Sh.int IntKind.i64)]) (N0:Nat) (a1:Option Addr) (e1:List D) (c1:Nat) (I:Int) (J:Option Addr) (O:List D) (U:Nat) (Y aa:Int) (y1:D) (ab:Int) (ac ae:ByteArray) (ah ai:Int) (aj:Option Addr) (ak:List D) (al:Nat) (am:Int) (ao:Option Addr) (aq:List D) (au:Nat) (aw:Option Addr) (ax:List D) (ay:Nat) (N:Nat) (h :
Br (decide (I<2)) (cA 9 110 [.dg 2 y1,.j 0] J O U Y aa N (λx a b c n d e=>vH E [.var [.sv none 0 [] 0,.j 0,.j 0]]/\uP e (Q
 x a b c n d))) (kA 2 69 [] N (λa c=>∀ d,c<=d->BCalls prog 27 [.i,.sl 0,.i,.i] [.pb 0 0 0 0,.j 5] [Bx.var [.sv J 0 O U,.j Y,.j
 aa]] d (λc e f g h i j=>d<=j->Bel j (D.sl e 0 f g)->Br (c==0) (kA 2 107 [] j (λa b=>cA 9 68 [.sv a1 4 e1 c1,.dg
 2 a,.j (IntKind.i64.wrap (I - 1))] e f g h i b (λa b c d e f g=>cA 9 68 [.sv a1 4 e1 c1,.dg 2 y1,.j (IntKind.i64.wrap (I
 - 1))] b c d e f g (λb c d e f g h=>cA 9 68 [.sv a1 4 e1 c1,.dg 2 y1,.j (IntKind.i64.wrap (I - 1))] c d e f g h
 (λc d e f g h i=>(3=([a,b,c]).length/\3=3)/\∀ j,ApA j [a,b,c]->∀ k,i<=k->vI k [j]->ACalls prog
 45 [.ag 9] [.j 5,.sv j 9 [a,b,c] 3] k (λa b=>k<=b->Off [j] a/\(Bel b a->vH E [.var [.sv none 0 [] 0,.j 0,.j 0]]/\uP
 b (Q a d e f g h)))))))) (Br (c==1) (cP [D.t (bytes [120]),D.t (bytes [117]),D.t (bytes [118]),D.t (bytes [121])] 71 9 4 e f g h
 i j (λs b c d e f _ _ _ g=>cA 9 68 [.sv a1 4 e1 c1,.dg 2 a,.j (IntKind.i64.wrap (I - 1))] b c d e f g (λb
 c d e f g h=>kL 4 112 [.sv a1 4 e1 c1,.str s,.dg 2 a,.j 0] h (λa h i j=>cA 9 68 [.sv a 4 h i,.dg 2 y1,.j
 (IntKind.i64.wrap (I - 1))] c d e f g j (λa c d e f g h=>kA 9 111 [.str s,.dg 9 b,.dg 9 a] h (λa b=>vH
 E [.var [.sv none 0 [] 0,.j 0,.j 0]]/\uP b (Q a c d e f g))))))) (∃ c:Int,(y1.cell 0)=D.j c/\Br (c==1) (cP [D.t (bytes
 [43]),D.t (bytes [42]),D.t (bytes [45])] 71 9 3 e f g h i j (λb c d e f g _ _ _ h=>cA 9 68 [.sv a1 4 e1 c1,.dg
 2 a,.j (IntKind.i64.wrap (I - 1))] c d e f g h (λc d e f g h i=>cA 9 68 [.sv a1 4 e1 c1,.dg 2 a,.j
 (IntKind.i64.wrap (I - 1))] d e f g h i (λa d e f g h i=>(2=([c,a]).length/\2=2)/\∀ j,ApA j
 [c,a]->∀ k,i<=k->vI k [j]->ACalls prog 113 [.ag 9] [.str b,.sv j 9 [c,a] 2] k (λa b=>k<=b->Off [j]
 a/\(Bel b a->vH E [.var [.sv none 0 [] 0,.j 0,.j 0]]/\uP b (Q a d e f g h))))))) (cB 108 [.j 4] e f g h i j (fun
 b c d e f g h=>Br b (cA 9 68 [.sv a1 4 e1 c1,.dg 2 y1,.j (IntKind.i64.wrap (I - 1))] c d e f g h (λa b c
 d e f g=>(1=([a]).length/\1=1)/\∀ h,ApA h [a]->∀ i,g<=i->vI i [h]->ACalls prog 113 [.ag 9] [.str (bytes [33]),
 .sv h 9 [a] 1] i (λa g=>i<=g->Off [h] a/\(Bel g a->vH E [.var [.sv none 0 [] 0,.j 0,.j 0]]/\uP g (Q a b c
 d e f))))) (cP [D.t (bytes [61]),D.t (bytes [60])] 71 9 2 c d e f g h (λb c d e f g _ _ _ h=>cA 9
 68 [.sv a1 4 e1 c1,.dg 2 a,.j (IntKind.i64.wrap (I - 1))] c d e f g h (λc d e f g h i=>cA 9 68 [.sv a1 4 e1 c1,
 .dg 2 a,.j (IntKind.i64.wrap (I - 1))] d e f g h i (λa d e f g h i=>(2=([c,a]).length/\2=2)/\∀
 j,ApA j [c,a]->∀ k,i<=k->vI k [j]->ACalls prog 113 [.ag 9] [.str b,.sv j 9 [c,a] 2] k (λa b=>k<=b
 -> Off [j] a/\(Bel b a->vH E [.var [.sv none 0 [] 0,.j 0,.j 0]]/\uP b (Q a d e f g h))))))))))))))):yH E Q N0 a1 e1 c1 I J O U Y aa y1 ab ac ae ah ai aj ak al am ao aq au aw ax ay N:=
  hE zBO h
theorem rG (E:Env) (Q:QT [(Sh.ag 9),Sh.bool,(Sh.sl 0),(Sh.int IntKind.i64),(Sh.int IntKind.i64)]) (N0:Nat) (a1:Option Addr) (e1:List D) (c1:Nat) (n3:Int) (ab a0:Nat) (I:Int) (J:Option Addr) (O:List D) (U:Nat) (Y aa:Int) (y1:D) (ac:Int) (ae ah:ByteArray) (ai aj:Int) (ak:Option Addr) (al:List D) (am:Nat) (ao:Int) (aq:Option Addr) (au:List D) (aw:Nat) (ax:Option Addr) (ay:List D) (az:Nat) (r3:List D) (q3:Nat) (N:Nat) (h :
Br (decide (I<(e1.length:Int))) ((0<=I/\I<(e1.length:Int))/\∃ n:Int,(if 0=0 then D.cell (List.getD e1 I.toNat default) 3 else D.sub
 (List.getD e1 I.toNat default) 3 0)=D.j n/\Br (n==n3) ((0<=I/\I<(e1.length:Int))/\kB 13 [.dg 2 (if 2=0 then D.cell (List.getD e1 I.toNat
 default) 1 else D.sub (List.getD e1 I.toNat default) 1 2),.dg 2 y1] N (λb a=>Br b ((0<=I/\I<(e1.length:Int))/\∃ s,(if 0=0 then D.cell
 (List.getD e1 I.toNat default) 0 else D.sub (List.getD e1 I.toNat default) 0 0)=D.t s/\kI 137 [.sv a1 4 e1 c1,.str s] a (λa b=>Br (a==I)
 ((0<=I/\I<(e1.length:Int))/\∃ a,(if 0=0 then D.cell (List.getD e1 I.toNat default) 0 else D.sub (List.getD e1 I.toNat default) 0 0)=D.t
 a/\kA 9 117 [.str a] b (λx a=>(ab=r3.length/\a0=q3)/\zA r3 [x] 136/\∀ (c:Nat),zl E Q N0 a1 e1 c1 n3 (r3 ++
 [x]).length c (IntKind.i64.wrap (I+1)) J O U Y aa y1 ac ae ah ai aj ak al am ao aq au aw ax ay az (r3++[x]) c
 a)) (zl E Q N0 a1 e1 c1 n3 ab a0 (IntKind.i64.wrap (I+1)) J O U Y aa y1 ac ae ah ai aj ak al am ao aq
 au aw ax ay az r3 q3 b))) (zl E Q N0 a1 e1 c1 n3 ab a0 (IntKind.i64.wrap (I+1)) J O U Y aa y1 ac ae ah ai
 aj ak al am ao aq au aw ax ay az r3 q3 a))) (zl E Q N0 a1 e1 c1 n3 ab a0 (IntKind.i64.wrap (I+1)) J O U Y
 aa y1 ac ae ah ai aj ak al am ao aq au aw ax ay az r3 q3 N)) (Br ((ab:Int)==0) (vH E [.var [.sv none 0 [] 0,.j 0,.j 0]]
 /\ ∀ a,N<=a->Q (D.ag [D.j 0,D.t b0,D.t b0,D.j 0,D.j 0,D.sl none 2 [] 0,D.j 0,D.sl none 2 [] 0,D.sl none 9 [] 0]) false J O U Y aa a)
 (∀ b,N<=b->BCalls prog 27 [.i,.sl 0,.i,.i] [.pb 0 0 0 0,.j (ab:Int)] [Bx.var [.sv J 0 O U,.j Y,.j aa]] b (λa c d e f g
 h=>b<=h->Bel h (D.sl c 0 d e)->(0<=a/\a<(ab:Int)/\(0+a.toNat:Nat)<r3.length)/\(0+a.toNat:Nat)<r3.length/\vH E [.var
 [.sv none 0 [] 0,.j 0,.j 0]]/\uP h (Q (List.getD r3 (0+a.toNat:Nat) default) true c d e f g))))):zl E Q N0 a1 e1 c1 n3 ab a0 I J O U Y aa y1 ac ae ah ai aj ak al am ao aq au aw ax ay az r3 q3 N:=
  hE pV h
theorem xu (N:Nat) (x1:D) (n2:Int) (I:Option Addr) (J:List D) (O:Nat) (U Y:Int) (Q:QT [(Sh.ag 9),(Sh.sl 0),(Sh.int IntKind.i64),(Sh.int IntKind.i64)]) (h:∀ E:Env,
Bel N x1->Bel N (D.sl I 0 J O)->∃ n:Int,(x1.cell 0)=D.j n/\Br (n==1) (∀ b,N<=b->BCalls prog 27 [.i,.sl 0,.i,.i]
 [.pb 0 0 0 0,.j 4] [Bx.var [.sv I 0 J O,.j U,.j Y]] b (λa c d e f g h=>b<=h->Bel h (D.sl c 0 d e)->kA 9 95 [.j a]
 h (λx a=>vH E [.var [.sv none 0 [] 0,.j 0,.j 0]]/\uP a (Q x c d e f g)))) (Br (n==2) (∀ a,N<=a->BCalls prog 27 [.i,.sl 0,.i,.i] [.pb
 0 0 0 0,.j 2] [Bx.var [.sv I 0 J O,.j U,.j Y]] a (λb c d e f g h=>a<=h->Bel h (D.sl c 0 d e)->kA 9 94
 [.j b] h (λa b=>vH E [.var [.sv none 0 [] 0,.j 0,.j 0]]/\uP b (Q a c d e f g)))) (Br (n==3) (∃ a b,∃ c:Nat,(x1.cell
 1)=D.sl a 2 b c/\((0:Int)<=(0:Int)/\0<(b.length:Int))/\∃ a c,∃ d:Nat,(x1.cell 1)=D.sl a 2 c d/\((0:Int)<=(1 :
 Int)/\1<(c.length:Int))/\cA 9 110 [.dg 2 (List.getD c 1 default),.j n2] I J O U Y N (λa c d e f g h=>kA 9
 51 [.str (bytes [119]),.dg 2 (List.getD b 0 default),.dg 9 a] h (λa b=>vH E [.var [.sv none 0 [] 0,.j 0,.j 0]]/\uP b (Q a c d
 e f g)))) (∃ a b,∃ c:Nat,(x1.cell 1)=D.sl a 2 b c/\((0:Int)<=(0:Int)/\0<(b.length:Int))/\cA 9 110 [.dg 2 (List.getD
 b 0 default),.j (IntKind.i64.wrap (n2+1))] I J O U Y N (λa b c d e f g=>w3 (1=([a]).length/\1=1) (∀ h
 i,g<=i->Fresh N i h [D.ag [a],D.sl none 2 [] 0,D.sl none 2 [] 0]->vH E [.var [.sv none 0 [] 0,.j 0,.j 0]]/\∀ g,i<=g->Q (D.ag
 [D.j 10,D.t b0,D.t b0,D.j 0,D.j 0,D.sl none 2 [] 0,D.j 0,D.sl none 2 [] 0,D.sl h 9 [a] 1]) b c d e f g)))))):BCalls prog 110 [(Sh.ag 9),(Sh.sl 0),(Sh.int IntKind.i64),(Sh.int IntKind.i64)] [.pb 0 0 0 0,.dg 2 x1,.int .i64 n2] [.var [.sv I 0 J O,.int .i64 U,.int .i64 Y]] N Q:=
  bE zGD h
theorem zDH (N:Nat) (m1 c1:Nat) (I:Option Addr) (J:List D) (O:Nat) (Y aa:Int) (U:List D) (ab:Nat) (Q:QT [Sh.str,(Sh.sl 0),(Sh.int IntKind.i64),(Sh.int IntKind.i64),(Sh.sl 0)]) (h:∀ E:Env,
Bel N (D.sl I 0 J O)->Bel N (D.sl none 0 U ab)->∀ b,N<=b->BCalls prog 27 [.i,.sl 0,.i,.i] [.pb 0 0 0 0,.j (m1:Int)]
 [Bx.var [.sv I 0 J O,.j Y,.j aa]] b (λn a c d e f g=>b<=g->Bel g (D.sl a 0 c d)->(0<=n/\n<(m1:Int)/\(0+n.toNat
 : Nat)<U.length)/\(0+n.toNat:Nat)<U.length/\∃ s,List.getD U (0+n.toNat:Nat) default=D.t s/\vH E [.var [.sv none 0 [] 0,.j 0,.j 0],
 .arr 9 0 [] 0]/\uP g (Q s a c d e f none U ab))):BCalls prog 71 [Sh.str,(Sh.sl 0),(Sh.int IntKind.i64),(Sh.int IntKind.i64),(Sh.sl 0)] [.pb 0 0 0 0,.sb 1 0 0 m1 c1] [.var [.sv I 0 J O,.int .i64 Y,.int .i64 aa],.arr 9 0 U ab] N Q:=
  bE H0 h
end Go.Proofs.YtlahkdflngobiaaGreat
