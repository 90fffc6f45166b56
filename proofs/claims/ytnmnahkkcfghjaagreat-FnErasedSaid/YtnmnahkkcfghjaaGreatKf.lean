/- Printed by gen.py: what the functions come to. -/
import Derived.Test.YtnmnahkkcfghjaaGreatJh
set_option linter.unusedVariables false
set_option maxRecDepth 100000
namespace Go.Proofs.YtnmnahkkcfghjaaGreat
open Go Go.Proofs Go.Proofs.Tryz
def qA:Hint:=⟨[hc 4 [1,2,3,8,9,10,12]],[],[(1,hs 4 [ec 1 [16]]),(8,hs 15 [ec 6 [46]]),(9,[en 0,en 1,en 2,en 3,en 4,en 5,en 6,en 7,en 8,en 9,en 10,en 11,en 12,eh 13,ec 14 [62,68],en 15,eh 16])]⟩
def t5:Hint:=⟨[hc 9 [1,5,6,7,9,10,11]],[],[(2,hs 3 [ec 1 [21]]),(3,hs 4 [ec 1 [23]]),(6,hs 17 [ec 12 [45]]),(7,[en 0,en 1,en 2,en 3,ec 4 [54],ec 5 [51],eh 6]),(12,[en 0,en 1,en 2,en 3,en 4,en 5,en 6,en 7,en 8,en 9,ec 10 [78,80],en 11,eh 12])]⟩
def yJ (Q:QT [.pk,.int .i64,.str,.str,.int .i64,.dc,.dc,.dc,.dc,.row 29 9]) (N0:Nat) (n1:Int) (s2:ByteArray) (a3:Option Addr) (e3:List D) (c3:Nat) (a6:Option Addr) (a7:List D) (a8:Nat) (a9 I:Int) (J O:ByteArray) (U Y:Int) (aa:Option Addr) (ab:List D) (ac:Nat) (ae:Int) (ah:Option Addr) (ai:List D) (aj:Nat) (ak:Option Addr) (al:List D) (am:Nat) (ao:Int) (aq au:ByteArray) (aw:Int) (ax ay az a2:D) (a4 a5:Nat) (r2:List D) (q2:Nat) (N:Nat):Prop:=AT prog 113 [.pk,.int .i64,.str,.str,.int .i64,.dc,.dc,.dc,.dc,.row 29 9] Q N0 .ord (zE prog 113 4) ⟨an 1 (.int .i64 n1::.str s2::.sv a3 0 e3 c3::an 4 (.pb 0 0 0 0::.pb 1 0 0 0::.sv a6 0 a7 a8::an 1 (.int .i64 a9::an 65 []))),[.var [.int .i64 I,.str J,.str O,.int .i64 U,.int .i64 Y,.sv aa 2 ab ac,.int .i64 ae,.sv ah 2 ai aj,.sv ak 9 al am],.var [.int .i64 ao,.str aq,.str au,.int .i64 aw,.dc ax,.dc ay,.dc az,.dc a2,.sb 2 9 0 a4 a5],.arr 29 9 r2 q2],N,none⟩
def zD (Q:QT [.ag 9]) (N0:Nat) (s1:ByteArray) (n9:Int) (a5:Bool) (a6:Int) (y0:D) (I:Int) (J O:ByteArray) (U Y:Int) (aa:Option Addr) (ab:List D) (ac:Nat) (ae:Int) (ah:Option Addr) (ai:List D) (aj:Nat) (ak:Option Addr) (al:List D) (am:Nat) (ao:Int) (aq au:ByteArray) (aw:Int) (ax ay az a2:D) (a3 a4:Nat) (r3:List D) (q3:Nat) (N:Nat):Prop:=AT prog 101 [.ag 9] Q N0 .ord (zE prog 101 9) ⟨an 1 (.str s1::an 3 (.pb 0 0 0 0::.pb 1 0 0 0::.pb 2 0 0 0::an 1 (.int .i64 n9::.bool a5::.int .i64 a6::an 72 []))),[.vd y0 9,.var [.int .i64 I,.str J,.str O,.int .i64 U,.int .i64 Y,.sv aa 2 ab ac,.int .i64 ae,.sv ah 2 ai aj,.sv ak 9 al am],.var [.int .i64 ao,.str aq,.str au,.int .i64 aw,.dc ax,.dc ay,.dc az,.dc a2,.sb 3 9 0 a3 a4],.arr 29 9 r3 q3],N,none⟩
theorem zDX (N:Nat) (I:D) (n1:Int) (Y:ByteArray) (J:Option Addr) (O:List D) (U:Nat) (Q:QT [.pk,.int .i64,.str,.str,.int .i64,.dc,.dc,.dc,.dc,.row 29 9]) (h :
Bel N I->Bel N (D.sl J 0 O U)->∀ b,N<=b->ACalls prog 42 [.pk,.i,.str,.str,.i,.dc,.dc,.dc,.dc,.row 29 9] [.dg 9 I] b (λn s c d
 x e f g h i j=>b<=j->Bel j (D.ag h)->∀ b,j<=b->ACalls prog 110 [.sl 0,.i] [.dg 9 I] b (λa j k _ l=>b<=l->Bel l (D.sl
 a 0 j k)->yJ Q N n1 Y J O U a j k 0 0 b0 b0 0 0 none [] 0 0 none [] 0 none [] 0 n s c d x e f g h.length i h i l))):ACalls prog 113 [.pk,.int .i64,.str,.str,.int .i64,.dc,.dc,.dc,.dc,.row 29 9] [PV.dg 9 I,PV.int .i64 n1,PV.str Y,PV.sv J 0 O U] N Q:=
  eE qA h
theorem zBe (N:Nat) (O:D) (I:ByteArray) (J:D) (Q:QT [.ag 9]) (h :
Bel N O->Bel N J->∃ n:Int,(O.cell 0)=D.j n/\Br (n==1) (∃ s,(O.cell 1)=D.t s/\Br (ByteArray.toList s==ByteArray.toList I) (∀ b,N<=b
 -> ACalls prog 42 [.pk,.i,.str,.str,.i,.dc,.dc,.dc,.dc,.row 29 9] [.dg 9 J] b (λc d e f x g h i j k l=>b<=l->Bel l (D.ag j)
 -> w2 (j.length=j.length/\k=k) (∀ a b,l<=b->Fresh N b a [D.ag j,x,g,h,i]->uP b (Q (D.ag [D.j c,D.t d,D.t e,D.j f,x,g,
 h,i,D.sl a 9 j k]))))) (∀ a,N<=a->ACalls prog 42 [.pk,.i,.str,.str,.i,.dc,.dc,.dc,.dc,.row 29 9] [.dg 9 O] a (λb c d e f g
 h i j k l=>a<=l->Bel l (D.ag j)->∀ a,l<=a->ACalls prog 110 [.sl 0,.i] [.dg 9 O] a (λl m n o p=>a<=p->Bel p
 (D.sl l 0 m n)->∀ a,p<=a->ACalls prog 111 [.i] [.sv l 0 m n,.str I] a (λl m=>a<=m->Br (decide (o≥0)) (Br (!(decide
 (l≥0))) (∃ a n,∃ p:Nat,(O.cell 8)=D.sl a 9 n p/\(0<=o/\o<(n.length:Int))/\kL 0 112 [.dg 9 (List.getD n o.toNat
 default)] m (λa m n p=>∀ q,p<=q->ACalls prog 111 [.i] [.sv a 0 m n,.str I] q (λa m=>q<=m->Br (decide (a ≥
 0)) (kL 0 112 [.dg 9 J] m (λa b c d=>∀ e,d<=e->ACalls prog 113 [.pk,.i,.str,.str,.i,.dc,.dc,.dc,.dc,.row 29 9] [.dg 9 O,.j
 o,.str I,.sv a 0 b c] e (λa b c d f g h i j k m=>e<=m->Bel m (D.ag j)->zD Q N I o
 (decide (l≥0)) 0 J 0 b0 b0 0 0 none [] 0 0 none [] 0 none [] 0 a b c d f g h i j.length k j k m))) (zD Q N I
 o (decide (l≥0)) 0 J 0 b0 b0 0 0 none [] 0 0 none [] 0 none [] 0 b c d e f g h i j.length k j k m)))) (zD Q N
 I o (decide (l≥0)) 0 J 0 b0 b0 0 0 none [] 0 0 none [] 0 none [] 0 b c d e f g h i j.length k j k m)) (zD Q
 N I o (decide (l≥0)) 0 J 0 b0 b0 0 0 none [] 0 0 none [] 0 none [] 0 b c d e f g h i j.length k j k m)))))) (∀ a,N<=a
 -> ACalls prog 42 [.pk,.i,.str,.str,.i,.dc,.dc,.dc,.dc,.row 29 9] [.dg 9 O] a (λb c d e f g h i j k l=>a<=l ->
 Bel l (D.ag j)->∀ a,l<=a->ACalls prog 110 [.sl 0,.i] [.dg 9 O] a (λl m n o p=>a<=p->Bel p (D.sl l 0 m n)->∀
 a,p<=a->ACalls prog 111 [.i] [.sv l 0 m n,.str I] a (λl m=>a<=m->Br (decide (o≥0)) (Br (!(decide (l≥0))) (∃ a
 n,∃ p:Nat,(O.cell 8)=D.sl a 9 n p/\(0<=o/\o<(n.length:Int))/\kL 0 112 [.dg 9 (List.getD n o.toNat default)] m (fun
 a m n p=>∀ q,p<=q->ACalls prog 111 [.i] [.sv a 0 m n,.str I] q (λa m=>q<=m->Br (decide (a≥0)) (kL 0 112
 [.dg 9 J] m (λa b c d=>∀ e,d<=e->ACalls prog 113 [.pk,.i,.str,.str,.i,.dc,.dc,.dc,.dc,.row 29 9] [.dg 9 O,.j o,.str
 I,.sv a 0 b c] e (λa b c d f g h i j k m=>e<=m->Bel m (D.ag j)->zD Q N I o
 (decide (l≥0)) 0 J 0 b0 b0 0 0 none [] 0 0 none [] 0 none [] 0 a b c d f g h i j.length k j k m)))
 (zD Q N I o (decide (l≥0)) 0 J 0 b0 b0 0 0 none [] 0 0 none [] 0 none [] 0 b c d e f g h i j.length k j
 k m)))) (zD Q N I o (decide (l≥0)) 0 J 0 b0 b0 0 0 none [] 0 0 none [] 0 none [] 0 b c d e f g h i
 j.length k j k m)) (zD Q N I o (decide (l≥0)) 0 J 0 b0 b0 0 0 none [] 0 0 none [] 0 none [] 0 b c d e f g
 h i j.length k j k m)))))):ACalls prog 101 [.ag 9] [PV.dg 9 O,PV.str I,PV.dg 9 J] N Q:=
  eE t5 h
theorem tw (Q:QT [.pk,.int .i64,.str,.str,.int .i64,.dc,.dc,.dc,.dc,.row 29 9]) (N0:Nat) (n1:Int) (s2:ByteArray) (a3:Option Addr) (e3:List D) (c3:Nat) (a8:Option Addr) (ah:List D) (a9:Nat) (O ak:Int) (al am:ByteArray) (ao aq:Int) (au:Option Addr) (aw:List D) (ax:Nat) (ay:Int) (az:Option Addr) (a2:List D) (a4:Nat) (a5:Option Addr) (a6:List D) (a7:Nat) (U:Int) (ai aj:ByteArray) (Y:Int) (aa ab ac ae:D) (I J:Nat) (r2:List D) (q2:Nat) (N:Nat) (h :
Br (decide (O<(ah.length:Int))) ((0<=O/\O<(ah.length:Int))/\∃ s,List.getD ah O.toNat default=D.t s/\∀ b,N<=b->ACalls prog
 111 [.i] [.sv a3 0 e3 c3,.str s] b (λn d=>b<=d->Br (decide (n<0)) (yJ Q N0 n1 s2 a3 e3 c3 a8 ah a9 (IntKind.i64.wrap (O+1))
 ak al am ao aq au aw ax ay az a2 a4 a5 a6 a7 U ai aj Y aa ab ac ae I J r2 q2 d) ((I=r2.length/\J
 = q2)/\∀ a,ApA a r2->∀ b,d<=b->ux b [a]->ACalls prog 110 [.sl 0,.i] [.dg 9 (D.ag [D.j U,D.t ai,D.t aj,D.j Y,aa,ab,ac,ae,
 D.sl a 9 r2 J])] b (λc d e _ f=>b<=f->Off [a] (D.sl c 0 d e)/\(Bel f (D.sl c 0 d e)->(0<=n1/\n1<(I:Int)/\(0+n1.toNat :
 Nat)<r2.length)/\(0+n1.toNat:Nat)<r2.length/\kL 0 112 [.dg 9 (List.getD r2 (0+n1.toNat:Nat) default)] f (λa b c e=>∀ f,e<=f ->
 ACalls prog 122 [.row 9 0] [.sv a3 0 e3 c3,.sv a 0 b c] f (λa b c=>f<=c->Bel c (D.ag a)->(a.length=a.length/\b=b) /\
 zA a [D.t s2] 16/\∀ (b:Nat),((a++[D.t s2]).length=(a++[D.t s2]).length/\b=b)/\zA (a++[D.t s2]) d 16/\∀ (b :
 Nat),((a++[D.t s2]++d).length=(a++[D.t s2]++d).length/\b=b)/\∀ e,ApA e (a++[D.t s2]++d)->∀ f,c<=f->ux f [e]
 -> ACalls prog 123 [.str] [.sv e 0 (a++[D.t s2]++d) b] f (λa b=>f<=b->(0<=n1/\n1<(I:Int)/\(0+n1.toNat:Nat)<r2.length)
 /\ (0+n1.toNat:Nat)<r2.length/\(0<=O/\O<(ah.length:Int))/\∃ c,List.getD ah O.toNat default=D.t c/\kA 9 49 [.str a] b (λx b
 => kA 9 101 [.dg 9 (List.getD r2 (0+n1.toNat:Nat) default),.str c,.dg 9 x] b (λb c=>(0<=n1/\n1<(I:Int)/\(0+n1.toNat:Nat) <
 r2.length)/\(0+n1.toNat:Nat)<r2.length/\Br (O==0) (yJ Q N0 n1 s2 a3 e3 c3 a8 ah a9 (IntKind.i64.wrap (O+1)) ak al am ao
 aq au aw ax ay az a2 a4 a5 a6 a7 U a aj Y aa ab ac ae I J (List.set r2 (0+n1.toNat:Nat) b) q2 c)
 (yJ Q N0 n1 s2 a3 e3 c3 a8 ah a9 (IntKind.i64.wrap (O+1)) ak al am ao aq au aw ax ay az a2 a4 a5 a6 a7 U
 ai a Y aa ab ac ae I J (List.set r2 (0+n1.toNat:Nat) b) q2 c))))))))))) ((I=r2.length/\J=q2)/\uP N (Q U ai aj
 Y aa ab ac ae r2 J))):yJ Q N0 n1 s2 a3 e3 c3 a8 ah a9 O ak al am ao aq au aw ax ay az a2 a4 a5 a6 a7 U ai aj Y aa ab ac ae I J r2 q2 N:=
  hE qA h
theorem uS (Q:QT [.ag 9]) (N0:Nat) (s1:ByteArray) (n9:Int) (a6:Bool) (I:Int) (y0:D) (aj:Int) (ak al:ByteArray) (am ao:Int) (aq:Option Addr) (au:List D) (aw:Nat) (ax:Int) (ay:Option Addr) (az:List D) (a2:Nat) (a3:Option Addr) (a4:List D) (a5:Nat) (ab:Int) (ac ae:ByteArray) (ah:Int) (O U Y aa:D) (J ai:Nat) (r3:List D) (q3:Nat) (N:Nat) (h :
Br (decide (I<(J:Int))) (Br (bne I n9) ((0<=I/\I<(J:Int)/\(0+I.toNat:Nat)<r3.length)/\(0+I.toNat:Nat)<r3.length /\
 kA 9 101 [.dg 9 (List.getD r3 (0+I.toNat:Nat) default),.str s1,.dg 9 y0] N (λx a=>(0<=I/\I<(J:Int)/\(0+I.toNat:Nat) <
 r3.length)/\(0+I.toNat:Nat)<r3.length/\zD Q N0 s1 n9 a6 (IntKind.i64.wrap (I+1)) y0 aj ak al am ao aq au aw ax
 ay az a2 a3 a4 a5 ab ac ae ah O U Y aa J ai (List.set r3 (0+I.toNat:Nat) x) q3 a)) (Br (!a6) ((0<=I/\I<(J
 : Int)/\(0+I.toNat:Nat)<r3.length)/\(0+I.toNat:Nat)<r3.length/\kA 9 101 [.dg 9 (List.getD r3 (0+I.toNat:Nat) default),.str s1,.dg 9
 y0] N (λa b=>(0<=I/\I<(J:Int)/\(0+I.toNat:Nat)<r3.length)/\(0+I.toNat:Nat)<r3.length/\zD Q N0 s1 n9 a6
 (IntKind.i64.wrap (I+1)) y0 aj ak al am ao aq au aw ax ay az a2 a3 a4 a5 ab ac ae ah O U Y aa J ai
 (List.set r3 (0+I.toNat:Nat) a) q3 b)) (zD Q N0 s1 n9 a6 (IntKind.i64.wrap (I+1)) y0 aj ak al am ao aq au aw ax
 ay az a2 a3 a4 a5 ab ac ae ah O U Y aa J ai r3 q3 N))) (w4 (J=r3.length/\ai=q3) (∀ a b,N<=b->Fresh N0 b a
 [D.ag r3,O,U,Y,aa]->uP b (Q (D.ag [D.j ab,D.t ac,D.t ae,D.j ah,O,U,Y,aa,D.sl a 9 r3 q3]))))):zD Q N0 s1 n9 a6 I y0 aj ak al am ao aq au aw ax ay az a2 a3 a4 a5 ab ac ae ah O U Y aa J ai r3 q3 N:=
  hE t5 h
end Go.Proofs.YtnmnahkkcfghjaaGreat
set_option maxRecDepth 100000
namespace Go.Proofs.YtnmnahkkcfghjaaGreat
open Go Go.Proofs Go.Proofs.Tryz
def zBJ:Hint:=⟨[],[],[(8,hs 10 [ec 1 [12],ec 7 [18]])]⟩
def pM:Hint:=⟨[hc 4 [1,2,5]],[],[(6,[en 0,en 1,en 2,en 3,en 4,en 5,en 6,ec 7 [25],ec 8 [24],en 9])]⟩
def sK:Hint:=⟨[hc 6 [1,2,4,5,6],hc 12 [1,2,4,5,9]],[],[(8,hs 7 [ec 5 [37]]),(9,hs 9 [ec 2 [41]]),(17,[en 0,en 1,en 2,en 3,en 4,en 5,en 6,en 7,eh 8,en 9,en 10,en 11,en 12,en 13])]⟩
def zGx:Hint:=⟨[],[],[(1,hs 12 [ec 5 [13]]),(4,hs 7 [ec 3 [21,23]])]⟩
def zDo:Hint:=⟨[],[],[(1,hs 4 [ec 1 [8]])]⟩
def qo:Hint:=⟨[hc 3 [1,2,4,5]],[],[(5,hs 7 [ec 5 [20]]),(6,hs 9 [ec 2 [24]]),(10,[en 0,en 1,en 2,en 3,en 4,en 5,en 6,en 7,en 8,en 9,ec 10 [38,44],eh 11,en 12]),(12,[en 0,en 1,en 2,en 3,en 4,en 5,en 6,en 8,en 9,en 10,en 11,en 12,en 13,ec 7 [51,54],ec 14 [55,61],eh 15,en 16])]⟩
def rz:Hint:=⟨[hc 10 [1,2,4,10]],[],[(3,hs 3 [ec 1 [25]]),(4,hs 8 [ec 1 [29]]),(7,hs 8 [ec 4 [41]]),(12,[en 0,en 1,en 2,en 3,en 4,en 5,en 6,en 13,ec 7 [57],ec 8 [56],en 9,en 10,en 11,en 12,eh 14,en 15,en 16]),(14,hs 8 [ec 3 [65,67]])]⟩
def zFh:Hint:=⟨[],[],[(2,hs 3 [ec 1 [11]]),(3,hs 8 [ec 1 [15]]),(6,hs 10 [ec 7 [36]]),(8,[en 0,en 1,en 2,en 3,en 4,en 5,en 6,ec 7 [45,48],eh 8,en 9]),(10,hs 7 [ec 4 [62]])]⟩
def zDe:Hint:=⟨[],[],[(1,hs 2 [ec 1 [13]]),(5,hs 8 [ec 1 [21]]),(8,hs 8 [ec 1 [30]]),(11,hs 13 [ec 4 [42]]),(12,hs 6 [ec 2 [47,48]]),(17,hs 8 [ec 1 [57]])]⟩
def yb (Q:QT [.bool]) (N0:Nat) (n1 I:Int) (J:D) (N:Nat):Prop:=AT prog 74 [.bool] Q N0 .ord (zE prog 74 4) ⟨an 1 (.int .i64 n1::.pb 0 0 0 0::an 2 (.int .i64 I::an 24 [])),[.vd J 9],N,none⟩
def yE (Q:QT [.ag 9,.int .i64]) (N0:Nat) (n4:Int) (m5 c5:Nat) (n6:Int) (y0:D) (I:Int) (J O:ByteArray) (U Y:Int) (aa:Option Addr) (ab:List D) (ac:Nat) (ae:Int) (ah:Option Addr) (ai:List D) (aj:Nat) (ak:Option Addr) (al:List D) (am:Nat) (r2:List D) (q2:Nat) (N:Nat):Prop:=AT prog 75 [.ag 9,.int .i64] Q N0 .ord (zE prog 75 6) ⟨an 1 (.pb 0 0 0 0::.pb 1 0 0 0::an 1 (.int .i64 n4::.sb 2 0 0 m5 c5::.int .i64 n6::an 95 [])),[.vd y0 9,.var [.int .i64 I,.str J,.str O,.int .i64 U,.int .i64 Y,.sv aa 2 ab ac,.int .i64 ae,.sv ah 2 ai aj,.sv ak 9 al am],.arr 3 0 r2 q2],N,none⟩
def wC (Q:QT [.ag 9,.int .i64]) (N0:Nat) (n5:Int) (y0:D) (I:Int) (J O:ByteArray) (U Y:Int) (aa:Option Addr) (ab:List D) (ac:Nat) (ae:Int) (ah:Option Addr) (ai:List D) (aj:Nat) (ak:Option Addr) (al:List D) (am:Nat) (y2:D) (N:Nat):Prop:=AT prog 76 [.ag 9,.int .i64] Q N0 .ord (zE prog 76 3) ⟨an 1 (.pb 0 0 0 0::.pb 1 0 0 0::an 1 (.pb 2 0 0 0::.int .i64 n5::an 58 [])),[.vd y0 9,.var [.int .i64 I,.str J,.str O,.int .i64 U,.int .i64 Y,.sv aa 2 ab ac,.int .i64 ae,.sv ah 2 ai aj,.sv ak 9 al am],.vd y2 9],N,none⟩
def yF (Q:QT [.ag 9,.int .i64,.bool]) (N0:Nat) (n1 ao:Int) (y0:D) (I:Int) (J O:ByteArray) (U Y:Int) (aa:Option Addr) (ab:List D) (ac:Nat) (ae:Int) (ah:Option Addr) (ai:List D) (aj:Nat) (ak:Option Addr) (al:List D) (am:Nat) (N:Nat):Prop:=AT prog 77 [.ag 9,.int .i64,.bool] Q N0 .ord (zE prog 77 10) ⟨an 1 (.int .i64 n1::.pb 0 0 0 0::an 1 (.pb 1 0 0 0::an 5 (.int .i64 ao::an 60 []))),[.vd y0 9,.var [.int .i64 I,.str J,.str O,.int .i64 U,.int .i64 Y,.sv aa 2 ab ac,.int .i64 ae,.sv ah 2 ai aj,.sv ak 9 al am]],N,none⟩
def yY (Q:QT [.ag 9,.int .i64]) (N0:Nat) (n4:Int) (m5 c5:Nat) (n9:Int) (y0:D) (I:Int) (J O:ByteArray) (U Y:Int) (aa:Option Addr) (ab:List D) (ac:Nat) (ae:Int) (ah:Option Addr) (ai:List D) (aj:Nat) (ak:Option Addr) (al:List D) (am:Nat) (r2:List D) (q2:Nat) (N:Nat):Prop:=AT prog 75 [.ag 9,.int .i64] Q N0 .ord (zE prog 75 12) ⟨an 1 (.pb 0 0 0 0::.pb 1 0 0 0::an 1 (.int .i64 n4::.sb 2 0 0 m5 c5::an 3 (.int .i64 n9::an 92 []))),[.vd y0 9,.var [.int .i64 I,.str J,.str O,.int .i64 U,.int .i64 Y,.sv aa 2 ab ac,.int .i64 ae,.sv ah 2 ai aj,.sv ak 9 al am],.arr 3 0 r2 q2],N,none⟩
theorem zBM (N:Nat) (I:D) (Q:QT [.bool]) (h :
Bel N I->∃ n:Int,(I.cell 0)=D.j n/\Br (n==2) (uP N (Q true)) (Br (n==3) (uP N (Q true)) (Br (n==6) (uP N (Q true)) (Br (n==9) (uP N (Q
 true)) (Br (n==10) (kB 71 [.dg 9 I,.j 0] N (λb d=>Br b (∃ a b,∃ c:Nat,(I.cell 8)=D.sl a 9 b c/\((0:Int)<=(0:Int)/\0<(b.length :
 Int))/\kB 74 [.dg 9 (List.getD b 0 default),.j 1] d (λa b=>uP b (Q a))) (uP d (Q false)))) (uP N (Q false))))))):ACalls prog 44 [.bool] [PV.dg 9 I] N Q:=
  eE zBJ h
theorem zFC (N:Nat) (I:D) (n1:Int) (Q:QT [.bool]) (h :
Bel N I->∃ n:Int,(I.cell 0)=D.j n/\Br (n==11) (Br (n1==1) (uP N (Q false)) (yb Q N n1 0 I N)) (yb Q N n1 0 I N)):ACalls prog 74 [.bool] [PV.dg 9 I,PV.int .i64 n1] N Q:=
 eE pM h
theorem zGp (N:Nat) (I:D) (Q:QT [.ag 9,.int .i64]) (h :
Bel N I->∃ s,(I.cell 1)=D.t s/\Br (ByteArray.toList s==ByteArray.toList (bytes [38])) (yE Q N 3 2 2 0 I 0 b0 b0 0 0 none [] 0 0 none
 [] 0 none [] 0 [D.j 0,D.j 0] 2 N) (∃ a,(I.cell 1)=D.t a/\Br (ByteArray.toList a==ByteArray.toList (bytes [124])) (yE Q N 3 2 2 0 I 0
 b0 b0 0 0 none [] 0 0 none [] 0 none [] 0 [D.j 0,D.j 0] 2 N) (∃ a,(I.cell 1)=D.t a/\Br (ByteArray.toList a==ByteArray.toList (bytes [33]))
 (yE Q N 3 2 2 0 I 0 b0 b0 0 0 none [] 0 0 none [] 0 none [] 0 [D.j 0,D.j 0] 2 N) (yE Q N 2 2 2 0 I 0 b0 b0 0 0 none [] 0 0 none [] 0
 none [] 0 [D.j 0,D.j 0] 2 N)))):ACalls prog 75 [.ag 9,.int .i64] [PV.dg 9 I] N Q:=
  eE sK h
theorem zHf (N:Nat) (I:D) (n1:Int) (Q:QT [.ag 9,.int .i64]) (h :
Bel N I->∃ a b,∃ c:Nat,(I.cell 8)=D.sl a 9 b c/\(0<=n1/\n1<(b.length:Int))/\∀ a,N<=a->ACalls prog 45 [.ag 9,.i] [.dg 9 (List.getD
 b n1.toNat default)] a (λx n b=>a<=b->Bel b x->Br (n==0) (uP b (Q I n)) (kA 9 78 [.dg 9 I,.j n1,.dg 9 x] b (λa b=>uP b (Q a
 n))))):ACalls prog 99 [.ag 9,.int .i64] [PV.dg 9 I,PV.int .i64 n1] N Q:=
  eE zGx h
theorem zDl (N:Nat) (J:D) (n1:Int) (I:D) (Q:QT [.ag 9]) (h :
Bel N J->Bel N I->∀ b,N<=b->ACalls prog 42 [.pk,.i,.str,.str,.i,.dc,.dc,.dc,.dc,.row 29 9] [.dg 9 J] b (λn s c d x e f g
 h i j=>b<=j->Bel j (D.ag h)->(0<=n1/\n1<(h.length:Int)/\(0+n1.toNat:Nat)<h.length)/\(0+n1.toNat:Nat)<h.length/\w5 (h.length
 = (List.set h (0+n1.toNat:Nat) I).length/\i=i) (∀ a b,j<=b->Fresh N b a [D.ag (List.set h (0+n1.toNat:Nat) I),x,e,f,g]->∀ j,
 b<=j->Q (D.ag [D.j n,D.t s,D.t c,D.j d,x,e,f,g,D.sl a 9 (List.set h (0+n1.toNat:Nat) I) i]) j))):ACalls prog 78 [.ag 9] [PV.dg 9 J,PV.int .i64 n1,PV.dg 9 I] N Q:=
  eE zDo h
theorem zFa (N:Nat) (I:D) (Q:QT [.ag 9,.int .i64]) (h :
Bel N I->∃ a b,∃ c:Nat,(I.cell 8)=D.sl a 9 b c/\((0:Int)<=(0:Int)/\0<(b.length:Int))/\wC Q N 0 I 0 b0 b0 0 0 none []
 0 0 none [] 0 none [] 0 (List.getD b 0 default) N):ACalls prog 76 [.ag 9,.int .i64] [PV.dg 9 I] N Q:=
  eE qo h
theorem zDa (N:Nat) (x0:D) (n1:Int) (Q:QT [.ag 9,.int .i64,.bool]) (h :
Bel N x0->∃ n:Int,(x0.cell 0)=D.j n/\Br (n==11) (Br (n1==1) (∃ a d,∃ c:Nat,(x0.cell 8)=D.sl a 9 d c/\((0:Int)<=(0:Int)/\0 <
 (d.length:Int))/\kB 44 [.dg 9 (List.getD d 0 default)] N (fun b a=>Br (!b) (∀ b,a<=b->ACalls prog 99 [.ag 9,.i] [.dg 9 x0,.j 0] b (fun x a c
 => b<=c->Bel c x->uP c (Q x a true))) (∃ b:Int,D.cell (List.getD d 0 default) 0=D.j b/\Br (b==10) (∃ b c,∃ e:Nat,D.cell
 (List.getD d 0 default) 8=D.sl b 9 c e/\((0:Int)<=(0:Int)/\0<(c.length:Int))/\∀ b,a<=b->ACalls prog 42 [.pk,.i,.str,.str,.i,
 .dc,.dc,.dc,.dc,.row 29 9] [.dg 9 (List.getD c 0 default)] b (fun a s c d e f g h i j k=>b<=k->Bel k (D.ag i)->w2
 (i.length=i.length/\j=j) (∀ b l,k<=l->Fresh N l b [D.ag i,e,f,g,h]->uP l (Q (D.ag [D.j a,D.t s,D.t c,D.j d,
 e,f,g,h,D.sl b 9 i j]) 6 true)))) (uP a (Q x0 0 true))))) (yF Q N n1 0 x0 0 b0 b0 0 0 none [] 0 0 none [] 0 none [] 0 N))
 (yF Q N n1 0 x0 0 b0 b0 0 0 none [] 0 0 none [] 0 none [] 0 N)):ACalls prog 77 [.ag 9,.int .i64,.bool] [PV.dg 9 x0,PV.int .i64 n1] N Q:=
  eE rz h
theorem zFl (N:Nat) (I:D) (Q:QT [.ag 9,.int .i64]) (h :
Bel N I->∃ a d,∃ c:Nat,(I.cell 8)=D.sl a 9 d c/\((0:Int)<=(0:Int)/\0<(d.length:Int))/\kB 44 [.dg 9 (List.getD d 0 default)] N (fun
 b a=>Br (!b) (∀ b,a<=b->ACalls prog 99 [.ag 9,.i] [.dg 9 I,.j 0] b (λx n a=>b<=a->Bel a x->uP a (Q x n))) (∃ b:Int,(I.cell 0) =
 D.j b/\Br (b==5) (∃ b:Int,D.cell (List.getD d 0 default) 0=D.j b/\Br (b==3) (∃ b c,∃ e:Nat,(I.cell 8)=D.sl b 9 c e /\
 ∃ b:Int,D.cell (List.getD d 0 default) 3=D.j b/\(0<=IntKind.i64.wrap (2 - b)/\IntKind.i64.wrap (2 - b)<(c.length:Int))/\∀ d,a<=d ->
 ACalls prog 42 [.pk,.i,.str,.str,.i,.dc,.dc,.dc,.dc,.row 29 9] [.dg 9 (List.getD c (IntKind.i64.wrap (2 - b)).toNat default)] d (λa s b
 c e f g h i j k=>d<=k->Bel k (D.ag i)->w2 (i.length=i.length/\j=j) (∀ d l,k<=l->Fresh N l d [D.ag i,
 e,f,g,h]->uP l (Q (D.ag [D.j a,D.t s,D.t b,D.j c,e,f,g,h,D.sl d 9 i j]) 2)))) (∃ b:Int,(I.cell 0)=D.j b/\Br
 (b==8) (∃ b c,∃ e:Nat,(I.cell 8)=D.sl b 9 c e/\((0:Int)<=(1:Int)/\1<(c.length:Int))/\∃ b,(I.cell 1)=D.t b/\kA 9
 101 [.dg 9 (List.getD c 1 default),.str b,.dg 9 (List.getD d 0 default)] a (λa b=>uP b (Q a 5))) (∃ b:Int,(I.cell 0)=D.j b/\Br
 (b==12) (∃ b:Int,D.cell (List.getD d 0 default) 0=D.j b/\Br (b==10) (∃ b c,∃ e:Nat,D.cell (List.getD d 0 default) 8=D.sl b 9
 c e/\((0:Int)<=(0:Int)/\0<(c.length:Int))/\∀ b,a<=b->ACalls prog 42 [.pk,.i,.str,.str,.i,.dc,.dc,.dc,.dc,.row 29 9] [.dg 9
 (List.getD c 0 default)] b (λa c d e f g h i j k l=>b<=l->Bel l (D.ag j)->w2 (j.length=j.length/\k =
 k) (∀ b m,l<=m->Fresh N m b [D.ag j,f,g,h,i]->uP m (Q (D.ag [D.j a,D.t c,D.t d,D.j e,f,g,h,i,D.sl
 b 9 j k]) 7)))) (∃ b:Int,(I.cell 0)=D.j b/\Br (b==13) (∃ b:Int,D.cell (List.getD d 0 default) 0=D.j b/\Br (b==2) ((1
 = ([List.getD d 0 default]).length/\1=1)/\∀ b,ApA b [List.getD d 0 default]->∀ c,a<=c->ux c [b]->ACalls prog 67 [.ag 9] [.j 10,.sv
 b 9 [List.getD d 0 default] 1] c (λa d=>c<=d->Off [b] a/\(Bel d a->uP d (Q a 8)))) (∃ b:Int,D.cell (List.getD d 0
 default) 0=D.j b/\Br (b==3) ((1=([List.getD d 0 default]).length/\1=1)/\∀ b,ApA b [List.getD d 0 default]->∀ c,a<=c->ux c
 [b]->ACalls prog 67 [.ag 9] [.j 10,.sv b 9 [List.getD d 0 default] 1] c (λa d=>c<=d->Off [b] a/\(Bel d a->uP d (Q a
 8)))) (uP a (Q I 0)))) (uP a (Q I 0)))) (∃ b:Int,(I.cell 0)=D.j b/\Br (b==13) (∃ b:Int,D.cell (List.getD d 0 default) 0=D.j b
 /\ Br (b==2) ((1=([List.getD d 0 default]).length/\1=1)/\∀ b,ApA b [List.getD d 0 default]->∀ c,a<=c->ux c [b]->ACalls prog 67
 [.ag 9] [.j 10,.sv b 9 [List.getD d 0 default] 1] c (λa d=>c<=d->Off [b] a/\(Bel d a->uP d (Q a 8)))) (∃ b:Int,
 D.cell (List.getD d 0 default) 0=D.j b/\Br (b==3) ((1=([List.getD d 0 default]).length/\1=1)/\∀ b,ApA b [List.getD d 0 default]->∀
 c,a<=c->ux c [b]->ACalls prog 67 [.ag 9] [.j 10,.sv b 9 [List.getD d 0 default] 1] c (λa d=>c<=d->Off [b] a/\(Bel d
 a->uP d (Q a 8)))) (uP a (Q I 0)))) (uP a (Q I 0)))))) (∃ b:Int,(I.cell 0)=D.j b/\Br (b==8) (∃ b c,∃ e:Nat,(I.cell
 8)=D.sl b 9 c e/\((0:Int)<=(1:Int)/\1<(c.length:Int))/\∃ b,(I.cell 1)=D.t b/\kA 9 101 [.dg 9 (List.getD c 1 default),.str
 b,.dg 9 (List.getD d 0 default)] a (λa b=>uP b (Q a 5))) (∃ b:Int,(I.cell 0)=D.j b/\Br (b==12) (∃ b:Int,D.cell
 (List.getD d 0 default) 0=D.j b/\Br (b==10) (∃ b c,∃ e:Nat,D.cell (List.getD d 0 default) 8=D.sl b 9 c e/\((0:Int)<=(0 :
 Int)/\0<(c.length:Int))/\∀ b,a<=b->ACalls prog 42 [.pk,.i,.str,.str,.i,.dc,.dc,.dc,.dc,.row 29 9] [.dg 9 (List.getD c 0 default)]
 b (λa c d e f g h i j k l=>b<=l->Bel l (D.ag j)->w2 (j.length=j.length/\k=k) (∀ b m,l <=
 m->Fresh N m b [D.ag j,f,g,h,i]->uP m (Q (D.ag [D.j a,D.t c,D.t d,D.j e,f,g,h,i,D.sl b 9 j
 k]) 7)))) (∃ b:Int,(I.cell 0)=D.j b/\Br (b==13) (∃ b:Int,D.cell (List.getD d 0 default) 0=D.j b/\Br (b==2) ((1 =
 ([List.getD d 0 default]).length/\1=1)/\∀ b,ApA b [List.getD d 0 default]->∀ c,a<=c->ux c [b]->ACalls prog 67 [.ag 9] [.j 10,.sv
 b 9 [List.getD d 0 default] 1] c (λa d=>c<=d->Off [b] a/\(Bel d a->uP d (Q a 8)))) (∃ b:Int,D.cell (List.getD d 0
 default) 0=D.j b/\Br (b==3) ((1=([List.getD d 0 default]).length/\1=1)/\∀ b,ApA b [List.getD d 0 default]->∀ c,a<=c->ux c
 [b]->ACalls prog 67 [.ag 9] [.j 10,.sv b 9 [List.getD d 0 default] 1] c (λa d=>c<=d->Off [b] a/\(Bel d a->uP d (Q a
 8)))) (uP a (Q I 0)))) (uP a (Q I 0)))) (∃ b:Int,(I.cell 0)=D.j b/\Br (b==13) (∃ b:Int,D.cell (List.getD d 0 default) 0=D.j b
 /\ Br (b==2) ((1=([List.getD d 0 default]).length/\1=1)/\∀ b,ApA b [List.getD d 0 default]->∀ c,a<=c->ux c [b]->ACalls prog
 67 [.ag 9] [.j 10,.sv b 9 [List.getD d 0 default] 1] c (λa d=>c<=d->Off [b] a/\(Bel d a->uP d (Q a 8)))) (∃ b:Int,
 D.cell (List.getD d 0 default) 0=D.j b/\Br (b==3) ((1=([List.getD d 0 default]).length/\1=1)/\∀ b,ApA b [List.getD d 0 default]->∀
 c,a<=c->ux c [b]->ACalls prog 67 [.ag 9] [.j 10,.sv b 9 [List.getD d 0 default] 1] c (λa d=>c<=d->Off [b] a/\(Bel
 d a->uP d (Q a 8)))) (uP a (Q I 0)))) (uP a (Q I 0)))))))):ACalls prog 79 [.ag 9,.int .i64] [PV.dg 9 I] N Q:=
  eE zFh h
theorem zDy (N:Nat) (I:D) (Q:QT [.ag 9,.int .i64]) (h :
Bel N I->kB 44 [.dg 9 I] N (λb d=>Br b (uP d (Q I 0)) (∃ n:Int,(I.cell 0)=D.j n/\Br (n==4) (∀ a,d<=a->ACalls prog 75 [.ag 9,.i]
 [.dg 9 I] a (λx b c=>a<=c->Bel c x->uP c (Q x b))) (Br (n==7) (∀ a,d<=a->ACalls prog 76 [.ag 9,.i] [.dg 9 I] a (λb c d=>
 a<=d->Bel d b->uP d (Q b c))) (Br (n==10) (∃ a b,∃ c:Nat,(I.cell 8)=D.sl a 9 b c/\((0:Int)<=(0:Int)/\0<(b.length:Int))/\∀
 a,d<=a->ACalls prog 77 [.ag 9,.i,.bool] [.dg 9 (List.getD b 0 default),.j 1] a (λb c _ d=>a<=d->Bel d b->kA 9 78 [.dg 9
 I,.j 0,.dg 9 b] d (λa b=>uP b (Q a c)))) (Br (n==5) (∀ a,d<=a->ACalls prog 79 [.ag 9,.i] [.dg 9 I] a (λb c d=>a
 <= d->Bel d b->uP d (Q b c))) (Br (n==8) (∀ a,d<=a->ACalls prog 79 [.ag 9,.i] [.dg 9 I] a (λb c d=>a<=d->Bel d b
 -> uP d (Q b c))) (Br (n==12) (∀ a,d<=a->ACalls prog 79 [.ag 9,.i] [.dg 9 I] a (λb c d=>a<=d->Bel d b->uP d (Q b
 c))) (Br (n==13) (∀ a,d<=a->ACalls prog 79 [.ag 9,.i] [.dg 9 I] a (λb c d=>a<=d->Bel d b->uP d (Q b c))) (uP d (Q
 I 0))))))))))):ACalls prog 45 [.ag 9,.int .i64] [PV.dg 9 I] N Q:=
  eE zDe h
theorem zA3 (N:Nat) (n0:Int) (Q:QT [.ag 9]) (h :
∀ a,N<=a->Q (D.ag [D.j 2,D.t b0,D.t b0,D.j n0,D.j 0,D.sl none 2 [] 0,D.j 0,D.sl none 2 [] 0,D.sl none 9 [] 0]) a):ACalls prog 85 [.ag 9] [PV.int .i64 n0] N Q:=
  eE H0 h
theorem zAF (N:Nat) (n0:Int) (Q:QT [.ag 9]) (h :
∀ a,N<=a->Q (D.ag [D.j 3,D.t b0,D.t b0,D.j n0,D.j 0,D.sl none 2 [] 0,D.j 0,D.sl none 2 [] 0,D.sl none 9 [] 0]) a):ACalls prog 86 [.ag 9] [PV.int .i64 n0] N Q:=
  eE H0 h
theorem zDb (N:Nat) (I:ByteArray) (n1 J:Int) (Q:QT [.int .i64,.bool]) (h :
kB 31 [.j n1,.j 0,.j 10006] N (λb a=>Br (!b) (uP a (Q 0 false)) (kB 31 [.j J,.j 0,.j 10006] a (λa b=>Br (!a) (uP b (Q 0 false)) (Br
 (ByteArray.toList I==ByteArray.toList (bytes [43])) (kI 109 [.j (IntKind.i64.wrap (n1+J))] b (λn a=>uP a (Q n true))) (Br (ByteArray.toList I ==
 ByteArray.toList (bytes [45])) (kI 109 [.j (IntKind.i64.wrap (n1 - J))] b (λa b=>uP b (Q a true))) (Br (ByteArray.toList I==ByteArray.toList
 (bytes [42])) (kI 109 [.j (IntKind.i64.wrap (n1*J))] b (λa b=>uP b (Q a true))) (Br (ByteArray.toList I==ByteArray.toList (bytes [61])) (kI
 34 [.bool (n1==J)] b (λa b=>uP b (Q a true))) (Br (ByteArray.toList I==ByteArray.toList (bytes [60])) (kI 34 [.bool (decide (n1<J))] b
 (λa b=>uP b (Q a true))) (Br (ByteArray.toList I==ByteArray.toList (bytes [38])) (Br (n1==1) (kI 34 [.bool (J==1)] b (λa b=>uP
 b (Q a true))) (kI 34 [.bool false] b (λa b=>uP b (Q a true)))) (Br (ByteArray.toList I==ByteArray.toList (bytes [124])) (Br (n1==1) (kI
 34 [.bool true] b (λa b=>uP b (Q a true))) (kI 34 [.bool (J==1)] b (λa b=>uP b (Q a true)))) (Br (ByteArray.toList I ==
 ByteArray.toList (bytes [33])) (kI 34 [.bool (n1==0)] b (λa b=>uP b (Q a true))) (uP b (Q 0 false)))))))))))))):ACalls prog 100 [.int .i64,.bool] [PV.str I,PV.int .i64 n1,PV.int .i64 J] N Q:=
  eE H0 h
theorem zFY (N:Nat) (n0:Int) (Q:QT [.int .i64]) (h :
(10007:Int)≠(0:Int)/\Br (decide (Int.tmod n0 10007<0)) (uP N (Q (IntKind.i64.wrap (Int.tmod n0 10007+10007)))) (uP N (Q (Int.tmod n0 10007)))):ACalls prog 109 [.int .i64] [PV.int .i64 n0] N Q:=
 eE H0 h
theorem zHq (N:Nat) (b0:Bool) (Q:QT [.int .i64]) (h :
Br b0 (uP N (Q 1)) (uP N (Q 0))):ACalls prog 34 [.int .i64] [PV.bool b0] N Q:=
 eE H0 h
theorem sJ (Q:QT [.bool]) (N0:Nat) (n1 I:Int) (J:D) (N:Nat) (h :
∃ a d,∃ c:Nat,(J.cell 8)=D.sl a 9 d c/\Br (decide (I<(d.length:Int))) (∃ a c,∃ d:Nat,(J.cell 8)=D.sl a 9 c d/\(0<=I
 /\ I<(c.length:Int))/\kI 95 [.dg 9 J,.j n1] N (λn a=>kB 74 [.dg 9 (List.getD c I.toNat default),.j n] a (λb a=>Br (!b) (uP a (Q
 false)) (yb Q N0 n1 (IntKind.i64.wrap (I+1)) J a)))) (uP N (Q true))):yb Q N0 n1 I J N:=
  hE pM h
theorem ry (Q:QT [.ag 9,.int .i64]) (N0:Nat) (n4:Int) (m5 c5:Nat) (n6:Int) (y0:D) (I:Int) (J O:ByteArray) (U Y:Int) (aa:Option Addr) (ab:List D) (ac:Nat) (ae:Int) (ah:Option Addr) (ai:List D) (aj:Nat) (ak:Option Addr) (al:List D) (am:Nat) (r2:List D) (q2:Nat) (N:Nat) (h :
∃ a d,∃ c:Nat,(y0.cell 8)=D.sl a 9 d c/\Br (decide (n6<(d.length:Int))) (∃ a c,∃ d:Nat,(y0.cell 8)=D.sl a 9 c d/\(0<=n6
 /\ n6<(c.length:Int))/\kB 44 [.dg 9 (List.getD c n6.toNat default)] N (λb a=>Br (!b) (∀ b,a<=b->ACalls prog 99 [.ag 9,.i] [.dg 9 y0,.j
 n6] b (λx n a=>b<=a->Bel a x->uP a (Q x n))) (yE Q N0 n4 m5 c5 (IntKind.i64.wrap (n6+1)) y0 I J O U Y aa ab ac
 ae ah ai aj ak al am r2 q2 a))) (yY Q N0 n4 m5 c5 0 y0 I J O U Y aa ab ac ae ah ai aj ak al am r2
 q2 N)):yE Q N0 n4 m5 c5 n6 y0 I J O U Y aa ab ac ae ah ai aj ak al am r2 q2 N:=
  hE sK h
theorem s6 (Q:QT [.ag 9,.int .i64]) (N0:Nat) (n5:Int) (y0:D) (J:Int) (O U:ByteArray) (Y aa:Int) (ab:Option Addr) (ac:List D) (ae:Nat) (ah:Int) (ai:Option Addr) (aj:List D) (ak:Nat) (al:Option Addr) (am:List D) (ao:Nat) (I:D) (N:Nat) (h :
Br (decide (n5<2)) (∃ a d,∃ c:Nat,(y0.cell 8)=D.sl a 9 d c/\(0<=n5/\n5<(d.length:Int))/\kB 44 [.dg 9 (List.getD d n5.toNat default)] N
 (λb a=>Br (!b) (∀ b,a<=b->ACalls prog 99 [.ag 9,.i] [.dg 9 y0,.j n5] b (λx n a=>b<=a->Bel a x->uP a (Q x n))) (wC Q N0
 (IntKind.i64.wrap (n5+1)) y0 J O U Y aa ab ac ae ah ai aj ak al am ao I a))) (∃ a:Int,(I.cell 0)=D.j a/\Br (a
 == 6) (∃ a b,∃ c:Nat,(I.cell 8)=D.sl a 9 b c/\((0:Int)<=(0:Int)/\0<(b.length:Int))/\∃ s,(I.cell 1)=D.t s/\∃ a c,∃
 d:Nat,(y0.cell 8)=D.sl a 9 c d/\((0:Int)<=(1:Int)/\1<(c.length:Int))/\kA 9 101 [.dg 9 (List.getD b 0 default),.str s,.dg 9
 (List.getD c 1 default)] N (λa b=>uP b (Q a 3))) (Br (a==9) (∃ a b,∃ c:Nat,(I.cell 8)=D.sl a 9 b c/\((0:Int)<=(0 :
 Int)/\0<(b.length:Int))/\∃ a,(I.cell 1)=D.t a/\∃ c,(I.cell 2)=D.t c/\∃ d e,∃ f:Nat,(y0.cell 8)=D.sl d 9 e f/\((0
 : Int)<=(1:Int)/\1<(e.length:Int))/\kA 9 101 [.dg 9 (List.getD b 0 default),.str a,.dg 9 I] N (λa b=>kA 9 101 [.dg 9 a,.str c,
 .dg 9 (List.getD e 1 default)] b (λa b=>uP b (Q a 4)))) (uP N (Q y0 0))))):wC Q N0 n5 y0 J O U Y aa ab ac ae ah ai aj ak al am ao I N:=
  hE qo h
theorem u5 (Q:QT [.ag 9,.int .i64,.bool]) (N0:Nat) (n1 I:Int) (y0:D) (J:Int) (O U:ByteArray) (Y aa:Int) (ab:Option Addr) (ac:List D) (ae:Nat) (ah:Int) (ai:Option Addr) (aj:List D) (ak:Nat) (al:Option Addr) (am:List D) (ao:Nat) (N:Nat) (h :
∃ a d,∃ c:Nat,(y0.cell 8)=D.sl a 9 d c/\Br (decide (I<(d.length:Int))) (∃ a c,∃ d:Nat,(y0.cell 8)=D.sl a 9 c d/\(0 <=
 I/\I<(c.length:Int))/\kI 95 [.dg 9 y0,.j n1] N (λn a=>∀ d,a<=d->ACalls prog 77 [.ag 9,.i,.bool] [.dg 9 (List.getD c I.toNat
 default),.j n] d (λx a b c=>d<=c->Bel c x->Br b (kA 9 78 [.dg 9 y0,.j I,.dg 9 x] c (λb c=>uP c (Q b a true)))
 (yF Q N0 n1 (IntKind.i64.wrap (I+1)) y0 J O U Y aa ab ac ae ah ai aj ak al am ao c)))) (uP N (Q y0 0
 false))):yF Q N0 n1 I y0 J O U Y aa ab ac ae ah ai aj ak al am ao N:=
  hE rz h
theorem sx (Q:QT [.ag 9,.int .i64]) (N0:Nat) (n4:Int) (m5 c5:Nat) (n9:Int) (y0:D) (n1_0:Int) (s1_1 s1_2:ByteArray) (n1_3 n1_4:Int) (a1_5:Option Addr) (e1_5:List D) (c1_5:Nat) (n1_6:Int) (a1_7:Option Addr) (e1_7:List D) (c1_7:Nat) (a1_8:Option Addr) (e1_8:List D) (c1_8:Nat) (r2:List D) (q2:Nat) (N:Nat) (h :
∃ a d,∃ c:Nat,(y0.cell 8)=D.sl a 9 d c/\Br (decide (n9<(d.length:Int))) (∃ a b,∃ c:Nat,(y0.cell 8)=D.sl a 9 b c/\(0<=n9
 /\ n9<(b.length:Int))/\∃ n:Int,(if 0=0 then D.cell (List.getD b n9.toNat default) 0 else D.sub (List.getD b n9.toNat default) 0 0)=D.j n /\
 Br (bne n n4) (uP N (Q y0 0)) (∃ a b,∃ c:Nat,(y0.cell 8)=D.sl a 9 b c/\(0<=n9/\n9<(b.length:Int))/\∃ a:Int,(if 0=0 then
 D.cell (List.getD b n9.toNat default) 3 else D.sub (List.getD b n9.toNat default) 3 0)=D.j a/\(0<=n9/\n9<(m5:Int)/\(0+n9.toNat:Nat) <
 r2.length)/\(0+n9.toNat:Nat)<r2.length/\yY Q N0 n4 m5 c5 (IntKind.i64.wrap (n9+1)) y0 n1_0 s1_1 s1_2 n1_3 n1_4 a1_5 e1_5 c1_5 n1_6 a1_7
 e1_7 c1_7 a1_8 e1_8 c1_8 (List.set r2 (0+n9.toNat:Nat) (D.j a)) q2 N)) (∃ s,(y0.cell 1)=D.t s/\((0:Int)<=(0:Int)/\0<(m5:Int)/\0 <
 r2.length)/\0<r2.length/\∃ a:Int,List.getD r2 0 default=D.j a/\((0:Int)<=(1:Int)/\1<(m5:Int)/\1<r2.length)/\1<r2.length/\∃ c :
 Int,List.getD r2 1 default=D.j c/\kIB 100 [.str s,.j a,.j c] N (fun a _ b=>∃ c,(y0.cell 1)=D.t c/\Br (ByteArray.toList c ==
 ByteArray.toList (bytes [43])) (kA 9 85 [.j a] b (fun x a=>uP a (Q x 1))) (∃ c,(y0.cell 1)=D.t c/\Br (ByteArray.toList c==ByteArray.toList
 (bytes [45])) (kA 9 85 [.j a] b (fun a b=>uP b (Q a 1))) (∃ c,(y0.cell 1)=D.t c/\Br (ByteArray.toList c==ByteArray.toList (bytes [42]))
 (kA 9 85 [.j a] b (fun a b=>uP b (Q a 1))) (kA 9 86 [.j a] b (fun a b=>uP b (Q a 1)))))))):yY Q N0 n4 m5 c5 n9 y0 n1_0 s1_1 s1_2 n1_3 n1_4 a1_5 e1_5 c1_5 n1_6 a1_7 e1_7 c1_7 a1_8 e1_8 c1_8 r2 q2 N:=
  hE sK h
end Go.Proofs.YtnmnahkkcfghjaaGreat
set_option maxRecDepth 100000
namespace Go.Proofs.YtnmnahkkcfghjaaGreat
open Go Go.Proofs Go.Proofs.Tryz
def zGk:Hint:=⟨[],[],[(3,hs 4 [ec 1 [13]])]⟩
theorem zHJ (N:Nat) (O:ByteArray) (J I:D) (Q:QT [.ag 9]) (h :
Bel N J->Bel N I->(1=([I]).length/\1=1)/\∀ a,ApA a [I]->∀ b,N<=b->ux b [a]->ACalls prog 67 [.ag 9] [.j 6,.sv a 9 [I] 1] b (λx
 c=>b<=c->Off [a] x/\(Bel c x->kA 2 73 [.dg 2 J] c (λa b=>uP b (Q (D.ag [(x.cell 0),D.t O,(x.cell 2),(x.cell 3),(a.cell 0),(a.cell
 1),(x.cell 6),(x.cell 7),(x.cell 8)])))))):ACalls prog 64 [.ag 9] [PV.str O,PV.dg 2 J,PV.dg 9 I] N Q:=
  eE zGk h
end Go.Proofs.YtnmnahkkcfghjaaGreat
