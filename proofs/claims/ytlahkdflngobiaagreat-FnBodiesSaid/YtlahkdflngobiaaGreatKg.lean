/- Printed by gen.py: what the functions come to. -/
import Derived.Test.YtlahkdflngobiaaGreatJh
set_option linter.unusedVariables false
set_option maxRecDepth 100000
namespace Go.Proofs.YtlahkdflngobiaaGreat
open Go Go.Proofs Go.Proofs.Tryz
def pJ:Hint:=⟨[hc 4 [1,2,3,8,9,10,12]],[],[(1,hs 4 [ec 1 [16]]),(8,hs 15 [ec 6 [46]]),(9,[en 0,en 1,en 2,en 3,en 4,en 5,en 6,en 7,en 8,en 9,en 10,en 11,en 12,eh 13,ec 14 [62,68],en 15,eh 16])]⟩
def s6:Hint:=⟨[hc 9 [1,5,6,7,9,10,11]],[],[(2,hs 3 [ec 1 [21]]),(3,hs 4 [ec 1 [23]]),(6,hs 17 [ec 12 [45]]),(7,[en 0,en 1,en 2,en 3,ec 4 [54],ec 5 [51],eh 6]),(12,[en 0,en 1,en 2,en 3,en 4,en 5,en 6,en 7,en 8,en 9,ec 10 [78,80],en 11,eh 12])]⟩
def yY (Q:QT [.pk,.int .i64,.str,.str,.int .i64,.dc,.dc,.dc,.dc,.row 30 9]) (N0:Nat) (n1:Int) (s2:ByteArray) (a3:Option Addr) (e3:List D) (c3:Nat) (a5:Option Addr) (a6:List D) (a7:Nat) (a8 I:Int) (J O:ByteArray) (U Y:Int) (aa:Option Addr) (ab:List D) (ac:Nat) (ae:Int) (ah:Option Addr) (ai:List D) (aj:Nat) (ak:Option Addr) (al:List D) (am:Nat) (ao:Int) (aq au:ByteArray) (aw:Int) (ax ay az a0:D) (a2 a4:Nat) (r2:List D) (q2:Nat) (N:Nat):Prop:=AT prog 174 [.pk,.int .i64,.str,.str,.int .i64,.dc,.dc,.dc,.dc,.row 30 9] Q N0 .ord (zE prog 174 4) ⟨an 1 (.int .i64 n1::.str s2::.sv a3 0 e3 c3::an 4 (.pb 0 0 0 0::.pb 1 0 0 0::.sv a5 0 a6 a7::an 1 (.int .i64 a8::an 65 []))),[.var [.int .i64 I,.str J,.str O,.int .i64 U,.int .i64 Y,.sv aa 2 ab ac,.int .i64 ae,.sv ah 2 ai aj,.sv ak 9 al am],.var [.int .i64 ao,.str aq,.str au,.int .i64 aw,.dc ax,.dc ay,.dc az,.dc a0,.sb 2 9 0 a2 a4],.arr 30 9 r2 q2],N,none⟩
def zF (Q:QT [.ag 9]) (N0:Nat) (s1:ByteArray) (n9:Int) (a4:Bool) (a5:Int) (y0:D) (I:Int) (J O:ByteArray) (U Y:Int) (aa:Option Addr) (ab:List D) (ac:Nat) (ae:Int) (ah:Option Addr) (ai:List D) (aj:Nat) (ak:Option Addr) (al:List D) (am:Nat) (ao:Int) (aq au:ByteArray) (aw:Int) (ax ay az a0:D) (a2 a3:Nat) (r3:List D) (q3:Nat) (N:Nat):Prop:=AT prog 147 [.ag 9] Q N0 .ord (zE prog 147 9) ⟨an 1 (.str s1::an 3 (.pb 0 0 0 0::.pb 1 0 0 0::.pb 2 0 0 0::an 1 (.int .i64 n9::.bool a4::.int .i64 a5::an 72 []))),[.vd y0 9,.var [.int .i64 I,.str J,.str O,.int .i64 U,.int .i64 Y,.sv aa 2 ab ac,.int .i64 ae,.sv ah 2 ai aj,.sv ak 9 al am],.var [.int .i64 ao,.str aq,.str au,.int .i64 aw,.dc ax,.dc ay,.dc az,.dc a0,.sb 3 9 0 a2 a3],.arr 30 9 r3 q3],N,none⟩
theorem zFR (N:Nat) (I:D) (Y:Int) (s2:ByteArray) (J:Option Addr) (O:List D) (U:Nat) (Q:QT [.pk,.int .i64,.str,.str,.int .i64,.dc,.dc,.dc,.dc,.row 30 9]) (h :
Bel N I->Bel N (D.sl J 0 O U)->∀ b,N<=b->ACalls prog 50 [.pk,.i,.str,.str,.i,.dc,.dc,.dc,.dc,.row 30 9] [.dg 9 I] b (λn s c d
 x e f g h i j=>b<=j->Bel j (D.ag h)->∀ b,j<=b->ACalls prog 172 [.sl 0,.i] [.dg 9 I] b (λa j k _ l=>b<=l->Bel l (D.sl
 a 0 j k)->yY Q N Y s2 J O U a j k 0 0 b0 b0 0 0 none [] 0 0 none [] 0 none [] 0 n s c d x e f g h.length i h i l))):ACalls prog 174 [.pk,.int .i64,.str,.str,.int .i64,.dc,.dc,.dc,.dc,.row 30 9] [PV.dg 9 I,PV.int .i64 Y,PV.str s2,PV.sv J 0 O U] N Q:=
  eE pJ h
theorem zDJ (N:Nat) (O:D) (I:ByteArray) (J:D) (Q:QT [.ag 9]) (h :
Bel N O->Bel N J->∃ n:Int,(O.cell 0)=D.j n/\Br (n==1) (∃ s,(O.cell 1)=D.t s/\Br (ByteArray.toList s==ByteArray.toList I) (∀ b,N<=b
 -> ACalls prog 50 [.pk,.i,.str,.str,.i,.dc,.dc,.dc,.dc,.row 30 9] [.dg 9 J] b (λc d e f x g h i j k l=>b<=l->Bel l (D.ag j)
 -> w2 (j.length=j.length/\k=k) (∀ a b,l<=b->Fresh N b a [D.ag j,x,g,h,i]->uP b (Q (D.ag [D.j c,D.t d,D.t e,D.j f,x,g,
 h,i,D.sl a 9 j k]))))) (∀ a,N<=a->ACalls prog 50 [.pk,.i,.str,.str,.i,.dc,.dc,.dc,.dc,.row 30 9] [.dg 9 O] a (λb c d e f g
 h i j k l=>a<=l->Bel l (D.ag j)->∀ a,l<=a->ACalls prog 172 [.sl 0,.i] [.dg 9 O] a (λl m n o p=>a<=p->Bel p
 (D.sl l 0 m n)->∀ a,p<=a->ACalls prog 61 [.i] [.sv l 0 m n,.str I] a (λl m=>a<=m->Br (decide (o≥0)) (Br (!(decide (l
 ≥ 0))) (∃ a n,∃ p:Nat,(O.cell 8)=D.sl a 9 n p/\(0<=o/\o<(n.length:Int))/\kL 0 173 [.dg 9 (List.getD n o.toNat default)]
 m (λa m n p=>∀ q,p<=q->ACalls prog 61 [.i] [.sv a 0 m n,.str I] q (λa m=>q<=m->Br (decide (a≥0)) (kL 0
 173 [.dg 9 J] m (λa b c d=>∀ e,d<=e->ACalls prog 174 [.pk,.i,.str,.str,.i,.dc,.dc,.dc,.dc,.row 30 9] [.dg 9 O,.j o,.str
 I,.sv a 0 b c] e (λa b c d f g h i j k m=>e<=m->Bel m (D.ag j)->zF Q N I o (decide (l
 ≥ 0)) 0 J 0 b0 b0 0 0 none [] 0 0 none [] 0 none [] 0 a b c d f g h i j.length k j k m))) (zF Q N I o (decide
 (l≥0)) 0 J 0 b0 b0 0 0 none [] 0 0 none [] 0 none [] 0 b c d e f g h i j.length k j k m)))) (zF Q N I o
 (decide (l≥0)) 0 J 0 b0 b0 0 0 none [] 0 0 none [] 0 none [] 0 b c d e f g h i j.length k j k m)) (zF Q N I
 o (decide (l≥0)) 0 J 0 b0 b0 0 0 none [] 0 0 none [] 0 none [] 0 b c d e f g h i j.length k j k m)))))) (∀ a,N<=a ->
 ACalls prog 50 [.pk,.i,.str,.str,.i,.dc,.dc,.dc,.dc,.row 30 9] [.dg 9 O] a (λb c d e f g h i j k l=>a<=l ->
 Bel l (D.ag j)->∀ a,l<=a->ACalls prog 172 [.sl 0,.i] [.dg 9 O] a (λl m n o p=>a<=p->Bel p (D.sl l 0 m n)->∀
 a,p<=a->ACalls prog 61 [.i] [.sv l 0 m n,.str I] a (λl m=>a<=m->Br (decide (o≥0)) (Br (!(decide (l≥0))) (∃ a
 n,∃ p:Nat,(O.cell 8)=D.sl a 9 n p/\(0<=o/\o<(n.length:Int))/\kL 0 173 [.dg 9 (List.getD n o.toNat default)] m (fun
 a m n p=>∀ q,p<=q->ACalls prog 61 [.i] [.sv a 0 m n,.str I] q (λa m=>q<=m->Br (decide (a≥0)) (kL 0 173
 [.dg 9 J] m (λa b c d=>∀ e,d<=e->ACalls prog 174 [.pk,.i,.str,.str,.i,.dc,.dc,.dc,.dc,.row 30 9] [.dg 9 O,.j o,.str
 I,.sv a 0 b c] e (λa b c d f g h i j k m=>e<=m->Bel m (D.ag j)->zF Q N I o
 (decide (l≥0)) 0 J 0 b0 b0 0 0 none [] 0 0 none [] 0 none [] 0 a b c d f g h i j.length k j k m)))
 (zF Q N I o (decide (l≥0)) 0 J 0 b0 b0 0 0 none [] 0 0 none [] 0 none [] 0 b c d e f g h i j.length k j
 k m)))) (zF Q N I o (decide (l≥0)) 0 J 0 b0 b0 0 0 none [] 0 0 none [] 0 none [] 0 b c d e f g h i
 j.length k j k m)) (zF Q N I o (decide (l≥0)) 0 J 0 b0 b0 0 0 none [] 0 0 none [] 0 none [] 0 b c d e f g
 h i j.length k j k m)))))):ACalls prog 147 [.ag 9] [PV.dg 9 O,PV.str I,PV.dg 9 J] N Q:=
  eE s6 h
theorem sx (Q:QT [.pk,.int .i64,.str,.str,.int .i64,.dc,.dc,.dc,.dc,.row 30 9]) (N0:Nat) (U:Int) (s2:ByteArray) (a3:Option Addr) (e3:List D) (c3:Nat) (a8:Option Addr) (ai:List D) (a9:Nat) (O al:Int) (am ao:ByteArray) (aq au:Int) (aw:Option Addr) (ax:List D) (ay:Nat) (az:Int) (a0:Option Addr) (a2:List D) (a4:Nat) (a5:Option Addr) (a6:List D) (a7:Nat) (Y:Int) (aj ak:ByteArray) (aa:Int) (ab ac ae ah:D) (I J:Nat) (r2:List D) (q2:Nat) (N:Nat) (h :
Br (decide (O<(ai.length:Int))) ((0<=O/\O<(ai.length:Int))/\∃ s,List.getD ai O.toNat default=D.t s/\∀ b,N<=b->ACalls prog 61
 [.i] [.sv a3 0 e3 c3,.str s] b (λn d=>b<=d->Br (decide (n<0)) (yY Q N0 U s2 a3 e3 c3 a8 ai a9 (IntKind.i64.wrap (O+1)) al
 am ao aq au aw ax ay az a0 a2 a4 a5 a6 a7 Y aj ak aa ab ac ae ah I J r2 q2 d) ((I=r2.length/\J =
 q2)/\∀ a,ApA a r2->∀ b,d<=b->vI b [a]->ACalls prog 172 [.sl 0,.i] [.dg 9 (D.ag [D.j Y,D.t aj,D.t ak,D.j aa,ab,ac,ae,ah,
 D.sl a 9 r2 J])] b (λc d e _ f=>b<=f->Off [a] (D.sl c 0 d e)/\(Bel f (D.sl c 0 d e)->(0<=U/\U<(I:Int)/\(0+U.toNat :
 Nat)<r2.length)/\(0+U.toNat:Nat)<r2.length/\kL 0 173 [.dg 9 (List.getD r2 (0+U.toNat:Nat) default)] f (λa b c e=>∀ f,e<=f ->
 ACalls prog 184 [.row 9 0] [.sv a3 0 e3 c3,.sv a 0 b c] f (λa b c=>f<=c->Bel c (D.ag a)->(a.length=a.length/\b=b) /\
 zA a [D.t s2] 16/\∀ (b:Nat),((a++[D.t s2]).length=(a++[D.t s2]).length/\b=b)/\zA (a++[D.t s2]) d 16/\∀ (b :
 Nat),((a++[D.t s2]++d).length=(a++[D.t s2]++d).length/\b=b)/\∀ e,ApA e (a++[D.t s2]++d)->∀ f,c<=f->vI f [e]
 -> ACalls prog 185 [.str] [.sv e 0 (a++[D.t s2]++d) b] f (λa b=>f<=b->(0<=U/\U<(I:Int)/\(0+U.toNat:Nat)<r2.length)
 /\ (0+U.toNat:Nat)<r2.length/\(0<=O/\O<(ai.length:Int))/\∃ c,List.getD ai O.toNat default=D.t c/\kA 9 117 [.str a] b (λx
 b=>kA 9 147 [.dg 9 (List.getD r2 (0+U.toNat:Nat) default),.str c,.dg 9 x] b (λb c=>(0<=U/\U<(I:Int)/\(0+U.toNat:Nat) <
 r2.length)/\(0+U.toNat:Nat)<r2.length/\Br (O==0) (yY Q N0 U s2 a3 e3 c3 a8 ai a9 (IntKind.i64.wrap (O+1)) al am ao aq
 au aw ax ay az a0 a2 a4 a5 a6 a7 Y a ak aa ab ac ae ah I J (List.set r2 (0+U.toNat:Nat) b) q2 c)
 (yY Q N0 U s2 a3 e3 c3 a8 ai a9 (IntKind.i64.wrap (O+1)) al am ao aq au aw ax ay az a0 a2 a4 a5 a6 a7 Y
 aj a aa ab ac ae ah I J (List.set r2 (0+U.toNat:Nat) b) q2 c))))))))))) ((I=r2.length/\J=q2)/\uP N (Q Y aj ak
 aa ab ac ae ah r2 J))):yY Q N0 U s2 a3 e3 c3 a8 ai a9 O al am ao aq au aw ax ay az a0 a2 a4 a5 a6 a7 Y aj ak aa ab ac ae ah I J r2 q2 N:=
  hE pJ h
theorem tI (Q:QT [.ag 9]) (N0:Nat) (s1:ByteArray) (n9:Int) (a5:Bool) (I:Int) (y0:D) (aj:Int) (ak al:ByteArray) (am ao:Int) (aq:Option Addr) (au:List D) (aw:Nat) (ax:Int) (ay:Option Addr) (az:List D) (a0:Nat) (a2:Option Addr) (a3:List D) (a4:Nat) (ab:Int) (ac ae:ByteArray) (ah:Int) (O U Y aa:D) (J ai:Nat) (r3:List D) (q3:Nat) (N:Nat) (h :
Br (decide (I<(J:Int))) (Br (bne I n9) ((0<=I/\I<(J:Int)/\(0+I.toNat:Nat)<r3.length)/\(0+I.toNat:Nat)<r3.length /\
 kA 9 147 [.dg 9 (List.getD r3 (0+I.toNat:Nat) default),.str s1,.dg 9 y0] N (λx a=>(0<=I/\I<(J:Int)/\(0+I.toNat:Nat) <
 r3.length)/\(0+I.toNat:Nat)<r3.length/\zF Q N0 s1 n9 a5 (IntKind.i64.wrap (I+1)) y0 aj ak al am ao aq au aw ax
 ay az a0 a2 a3 a4 ab ac ae ah O U Y aa J ai (List.set r3 (0+I.toNat:Nat) x) q3 a)) (Br (!a5) ((0<=I/\I<(J
 : Int)/\(0+I.toNat:Nat)<r3.length)/\(0+I.toNat:Nat)<r3.length/\kA 9 147 [.dg 9 (List.getD r3 (0+I.toNat:Nat) default),.str s1,.dg 9
 y0] N (λa b=>(0<=I/\I<(J:Int)/\(0+I.toNat:Nat)<r3.length)/\(0+I.toNat:Nat)<r3.length/\zF Q N0 s1 n9 a5
 (IntKind.i64.wrap (I+1)) y0 aj ak al am ao aq au aw ax ay az a0 a2 a3 a4 ab ac ae ah O U Y aa J ai
 (List.set r3 (0+I.toNat:Nat) a) q3 b)) (zF Q N0 s1 n9 a5 (IntKind.i64.wrap (I+1)) y0 aj ak al am ao aq au aw ax
 ay az a0 a2 a3 a4 ab ac ae ah O U Y aa J ai r3 q3 N))) (w4 (J=r3.length/\ai=q3) (∀ a b,N<=b->Fresh N0 b a
 [D.ag r3,O,U,Y,aa]->uP b (Q (D.ag [D.j ab,D.t ac,D.t ae,D.j ah,O,U,Y,aa,D.sl a 9 r3 q3]))))):zF Q N0 s1 n9 a5 I y0 aj ak al am ao aq au aw ax ay az a0 a2 a3 a4 ab ac ae ah O U Y aa J ai r3 q3 N:=
  hE s6 h
end Go.Proofs.YtlahkdflngobiaaGreat
set_option maxRecDepth 100000
namespace Go.Proofs.YtlahkdflngobiaaGreat
open Go Go.Proofs Go.Proofs.Tryz
def zC1:Hint:=⟨[],[],[(8,hs 10 [ec 1 [12],ec 7 [18]])]⟩
def zA7:Hint:=⟨[hc 4 [1,2,5]],[],[(6,[en 0,en 1,en 2,en 3,en 4,en 5,en 6,ec 7 [25],ec 8 [24],en 9])]⟩
def rU:Hint:=⟨[hc 6 [1,2,4,5,6],hc 12 [1,2,4,5,9]],[],[(8,hs 7 [ec 5 [37]]),(9,hs 9 [ec 2 [41]]),(17,[en 0,en 1,en 2,en 3,en 4,en 5,en 6,en 7,eh 8,en 9,en 10,en 11,en 12,en 13])]⟩
def zJG:Hint:=⟨[],[],[(1,hs 12 [ec 5 [13]]),(4,hs 7 [ec 3 [21,23]])]⟩
def zFx:Hint:=⟨[],[],[(1,hs 4 [ec 1 [8]])]⟩
def zAg:Hint:=⟨[hc 3 [1,2,4,5]],[],[(5,hs 7 [ec 5 [20]]),(6,hs 9 [ec 2 [24]]),(10,[en 0,en 1,en 2,en 3,en 4,en 5,en 6,en 7,en 8,en 9,ec 10 [38,44],eh 11,en 12]),(12,[en 0,en 1,en 2,en 3,en 4,en 5,en 6,en 8,en 9,en 10,en 11,en 12,en 13,ec 7 [51,54],ec 14 [55,61],eh 15,en 16])]⟩
def pD:Hint:=⟨[hc 10 [1,2,4,10]],[],[(3,hs 3 [ec 1 [25]]),(4,hs 8 [ec 1 [29]]),(7,hs 8 [ec 4 [41]]),(12,[en 0,en 1,en 2,en 3,en 4,en 5,en 6,en 13,ec 7 [57],ec 8 [56],en 9,en 10,en 11,en 12,eh 14,en 15,en 16]),(14,hs 8 [ec 3 [65,67]])]⟩
def zHt:Hint:=⟨[],[],[(2,hs 3 [ec 1 [11]]),(3,hs 8 [ec 1 [15]]),(6,hs 10 [ec 7 [36]]),(8,[en 0,en 1,en 2,en 3,en 4,en 5,en 6,ec 7 [45,48],eh 8,en 9]),(10,hs 7 [ec 4 [62]])]⟩
def zFe:Hint:=⟨[],[],[(1,hs 2 [ec 1 [13]]),(5,hs 8 [ec 1 [21]]),(8,hs 8 [ec 1 [30]]),(11,hs 13 [ec 4 [42]]),(12,hs 6 [ec 2 [47,48]]),(17,hs 8 [ec 1 [57]])]⟩
def yx (Q:QT [.bool]) (N0:Nat) (I J:Int) (O:D) (N:Nat):Prop:=AT prog 101 [.bool] Q N0 .ord (zE prog 101 4) ⟨an 1 (.int .i64 I::.pb 0 0 0 0::an 2 (.int .i64 J::an 24 [])),[.vd O 9],N,none⟩
def yP (Q:QT [.ag 9,.int .i64]) (N0:Nat) (n4:Int) (m5 c5:Nat) (n6:Int) (y0:D) (I:Int) (J O:ByteArray) (U Y:Int) (aa:Option Addr) (ab:List D) (ac:Nat) (ae:Int) (ah:Option Addr) (ai:List D) (aj:Nat) (ak:Option Addr) (al:List D) (am:Nat) (r2:List D) (q2:Nat) (N:Nat):Prop:=AT prog 102 [.ag 9,.int .i64] Q N0 .ord (zE prog 102 6) ⟨an 1 (.pb 0 0 0 0::.pb 1 0 0 0::an 1 (.int .i64 n4::.sb 2 0 0 m5 c5::.int .i64 n6::an 95 [])),[.vd y0 9,.var [.int .i64 I,.str J,.str O,.int .i64 U,.int .i64 Y,.sv aa 2 ab ac,.int .i64 ae,.sv ah 2 ai aj,.sv ak 9 al am],.arr 3 0 r2 q2],N,none⟩
def wd (Q:QT [.ag 9,.int .i64]) (N0:Nat) (n5:Int) (y0:D) (I:Int) (J O:ByteArray) (U Y:Int) (aa:Option Addr) (ab:List D) (ac:Nat) (ae:Int) (ah:Option Addr) (ai:List D) (aj:Nat) (ak:Option Addr) (al:List D) (am:Nat) (y2:D) (N:Nat):Prop:=AT prog 103 [.ag 9,.int .i64] Q N0 .ord (zE prog 103 3) ⟨an 1 (.pb 0 0 0 0::.pb 1 0 0 0::an 1 (.pb 2 0 0 0::.int .i64 n5::an 58 [])),[.vd y0 9,.var [.int .i64 I,.str J,.str O,.int .i64 U,.int .i64 Y,.sv aa 2 ab ac,.int .i64 ae,.sv ah 2 ai aj,.sv ak 9 al am],.vd y2 9],N,none⟩
def yR (Q:QT [.ag 9,.int .i64,.bool]) (N0:Nat) (n1 ao:Int) (y0:D) (I:Int) (J O:ByteArray) (U Y:Int) (aa:Option Addr) (ab:List D) (ac:Nat) (ae:Int) (ah:Option Addr) (ai:List D) (aj:Nat) (ak:Option Addr) (al:List D) (am:Nat) (N:Nat):Prop:=AT prog 104 [.ag 9,.int .i64,.bool] Q N0 .ord (zE prog 104 10) ⟨an 1 (.int .i64 n1::.pb 0 0 0 0::an 1 (.pb 1 0 0 0::an 5 (.int .i64 ao::an 60 []))),[.vd y0 9,.var [.int .i64 I,.str J,.str O,.int .i64 U,.int .i64 Y,.sv aa 2 ab ac,.int .i64 ae,.sv ah 2 ai aj,.sv ak 9 al am]],N,none⟩
def yv (Q:QT [.ag 9,.int .i64]) (N0:Nat) (n4:Int) (m5 c5:Nat) (n9:Int) (y0:D) (I:Int) (J O:ByteArray) (U Y:Int) (aa:Option Addr) (ab:List D) (ac:Nat) (ae:Int) (ah:Option Addr) (ai:List D) (aj:Nat) (ak:Option Addr) (al:List D) (am:Nat) (r2:List D) (q2:Nat) (N:Nat):Prop:=AT prog 102 [.ag 9,.int .i64] Q N0 .ord (zE prog 102 12) ⟨an 1 (.pb 0 0 0 0::.pb 1 0 0 0::an 1 (.int .i64 n4::.sb 2 0 0 m5 c5::an 3 (.int .i64 n9::an 92 []))),[.vd y0 9,.var [.int .i64 I,.str J,.str O,.int .i64 U,.int .i64 Y,.sv aa 2 ab ac,.int .i64 ae,.sv ah 2 ai aj,.sv ak 9 al am],.arr 3 0 r2 q2],N,none⟩
theorem zC5 (N:Nat) (I:D) (Q:QT [.bool]) (h :
Bel N I->∃ n:Int,(I.cell 0)=D.j n/\Br (n==2) (uP N (Q true)) (Br (n==3) (uP N (Q true)) (Br (n==6) (uP N (Q true)) (Br (n==9) (uP N (Q
 true)) (Br (n==10) (kB 100 [.dg 9 I,.j 0] N (λb d=>Br b (∃ a b,∃ c:Nat,(I.cell 8)=D.sl a 9 b c/\((0:Int)<=(0:Int)/\0<(b.length :
 Int))/\kB 101 [.dg 9 (List.getD b 0 default),.j 1] d (λa b=>uP b (Q a))) (uP d (Q false)))) (uP N (Q false))))))):ACalls prog 65 [.bool] [PV.dg 9 I] N Q:=
  eE zC1 h
theorem zHR (N:Nat) (I:D) (J:Int) (Q:QT [.bool]) (h :
Bel N I->∃ n:Int,(I.cell 0)=D.j n/\Br (n==11) (Br (J==1) (uP N (Q false)) (yx Q N J 0 I N)) (yx Q N J 0 I N)):ACalls prog 101 [.bool] [PV.dg 9 I,PV.int .i64 J] N Q:=
 eE zA7 h
theorem zI5 (N:Nat) (I:D) (Q:QT [.ag 9,.int .i64]) (h :
Bel N I->∃ s,(I.cell 1)=D.t s/\Br (ByteArray.toList s==ByteArray.toList (bytes [38])) (yP Q N 3 2 2 0 I 0 b0 b0 0 0 none [] 0 0 none
 [] 0 none [] 0 [D.j 0,D.j 0] 2 N) (∃ a,(I.cell 1)=D.t a/\Br (ByteArray.toList a==ByteArray.toList (bytes [124])) (yP Q N 3 2 2 0 I 0
 b0 b0 0 0 none [] 0 0 none [] 0 none [] 0 [D.j 0,D.j 0] 2 N) (∃ a,(I.cell 1)=D.t a/\Br (ByteArray.toList a==ByteArray.toList (bytes [33]))
 (yP Q N 3 2 2 0 I 0 b0 b0 0 0 none [] 0 0 none [] 0 none [] 0 [D.j 0,D.j 0] 2 N) (yP Q N 2 2 2 0 I 0 b0 b0 0 0 none [] 0 0 none [] 0
 none [] 0 [D.j 0,D.j 0] 2 N)))):ACalls prog 102 [.ag 9,.int .i64] [PV.dg 9 I] N Q:=
  eE rU h
theorem zJ5 (N:Nat) (I:D) (J:Int) (Q:QT [.ag 9,.int .i64]) (h :
Bel N I->∃ a b,∃ c:Nat,(I.cell 8)=D.sl a 9 b c/\(0<=J/\J<(b.length:Int))/\∀ a,N<=a->ACalls prog 66 [.ag 9,.i] [.dg 9 (List.getD
 b J.toNat default)] a (λx n b=>a<=b->Bel b x->Br (n==0) (uP b (Q I n)) (kA 9 105 [.dg 9 I,.j J,.dg 9 x] b (λa b=>uP b (Q a
 n))))):ACalls prog 146 [.ag 9,.int .i64] [PV.dg 9 I,PV.int .i64 J] N Q:=
  eE zJG h
theorem zFr (N:Nat) (O:D) (I:Int) (J:D) (Q:QT [.ag 9]) (h :
Bel N O->Bel N J->∀ b,N<=b->ACalls prog 50 [.pk,.i,.str,.str,.i,.dc,.dc,.dc,.dc,.row 30 9] [.dg 9 O] b (λn s c d x e f g
 h i j=>b<=j->Bel j (D.ag h)->(0<=I/\I<(h.length:Int)/\(0+I.toNat:Nat)<h.length)/\(0+I.toNat:Nat)<h.length/\w5 (h.length
 = (List.set h (0+I.toNat:Nat) J).length/\i=i) (∀ a b,j<=b->Fresh N b a [D.ag (List.set h (0+I.toNat:Nat) J),x,e,f,g]->∀ j,
 b<=j->Q (D.ag [D.j n,D.t s,D.t c,D.j d,x,e,f,g,D.sl a 9 (List.set h (0+I.toNat:Nat) J) i]) j))):ACalls prog 105 [.ag 9] [PV.dg 9 O,PV.int .i64 I,PV.dg 9 J] N Q:=
  eE zFx h
theorem zHn (N:Nat) (I:D) (Q:QT [.ag 9,.int .i64]) (h :
Bel N I->∃ a b,∃ c:Nat,(I.cell 8)=D.sl a 9 b c/\((0:Int)<=(0:Int)/\0<(b.length:Int))/\wd Q N 0 I 0 b0 b0 0 0 none []
 0 0 none [] 0 none [] 0 (List.getD b 0 default) N):ACalls prog 103 [.ag 9,.int .i64] [PV.dg 9 I] N Q:=
  eE zAg h
theorem zFW (N:Nat) (x0:D) (n1:Int) (Q:QT [.ag 9,.int .i64,.bool]) (h :
Bel N x0->∃ n:Int,(x0.cell 0)=D.j n/\Br (n==11) (Br (n1==1) (∃ a d,∃ c:Nat,(x0.cell 8)=D.sl a 9 d c/\((0:Int)<=(0:Int)/\0 <
 (d.length:Int))/\kB 65 [.dg 9 (List.getD d 0 default)] N (fun b a=>Br (!b) (∀ b,a<=b->ACalls prog 146 [.ag 9,.i] [.dg 9 x0,.j 0] b (fun x a
 c=>b<=c->Bel c x->uP c (Q x a true))) (∃ b:Int,D.cell (List.getD d 0 default) 0=D.j b/\Br (b==10) (∃ b c,∃ e:Nat,D.cell
 (List.getD d 0 default) 8=D.sl b 9 c e/\((0:Int)<=(0:Int)/\0<(c.length:Int))/\∀ b,a<=b->ACalls prog 50 [.pk,.i,.str,.str,.i,
 .dc,.dc,.dc,.dc,.row 30 9] [.dg 9 (List.getD c 0 default)] b (fun a s c d e f g h i j k=>b<=k->Bel k (D.ag i)->w2
 (i.length=i.length/\j=j) (∀ b l,k<=l->Fresh N l b [D.ag i,e,f,g,h]->uP l (Q (D.ag [D.j a,D.t s,D.t c,D.j d,
 e,f,g,h,D.sl b 9 i j]) 6 true)))) (uP a (Q x0 0 true))))) (yR Q N n1 0 x0 0 b0 b0 0 0 none [] 0 0 none [] 0 none [] 0 N))
 (yR Q N n1 0 x0 0 b0 b0 0 0 none [] 0 0 none [] 0 none [] 0 N)):ACalls prog 104 [.ag 9,.int .i64,.bool] [PV.dg 9 x0,PV.int .i64 n1] N Q:=
  eE pD h
theorem zHy (N:Nat) (I:D) (Q:QT [.ag 9,.int .i64]) (h :
Bel N I->∃ a d,∃ c:Nat,(I.cell 8)=D.sl a 9 d c/\((0:Int)<=(0:Int)/\0<(d.length:Int))/\kB 65 [.dg 9 (List.getD d 0 default)] N (fun
 b a=>Br (!b) (∀ b,a<=b->ACalls prog 146 [.ag 9,.i] [.dg 9 I,.j 0] b (λx n a=>b<=a->Bel a x->uP a (Q x n))) (∃ b:Int,(I.cell 0) =
 D.j b/\Br (b==5) (∃ b:Int,D.cell (List.getD d 0 default) 0=D.j b/\Br (b==3) (∃ b c,∃ e:Nat,(I.cell 8)=D.sl b 9 c e /\
 ∃ b:Int,D.cell (List.getD d 0 default) 3=D.j b/\(0<=IntKind.i64.wrap (2 - b)/\IntKind.i64.wrap (2 - b)<(c.length:Int))/\∀ d,a<=d ->
 ACalls prog 50 [.pk,.i,.str,.str,.i,.dc,.dc,.dc,.dc,.row 30 9] [.dg 9 (List.getD c (IntKind.i64.wrap (2 - b)).toNat default)] d (λa s b
 c e f g h i j k=>d<=k->Bel k (D.ag i)->w2 (i.length=i.length/\j=j) (∀ d l,k<=l->Fresh N l d [D.ag i,
 e,f,g,h]->uP l (Q (D.ag [D.j a,D.t s,D.t b,D.j c,e,f,g,h,D.sl d 9 i j]) 2)))) (∃ b:Int,(I.cell 0)=D.j b/\Br
 (b==8) (∃ b c,∃ e:Nat,(I.cell 8)=D.sl b 9 c e/\((0:Int)<=(1:Int)/\1<(c.length:Int))/\∃ b,(I.cell 1)=D.t b/\kA 9
 147 [.dg 9 (List.getD c 1 default),.str b,.dg 9 (List.getD d 0 default)] a (λa b=>uP b (Q a 5))) (∃ b:Int,(I.cell 0)=D.j b/\Br
 (b==12) (∃ b:Int,D.cell (List.getD d 0 default) 0=D.j b/\Br (b==10) (∃ b c,∃ e:Nat,D.cell (List.getD d 0 default) 8=D.sl b 9
 c e/\((0:Int)<=(0:Int)/\0<(c.length:Int))/\∀ b,a<=b->ACalls prog 50 [.pk,.i,.str,.str,.i,.dc,.dc,.dc,.dc,.row 30 9] [.dg 9
 (List.getD c 0 default)] b (λa c d e f g h i j k l=>b<=l->Bel l (D.ag j)->w2 (j.length=j.length/\k =
 k) (∀ b m,l<=m->Fresh N m b [D.ag j,f,g,h,i]->uP m (Q (D.ag [D.j a,D.t c,D.t d,D.j e,f,g,h,i,D.sl
 b 9 j k]) 7)))) (∃ b:Int,(I.cell 0)=D.j b/\Br (b==13) (∃ b:Int,D.cell (List.getD d 0 default) 0=D.j b/\Br (b==2) ((1
 = ([List.getD d 0 default]).length/\1=1)/\∀ b,ApA b [List.getD d 0 default]->∀ c,a<=c->vI c [b]->ACalls prog 45 [.ag 9] [.j 10,.sv
 b 9 [List.getD d 0 default] 1] c (λa d=>c<=d->Off [b] a/\(Bel d a->uP d (Q a 8)))) (∃ b:Int,D.cell (List.getD d 0
 default) 0=D.j b/\Br (b==3) ((1=([List.getD d 0 default]).length/\1=1)/\∀ b,ApA b [List.getD d 0 default]->∀ c,a<=c->vI c
 [b]->ACalls prog 45 [.ag 9] [.j 10,.sv b 9 [List.getD d 0 default] 1] c (λa d=>c<=d->Off [b] a/\(Bel d a->uP d (Q a
 8)))) (uP a (Q I 0)))) (uP a (Q I 0)))) (∃ b:Int,(I.cell 0)=D.j b/\Br (b==13) (∃ b:Int,D.cell (List.getD d 0 default) 0=D.j b
 /\ Br (b==2) ((1=([List.getD d 0 default]).length/\1=1)/\∀ b,ApA b [List.getD d 0 default]->∀ c,a<=c->vI c [b]->ACalls prog 45
 [.ag 9] [.j 10,.sv b 9 [List.getD d 0 default] 1] c (λa d=>c<=d->Off [b] a/\(Bel d a->uP d (Q a 8)))) (∃ b:Int,
 D.cell (List.getD d 0 default) 0=D.j b/\Br (b==3) ((1=([List.getD d 0 default]).length/\1=1)/\∀ b,ApA b [List.getD d 0 default]->∀
 c,a<=c->vI c [b]->ACalls prog 45 [.ag 9] [.j 10,.sv b 9 [List.getD d 0 default] 1] c (λa d=>c<=d->Off [b] a/\(Bel d
 a->uP d (Q a 8)))) (uP a (Q I 0)))) (uP a (Q I 0)))))) (∃ b:Int,(I.cell 0)=D.j b/\Br (b==8) (∃ b c,∃ e:Nat,(I.cell
 8)=D.sl b 9 c e/\((0:Int)<=(1:Int)/\1<(c.length:Int))/\∃ b,(I.cell 1)=D.t b/\kA 9 147 [.dg 9 (List.getD c 1 default),.str
 b,.dg 9 (List.getD d 0 default)] a (λa b=>uP b (Q a 5))) (∃ b:Int,(I.cell 0)=D.j b/\Br (b==12) (∃ b:Int,D.cell
 (List.getD d 0 default) 0=D.j b/\Br (b==10) (∃ b c,∃ e:Nat,D.cell (List.getD d 0 default) 8=D.sl b 9 c e/\((0:Int)<=(0 :
 Int)/\0<(c.length:Int))/\∀ b,a<=b->ACalls prog 50 [.pk,.i,.str,.str,.i,.dc,.dc,.dc,.dc,.row 30 9] [.dg 9 (List.getD c 0 default)]
 b (λa c d e f g h i j k l=>b<=l->Bel l (D.ag j)->w2 (j.length=j.length/\k=k) (∀ b m,l <=
 m->Fresh N m b [D.ag j,f,g,h,i]->uP m (Q (D.ag [D.j a,D.t c,D.t d,D.j e,f,g,h,i,D.sl b 9 j
 k]) 7)))) (∃ b:Int,(I.cell 0)=D.j b/\Br (b==13) (∃ b:Int,D.cell (List.getD d 0 default) 0=D.j b/\Br (b==2) ((1 =
 ([List.getD d 0 default]).length/\1=1)/\∀ b,ApA b [List.getD d 0 default]->∀ c,a<=c->vI c [b]->ACalls prog 45 [.ag 9] [.j 10,.sv
 b 9 [List.getD d 0 default] 1] c (λa d=>c<=d->Off [b] a/\(Bel d a->uP d (Q a 8)))) (∃ b:Int,D.cell (List.getD d 0
 default) 0=D.j b/\Br (b==3) ((1=([List.getD d 0 default]).length/\1=1)/\∀ b,ApA b [List.getD d 0 default]->∀ c,a<=c->vI c
 [b]->ACalls prog 45 [.ag 9] [.j 10,.sv b 9 [List.getD d 0 default] 1] c (λa d=>c<=d->Off [b] a/\(Bel d a->uP d (Q a
 8)))) (uP a (Q I 0)))) (uP a (Q I 0)))) (∃ b:Int,(I.cell 0)=D.j b/\Br (b==13) (∃ b:Int,D.cell (List.getD d 0 default) 0=D.j b
 /\ Br (b==2) ((1=([List.getD d 0 default]).length/\1=1)/\∀ b,ApA b [List.getD d 0 default]->∀ c,a<=c->vI c [b]->ACalls prog
 45 [.ag 9] [.j 10,.sv b 9 [List.getD d 0 default] 1] c (λa d=>c<=d->Off [b] a/\(Bel d a->uP d (Q a 8)))) (∃ b:Int,
 D.cell (List.getD d 0 default) 0=D.j b/\Br (b==3) ((1=([List.getD d 0 default]).length/\1=1)/\∀ b,ApA b [List.getD d 0 default]->∀
 c,a<=c->vI c [b]->ACalls prog 45 [.ag 9] [.j 10,.sv b 9 [List.getD d 0 default] 1] c (λa d=>c<=d->Off [b] a/\(Bel
 d a->uP d (Q a 8)))) (uP a (Q I 0)))) (uP a (Q I 0)))))))):ACalls prog 106 [.ag 9,.int .i64] [PV.dg 9 I] N Q:=
  eE zHt h
theorem zF9 (N:Nat) (I:D) (Q:QT [.ag 9,.int .i64]) (h :
Bel N I->kB 65 [.dg 9 I] N (λb d=>Br b (uP d (Q I 0)) (∃ n:Int,(I.cell 0)=D.j n/\Br (n==4) (∀ a,d<=a->ACalls prog 102 [.ag 9,.i]
 [.dg 9 I] a (λx b c=>a<=c->Bel c x->uP c (Q x b))) (Br (n==7) (∀ a,d<=a->ACalls prog 103 [.ag 9,.i] [.dg 9 I] a (λb c d=>
 a<=d->Bel d b->uP d (Q b c))) (Br (n==10) (∃ a b,∃ c:Nat,(I.cell 8)=D.sl a 9 b c/\((0:Int)<=(0:Int)/\0<(b.length:Int))/\∀
 a,d<=a->ACalls prog 104 [.ag 9,.i,.bool] [.dg 9 (List.getD b 0 default),.j 1] a (λb c _ d=>a<=d->Bel d b->kA 9 105 [.dg 9
 I,.j 0,.dg 9 b] d (λa b=>uP b (Q a c)))) (Br (n==5) (∀ a,d<=a->ACalls prog 106 [.ag 9,.i] [.dg 9 I] a (λb c d=>
 a<=d->Bel d b->uP d (Q b c))) (Br (n==8) (∀ a,d<=a->ACalls prog 106 [.ag 9,.i] [.dg 9 I] a (λb c d=>a<=d->Bel
 d b->uP d (Q b c))) (Br (n==12) (∀ a,d<=a->ACalls prog 106 [.ag 9,.i] [.dg 9 I] a (λb c d=>a<=d->Bel d b->uP d
 (Q b c))) (Br (n==13) (∀ a,d<=a->ACalls prog 106 [.ag 9,.i] [.dg 9 I] a (λb c d=>a<=d->Bel d b->uP d (Q b c))) (uP
 d (Q I 0))))))))))):ACalls prog 66 [.ag 9,.int .i64] [PV.dg 9 I] N Q:=
  eE zFe h
theorem rT (Q:QT [.bool]) (N0:Nat) (O I:Int) (J:D) (N:Nat) (h :
∃ a d,∃ c:Nat,(J.cell 8)=D.sl a 9 d c/\Br (decide (I<(d.length:Int))) (∃ a c,∃ d:Nat,(J.cell 8)=D.sl a 9 c d/\(0<=I
 /\ I<(c.length:Int))/\kI 145 [.dg 9 J,.j O] N (λn a=>kB 101 [.dg 9 (List.getD c I.toNat default),.j n] a (λb a=>Br (!b) (uP a (Q
 false)) (yx Q N0 O (IntKind.i64.wrap (I+1)) J a)))) (uP N (Q true))):yx Q N0 O I J N:=
  hE zA7 h
theorem pC (Q:QT [.ag 9,.int .i64]) (N0:Nat) (n4:Int) (m5 c5:Nat) (n6:Int) (y0:D) (I:Int) (J O:ByteArray) (U Y:Int) (aa:Option Addr) (ab:List D) (ac:Nat) (ae:Int) (ah:Option Addr) (ai:List D) (aj:Nat) (ak:Option Addr) (al:List D) (am:Nat) (r2:List D) (q2:Nat) (N:Nat) (h :
∃ a d,∃ c:Nat,(y0.cell 8)=D.sl a 9 d c/\Br (decide (n6<(d.length:Int))) (∃ a c,∃ d:Nat,(y0.cell 8)=D.sl a 9 c d/\(0<=n6
 /\ n6<(c.length:Int))/\kB 65 [.dg 9 (List.getD c n6.toNat default)] N (λb a=>Br (!b) (∀ b,a<=b->ACalls prog 146 [.ag 9,.i] [.dg 9 y0,.j
 n6] b (λx n a=>b<=a->Bel a x->uP a (Q x n))) (yP Q N0 n4 m5 c5 (IntKind.i64.wrap (n6+1)) y0 I J O U Y aa ab ac
 ae ah ai aj ak al am r2 q2 a))) (yv Q N0 n4 m5 c5 0 y0 I J O U Y aa ab ac ae ah ai aj ak al am r2
 q2 N)):yP Q N0 n4 m5 c5 n6 y0 I J O U Y aa ab ac ae ah ai aj ak al am r2 q2 N:=
  hE rU h
theorem qF (Q:QT [.ag 9,.int .i64]) (N0:Nat) (n5:Int) (y0:D) (J:Int) (O U:ByteArray) (Y aa:Int) (ab:Option Addr) (ac:List D) (ae:Nat) (ah:Int) (ai:Option Addr) (aj:List D) (ak:Nat) (al:Option Addr) (am:List D) (ao:Nat) (I:D) (N:Nat) (h :
Br (decide (n5<2)) (∃ a d,∃ c:Nat,(y0.cell 8)=D.sl a 9 d c/\(0<=n5/\n5<(d.length:Int))/\kB 65 [.dg 9 (List.getD d n5.toNat default)] N
 (λb a=>Br (!b) (∀ b,a<=b->ACalls prog 146 [.ag 9,.i] [.dg 9 y0,.j n5] b (λx n a=>b<=a->Bel a x->uP a (Q x n))) (wd Q N0
 (IntKind.i64.wrap (n5+1)) y0 J O U Y aa ab ac ae ah ai aj ak al am ao I a))) (∃ a:Int,(I.cell 0)=D.j a/\Br (a
 == 6) (∃ a b,∃ c:Nat,(I.cell 8)=D.sl a 9 b c/\((0:Int)<=(0:Int)/\0<(b.length:Int))/\∃ s,(I.cell 1)=D.t s/\∃ a c,∃
 d:Nat,(y0.cell 8)=D.sl a 9 c d/\((0:Int)<=(1:Int)/\1<(c.length:Int))/\kA 9 147 [.dg 9 (List.getD b 0 default),.str s,.dg 9
 (List.getD c 1 default)] N (λa b=>uP b (Q a 3))) (Br (a==9) (∃ a b,∃ c:Nat,(I.cell 8)=D.sl a 9 b c/\((0:Int)<=(0 :
 Int)/\0<(b.length:Int))/\∃ a,(I.cell 1)=D.t a/\∃ c,(I.cell 2)=D.t c/\∃ d e,∃ f:Nat,(y0.cell 8)=D.sl d 9 e f/\((0
 : Int)<=(1:Int)/\1<(e.length:Int))/\kA 9 147 [.dg 9 (List.getD b 0 default),.str a,.dg 9 I] N (λa b=>kA 9 147 [.dg 9 a,.str c,
 .dg 9 (List.getD e 1 default)] b (λa b=>uP b (Q a 4)))) (uP N (Q y0 0))))):wd Q N0 n5 y0 J O U Y aa ab ac ae ah ai aj ak al am ao I N:=
  hE zAg h
theorem tw (Q:QT [.ag 9,.int .i64,.bool]) (N0:Nat) (n1 I:Int) (y0:D) (J:Int) (O U:ByteArray) (Y aa:Int) (ab:Option Addr) (ac:List D) (ae:Nat) (ah:Int) (ai:Option Addr) (aj:List D) (ak:Nat) (al:Option Addr) (am:List D) (ao:Nat) (N:Nat) (h :
∃ a d,∃ c:Nat,(y0.cell 8)=D.sl a 9 d c/\Br (decide (I<(d.length:Int))) (∃ a c,∃ d:Nat,(y0.cell 8)=D.sl a 9 c d/\(0 <=
 I/\I<(c.length:Int))/\kI 145 [.dg 9 y0,.j n1] N (λn a=>∀ d,a<=d->ACalls prog 104 [.ag 9,.i,.bool] [.dg 9 (List.getD c I.toNat
 default),.j n] d (λx a b c=>d<=c->Bel c x->Br b (kA 9 105 [.dg 9 y0,.j I,.dg 9 x] c (λb c=>uP c (Q b a true)))
 (yR Q N0 n1 (IntKind.i64.wrap (I+1)) y0 J O U Y aa ab ac ae ah ai aj ak al am ao c)))) (uP N (Q y0 0
 false))):yR Q N0 n1 I y0 J O U Y aa ab ac ae ah ai aj ak al am ao N:=
  hE pD h
theorem qD (Q:QT [.ag 9,.int .i64]) (N0:Nat) (n4:Int) (m5 c5:Nat) (n9:Int) (y0:D) (n1_0:Int) (s1_1 s1_2:ByteArray) (n1_3 n1_4:Int) (a1_5:Option Addr) (e1_5:List D) (c1_5:Nat) (n1_6:Int) (a1_7:Option Addr) (e1_7:List D) (c1_7:Nat) (a1_8:Option Addr) (e1_8:List D) (c1_8:Nat) (r2:List D) (q2:Nat) (N:Nat) (h :
∃ a d,∃ c:Nat,(y0.cell 8)=D.sl a 9 d c/\Br (decide (n9<(d.length:Int))) (∃ a b,∃ c:Nat,(y0.cell 8)=D.sl a 9 b c/\(0<=n9
 /\ n9<(b.length:Int))/\∃ n:Int,(if 0=0 then D.cell (List.getD b n9.toNat default) 0 else D.sub (List.getD b n9.toNat default) 0 0)=D.j n /\
 Br (bne n n4) (uP N (Q y0 0)) (∃ a b,∃ c:Nat,(y0.cell 8)=D.sl a 9 b c/\(0<=n9/\n9<(b.length:Int))/\∃ a:Int,(if 0=0 then
 D.cell (List.getD b n9.toNat default) 3 else D.sub (List.getD b n9.toNat default) 3 0)=D.j a/\(0<=n9/\n9<(m5:Int)/\(0+n9.toNat:Nat) <
 r2.length)/\(0+n9.toNat:Nat)<r2.length/\yv Q N0 n4 m5 c5 (IntKind.i64.wrap (n9+1)) y0 n1_0 s1_1 s1_2 n1_3 n1_4 a1_5 e1_5 c1_5 n1_6 a1_7
 e1_7 c1_7 a1_8 e1_8 c1_8 (List.set r2 (0+n9.toNat:Nat) (D.j a)) q2 N)) (∃ s,(y0.cell 1)=D.t s/\((0:Int)<=(0:Int)/\0<(m5:Int)/\0 <
 r2.length)/\0<r2.length/\∃ a:Int,List.getD r2 0 default=D.j a/\((0:Int)<=(1:Int)/\1<(m5:Int)/\1<r2.length)/\1<r2.length/\∃ c :
 Int,List.getD r2 1 default=D.j c/\kIB 78 [.str s,.j a,.j c] N (fun a _ b=>∃ c,(y0.cell 1)=D.t c/\Br (ByteArray.toList c ==
 ByteArray.toList (bytes [43])) (kA 9 95 [.j a] b (fun x a=>uP a (Q x 1))) (∃ c,(y0.cell 1)=D.t c/\Br (ByteArray.toList c==ByteArray.toList
 (bytes [45])) (kA 9 95 [.j a] b (fun a b=>uP b (Q a 1))) (∃ c,(y0.cell 1)=D.t c/\Br (ByteArray.toList c==ByteArray.toList (bytes [42]))
 (kA 9 95 [.j a] b (fun a b=>uP b (Q a 1))) (kA 9 94 [.j a] b (fun a b=>uP b (Q a 1)))))))):yv Q N0 n4 m5 c5 n9 y0 n1_0 s1_1 s1_2 n1_3 n1_4 a1_5 e1_5 c1_5 n1_6 a1_7 e1_7 c1_7 a1_8 e1_8 c1_8 r2 q2 N:=
  hE rU h
end Go.Proofs.YtlahkdflngobiaaGreat
