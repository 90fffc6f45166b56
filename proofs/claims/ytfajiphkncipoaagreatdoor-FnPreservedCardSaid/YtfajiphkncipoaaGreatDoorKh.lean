/- Printed by gen.py: what the functions come to. -/
import Derived.Test.YtfajiphkncipoaaGreatDoorJh
set_option linter.unusedVariables false
set_option maxRecDepth 100000
namespace Go.Proofs.YtfajiphkncipoaaGreatDoor
open Go Go.Proofs Go.Proofs.Tryz
def pG:Hint:=⟨[hc 5 [1,2,4,5,15,16,17]],[],[(11,[en 0,en 1,en 2,en 3,en 4,en 5,en 6,en 7,eh 8,en 9,en 10,en 11,en 12,en 13])]⟩
def zJo:Hint:=⟨[],[],[(6,hs 8 [ec 1 [25]]),(11,hs 10 [ec 7 [42]]),(15,[en 0,en 1,en 2,en 3,en 4,en 5,en 6,en 7,en 8,en 9,ec 10 [53,59],eh 11,en 12]),(17,[en 0,en 1,en 2,en 3,en 4,en 5,en 6,en 8,en 9,en 10,en 11,en 12,en 13,ec 7 [66,69],ec 14 [70,76],eh 15,en 16]),(19,[en 0,en 1,en 2,en 3,en 4,en 5,en 6,ec 7 [83,86],eh 8,en 9]),(21,hs 8 [ec 1 [91]]),(25,hs 8 [ec 1 [100]])]⟩
def zBF:Hint:=⟨[hc 11 [1,2,3,6,54,55,56]],[],[(3,hs 3 [ec 1 [31]]),(4,hs 9 [ec 2 [36]]),(5,hs 8 [ec 3 [40]]),(6,hs 8 [ec 1 [46]]),(13,[en 0,en 1,en 2,en 4,en 10,ec 3 [63],ec 5 [62],en 6,en 7,en 8,en 9,eh 11,en 12,en 13]),(15,hs 4 [ec 1 [72]])]⟩
def zDg:Hint:=⟨[hc 7 [1,2,32,33]],[],[(1,hs 2 [ec 1 [11]]),(4,hs 13 [ec 4 [21]]),(5,hs 7 [ec 3 [26]]),(6,hs 3 [ec 1 [31]]),(9,hs 6 [ec 5 [40]]),(10,hs 12 [ec 5 [47]]),(11,hs 4 [ec 1 [51]]),(15,hs 6 [ec 1 [61]])]⟩
def zKz:Hint:=⟨[],[],[(1,hs 3 [ec 1 [6]]),(2,hs 4 [ec 1 [9]]),(3,hs 8 [ec 1 [12]]),(5,hs 4 [ec 1 [18]]),(6,hs 5 [ec 1 [20]])]⟩
def zE7:Hint:=⟨[],[],[(1,hs 8 [ec 5 [8]]),(3,hs 7 [ec 4 [16]])]⟩
def zHY:Hint:=⟨[],[],[(1,hs 13 [ec 10 [13]]),(3,hs 6 [ec 1 [18],ec 2 [19],ec 3 [20]])]⟩
def zDW:Hint:=⟨[],[],[(6,hs 3 [ec 1 [10]]),(8,hs 10 [ec 1 [14],ec 7 [20]])]⟩
def zA5:Hint:=⟨[],[],[(1,hs 9 [ec 2 [5],ec 6 [9]])]⟩
def pR:Hint:=⟨[hc 4 [1,2,3,15,16,17]],[],[(1,hs 5 [ec 3 [10]]),(6,[en 0,en 1,en 2,en 4,ec 3 [22],ec 5 [21],en 6])]⟩
def yX (Q:QT [.ag 9,.bool]) (N0:Nat) (n4:Int) (m5 c5:Nat) (ao:Option Addr) (aq:List D) (au:Nat) (aw ax:Int) (y0:D) (I:Int) (J O:ByteArray) (U Y:Int) (aa:Option Addr) (ab:List D) (ac:Nat) (ae:Int) (ah:Option Addr) (ai:List D) (aj:Nat) (ak:Option Addr) (al:List D) (am:Nat) (r2:List D) (q2:Nat) (N:Nat):Prop:=AT prog 104 [.ag 9,.bool] Q N0 .ord (zE prog 104 5) ⟨an 1 (.pb 0 0 0 0::.pb 1 0 0 0::an 1 (.int .i64 n4::.sb 2 0 0 m5 c5::an 9 (.sv ao 9 aq au::.int .i64 aw::.int .i64 ax::an 33 []))),[.vd y0 9,.var [.int .i64 I,.str J,.str O,.int .i64 U,.int .i64 Y,.sv aa 2 ab ac,.int .i64 ae,.sv ah 2 ai aj,.sv ak 9 al am],.arr 3 0 r2 q2],N,none⟩
def uG (Q:QT [.ag 9,.int .i64]) (N0:Nat) (ao aq:Int) (y0:D) (I:Int) (J O:ByteArray) (U Y:Int) (aa:Option Addr) (ab:List D) (ac:Nat) (ae:Int) (ah:Option Addr) (ai:List D) (aj:Nat) (ak:Option Addr) (al:List D) (am:Nat) (N:Nat):Prop:=AT prog 34 [.ag 9,.int .i64] Q N0 .ord (zE prog 34 7) ⟨an 1 (.pb 0 0 0 0::.pb 1 0 0 0::an 29 (.int .i64 ao::.int .i64 aq::an 31 [])),[.vd y0 9,.var [.int .i64 I,.str J,.str O,.int .i64 U,.int .i64 Y,.sv aa 2 ab ac,.int .i64 ae,.sv ah 2 ai aj,.sv ak 9 al am]],N,none⟩
def yV (Q:QT [.ag 9,.int .i64,.bool]) (N0:Nat) (n1:Int) (ao:Option Addr) (aq:List D) (au:Nat) (aw ax:Int) (y0:D) (I:Int) (J O:ByteArray) (U Y:Int) (aa:Option Addr) (ab:List D) (ac:Nat) (ae:Int) (ah:Option Addr) (ai:List D) (aj:Nat) (ak:Option Addr) (al:List D) (am:Nat) (N:Nat):Prop:=AT prog 63 [.ag 9,.int .i64,.bool] Q N0 .ord (zE prog 63 11) ⟨an 1 (.int .i64 n1::.fn 34 []::.pb 0 0 0 0::an 2 (.pb 1 0 0 0::an 47 (.sv ao 9 aq au::.int .i64 aw::.int .i64 ax::an 26 []))),[.vd y0 9,.var [.int .i64 I,.str J,.str O,.int .i64 U,.int .i64 Y,.sv aa 2 ab ac,.int .i64 ae,.sv ah 2 ai aj,.sv ak 9 al am]],N,none⟩
def xz (Q:QT [.bool]) (N0:Nat) (n1:Int) (I:Option Addr) (J:List D) (O:Nat) (U Y:Int) (y0:D) (N:Nat):Prop:=AT prog 59 [.bool] Q N0 .ord (zE prog 59 4) ⟨an 1 (.int .i64 n1::.fn 140 []::.pb 0 0 0 0::an 11 (.sv I 9 J O::.int .i64 U::.int .i64 Y::an 11 [])),[.vd y0 9],N,none⟩
theorem zES (N:Nat) (s0:ByteArray) (Q:QT [.bool]) (h :
Br (ByteArray.toList s0==ByteArray.toList (bytes [38])) (uP N (Q true)) (Br (ByteArray.toList s0==ByteArray.toList (bytes [124])) (uP N (Q true)) (uP N
 (Q (ByteArray.toList s0==ByteArray.toList (bytes [33])))))):ACalls prog 141 [.bool] [PV.str s0] N Q:=
  eE H0 h
theorem zCv (N:Nat) (s0:ByteArray) (Q:QT [.bool]) (h :
kB 141 [.str s0] N (fun b a=>Br b (uP a (Q true)) (Br (ByteArray.toList s0==ByteArray.toList (bytes [61])) (uP a (Q true)) (uP a (Q
 (ByteArray.toList s0==ByteArray.toList (bytes [60]))))))):ACalls prog 144 [.bool] [PV.str s0] N Q:=
  eE H0 h
theorem zFP (N:Nat) (I:D) (Q:QT [.ag 9,.bool]) (h :
Bel N I->∃ s,(I.cell 1)=D.t s/\kB 141 [.str s] N (λb d=>Br b (∃ a b,∃ c:Nat,(I.cell 8)=D.sl a 9 b c/\yX Q N 3 2 2 a b
 c (b.length:Int) 0 I 0 b0 b0 0 0 none [] 0 0 none [] 0 none [] 0 [D.j 0,D.j 0] 2 d) (∃ a b,∃ c:Nat,(I.cell 8)=D.sl a 9 b c /\
 yX Q N 2 2 2 a b c (b.length:Int) 0 I 0 b0 b0 0 0 none [] 0 0 none [] 0 none [] 0 [D.j 0,D.j 0] 2 d))):ACalls prog 104 [.ag 9,.bool] [PV.dg 9 I] N Q:=
  eE pG h
theorem zIY (N:Nat) (n0:Int) (Q:QT [.ag 9]) (h :
∀ a,N<=a->Q (D.ag [D.j 2,D.t b0,D.t b0,D.j n0,D.j 0,D.sl none 2 [] 0,D.j 0,D.sl none 2 [] 0,D.sl none 9 [] 0]) a):ACalls prog 171 [.ag 9] [PV.int .i64 n0] N Q:=
  eE H0 h
theorem zFC (N:Nat) (n0:Int) (b1:Bool) (Q:QT [.ag 9]) (h :
Br b1 (∀ a,N<=a->Q (D.ag [D.j 3,D.t b0,D.t b0,D.j n0,D.j 0,D.sl none 2 [] 0,D.j 0,D.sl none 2 [] 0,D.sl none 9 [] 0]) a) (kA 9 171 [.j n0] N
 (fun x a=>uP a (Q x)))):ACalls prog 143 [.ag 9] [PV.int .i64 n0,PV.bool b1] N Q:=
  eE H0 h
theorem zFE (N:Nat) (s0:ByteArray) (n1 n2:Int) (Q:QT [.int .i64,.bool]) (h :
kB 166 [.j n1] N (fun b a=>Br (!b) (uP a (Q 0 false)) (kB 166 [.j n2] a (fun a b=>Br (!a) (uP b (Q 0 false)) (Br (ByteArray.toList s0 ==
 ByteArray.toList (bytes [43])) (kI 169 [.j (IntKind.i64.wrap (n1+n2))] b (fun n a=>uP a (Q n true))) (Br (ByteArray.toList s0==ByteArray.toList (bytes
 [45])) (kI 169 [.j (IntKind.i64.wrap (n1 - n2))] b (fun a b=>uP b (Q a true))) (Br (ByteArray.toList s0==ByteArray.toList (bytes [42])) (kI 169 [.j
 (IntKind.i64.wrap (n1*n2))] b (fun a b=>uP b (Q a true))) (Br (ByteArray.toList s0==ByteArray.toList (bytes [61])) (kI 170 [.bool (n1==n2)] b
 (fun a b=>uP b (Q a true))) (Br (ByteArray.toList s0==ByteArray.toList (bytes [60])) (kI 170 [.bool (decide (n1<n2))] b (fun a b=>uP b (Q
 a true))) (Br (ByteArray.toList s0==ByteArray.toList (bytes [38])) (Br (n1==1) (kI 170 [.bool (n2==1)] b (fun a b=>uP b (Q a true))) (kI 170
 [.bool false] b (fun a b=>uP b (Q a true)))) (Br (ByteArray.toList s0==ByteArray.toList (bytes [124])) (Br (n1==1) (kI 170 [.bool true] b (fun
 a b=>uP b (Q a true))) (kI 170 [.bool (n2==1)] b (fun a b=>uP b (Q a true)))) (Br (ByteArray.toList s0==ByteArray.toList (bytes [33]))
 (kI 170 [.bool (n1==0)] b (fun a b=>uP b (Q a true))) (uP b (Q 0 false)))))))))))))):ACalls prog 142 [.int .i64,.bool] [PV.str s0,PV.int .i64 n1,PV.int .i64 n2] N Q:=
  eE H0 h
theorem zHB (N:Nat) (n0:Int) (Q:QT [.int .i64]) (h :
(10007:Int)≠(0:Int)/\(10007:Int)≠(0:Int)/\∀ a,N<=a->Q (Int.tmod (IntKind.i64.wrap (Int.tmod n0 10007+10007)) 10007) a):ACalls prog 169 [.int .i64] [PV.int .i64 n0] N Q:=
 eE H0 h
theorem zMs (N:Nat) (b0:Bool) (Q:QT [.int .i64]) (h :
Br b0 (uP N (Q 1)) (uP N (Q 0))):ACalls prog 170 [.int .i64] [PV.bool b0] N Q:=
 eE H0 h
theorem zJR (N:Nat) (I:D) (Q:QT [.ag 9,.int .i64]) (h :
Bel N I->∃ a d,∃ c:Nat,(I.cell 8)=D.sl a 9 d c/\Br (decide ((d.length:Int)>0)) (∃ a c,∃ d:Nat,(I.cell 8)=D.sl a 9 c d
 /\ ((0:Int)<=(0:Int)/\0<(c.length:Int))/\∃ n:Int,(I.cell 0)=D.j n/\Br (n==4) (kAB 9 104 [.dg 9 I] N (λx b a=>Br b (uP a (Q x 1))
 (uP a (Q I 0)))) (Br (n==5) (∃ a:Int,D.cell (List.getD c 0 default) 0=D.j a/\Br (a==3) (∃ a b,∃ d:Nat,(I.cell 8)=D.sl a 9
 b d/\∃ a:Int,D.cell (List.getD c 0 default) 3=D.j a/\(0<=IntKind.i64.wrap (2 - a)/\IntKind.i64.wrap (2 - a)<(b.length:Int))/\∀
 c,N<=c->ACalls prog 33 [.pk,.i,.str,.str,.i,.dc,.dc,.dc,.dc,.row 29 9] [.dg 9 (List.getD b (IntKind.i64.wrap (2 - a)).toNat default)] c (fun
 a s b d e f g h i j k=>c<=k->Bel k (D.ag i)->w2 (i.length=i.length/\j=j) (∀ c l,k<=l->Fresh N l c [D.ag
 i,e,f,g,h]->uP l (Q (D.ag [D.j a,D.t s,D.t b,D.j d,e,f,g,h,D.sl c 9 i j]) 2)))) (uP N (Q I 0))) (Br (n==7) (∃
 a:Int,D.cell (List.getD c 0 default) 0=D.j a/\Br (a==6) (∃ a b,∃ d:Nat,D.cell (List.getD c 0 default) 8=D.sl a 9 b d /\
 ((0:Int)<=(0:Int)/\0<(b.length:Int))/\∃ a,D.cell (List.getD c 0 default) 1=D.t a/\∃ c d,∃ e:Nat,(I.cell 8)=D.sl c 9
 d e/\((0:Int)<=(1:Int)/\1<(d.length:Int))/\kA 9 105 [.dg 9 (List.getD b 0 default),.str a,.dg 9 (List.getD d 1 default)] N (fun
 a b=>uP b (Q a 3))) (Br (a==9) (∃ a b,∃ d:Nat,D.cell (List.getD c 0 default) 8=D.sl a 9 b d/\((0:Int)<=(0:Int)/\0 <
 (b.length:Int))/\∃ a,D.cell (List.getD c 0 default) 1=D.t a/\∃ d,D.cell (List.getD c 0 default) 2=D.t d/\∃ e f,∃ g:Nat,
 (I.cell 8)=D.sl e 9 f g/\((0:Int)<=(1:Int)/\1<(f.length:Int))/\kA 9 105 [.dg 9 (List.getD b 0 default),.str a,.dg 9 (List.getD
 c 0 default)] N (λa b=>kA 9 105 [.dg 9 a,.str d,.dg 9 (List.getD f 1 default)] b (λa b=>uP b (Q a 4)))) (uP N (Q I 0))))
 (Br (n==8) (∃ a b,∃ d:Nat,(I.cell 8)=D.sl a 9 b d/\((0:Int)<=(1:Int)/\1<(b.length:Int))/\∃ a,(I.cell 1)=D.t a/\kA
 9 105 [.dg 9 (List.getD b 1 default),.str a,.dg 9 (List.getD c 0 default)] N (λa b=>uP b (Q a 5))) (Br (n==12) (kAB 9 102 [.dg 9
 (List.getD c 0 default)] N (λa b c=>Br b (uP c (Q a 7)) (uP c (Q I 0)))) (Br (n==13) (kAB 9 106 [.dg 9 (List.getD c 0 default)] N
 (λa b c=>Br b (uP c (Q a 8)) (uP c (Q I 0)))) (uP N (Q I 0)))))))) (∃ a:Int,(I.cell 0)=D.j a/\Br (a==4) (kAB 9 104 [.dg 9
 I] N (λa b c=>Br b (uP c (Q a 1)) (uP c (Q I 0)))) (Br (a==5) (uP N (Q I 0)) (Br (a==7) (uP N (Q I 0)) (Br (a==8) (∃ a
 b,∃ c:Nat,(I.cell 8)=D.sl a 9 b c/\((0:Int)<=(1:Int)/\1<(b.length:Int))/\∃ a,(I.cell 1)=D.t a/\kA 9 105 [.dg 9
 (List.getD b 1 default),.str a,.dg 9 (D.ag [D.j 0,D.t b0,D.t b0,D.j 0,D.j 0,D.sl none 2 [] 0,D.j 0,D.sl none 2 [] 0,D.sl none 9 [] 0])] N (fun
 a b=>uP b (Q a 5))) (Br (a==12) (kAB 9 102 [.dg 9 (D.ag [D.j 0,D.t b0,D.t b0,D.j 0,D.j 0,D.sl none 2 [] 0,D.j 0,D.sl none 2 [] 0,D.sl
 none 9 [] 0])] N (λa b c=>Br b (uP c (Q a 7)) (uP c (Q I 0)))) (Br (a==13) (kAB 9 106 [.dg 9 (D.ag [D.j 0,D.t b0,D.t b0,D.j 0,D.j
 0,D.sl none 2 [] 0,D.j 0,D.sl none 2 [] 0,D.sl none 9 [] 0])] N (λa b c=>Br b (uP c (Q a 8)) (uP c (Q I 0)))) (uP N (Q I 0))))))))):ACalls prog 66 [.ag 9,.int .i64] [PV.dg 9 I] N Q:=
  eE zJo h
theorem zD7 (N:Nat) (I:D) (Q:QT [.int .i64]) (h :
Bel N I->∃ n:Int,(I.cell 0)=D.j n/\Br (n==4) (∃ a b,∃ c:Nat,(I.cell 8)=D.sl a 9 b c/\uP N (Q (b.length:Int))) (Br (n==7) (∃ a
 b,∃ c:Nat,(I.cell 8)=D.sl a 9 b c/\uP N (Q (b.length:Int))) (Br (n==5) (uP N (Q 1)) (Br (n==8) (uP N (Q 1)) (Br (n==12) (uP N (Q
 1)) (Br (n==13) (uP N (Q 1)) (uP N (Q 0)))))))):ACalls prog 65 [.int .i64] [PV.dg 9 I] N Q:=
  eE H0 h
theorem zKF (N:Nat) (I:D) (Q:QT [.ag 9,.int .i64]) (h :
Bel N I->kB 62 [.dg 9 I] N (λb d=>Br b (uP d (Q I 0)) (∃ n:Int,(I.cell 0)=D.j n/\Br (n==10) (∃ a b,∃ c:Nat,(I.cell 8)=D.sl a 9
 b c/\((0:Int)<=(0:Int)/\0<(b.length:Int))/\∀ a,d<=a->ACalls prog 63 [.ag 9,.i,.bool] [.dg 9 (List.getD b 0 default),.j 1,.fn 34 []] a
 (λx b _ c=>a<=c->Bel c x->(1=([x]).length/\1=1)/\∀ a,ApA a [x]->Off [a] I->∀ d,c<=d->wU d [a]->ACalls prog 64 [.pk,
 .i,.str,.str,.i,.dc,.dc,.dc,.dc,Sh.bk 1] [.dg 9 I,.sv a 9 [x] 1] d (λc s e f g h i j k l=>d<=l->k=D.sl a 9 [x] 1 /\
 Off [a] g/\Off [a] h/\Off [a] i/\Off [a] j/\w3 (1=([x]).length/\1=1) (∀ a d,l<=d->Fresh N d a [D.ag [x],g,h,i,j]
 -> uP d (Q (D.ag [D.j c,D.t s,D.t e,D.j f,g,h,i,j,D.sl a 9 [x] 1]) b))))) (kI 65 [.dg 9 I] d (λa b=>uG Q N a 0
 I 0 b0 b0 0 0 none [] 0 0 none [] 0 none [] 0 b))))):ACalls prog 34 [.ag 9,.int .i64] [PV.dg 9 I] N Q:=
  eE zDg h
theorem zKH (N:Nat) (x0:D) (Q:QT [.ag 9,.int .i64]) (h :
Bel N x0->kB 32 [.dg 9 x0,.j 0] N (fun b d=>Br (!b) (∀ b,d<=b->ACalls prog 33 [.pk,.i,.str,.str,.i,.dc,.dc,.dc,.dc,.row 29 9] [.dg 9
 x0] b (fun n s c d x e f g h i j=>b<=j->Bel j (D.ag h)->w2 (h.length=h.length/\i=i) (∀ a b,j<=b->Fresh N b a [D.ag h,x,
 e,f,g]->uP b (Q (D.ag [D.j n,D.t s,D.t c,D.j d,x,e,f,g,D.sl a 9 h i]) 0)))) (∀ a,d<=a->ACalls prog 34 [.ag 9,.i] [.dg 9 x0]
 a (fun b c d=>a<=d->Bel d b->Br (c==0) (∀ a,d<=a->ACalls prog 33 [.pk,.i,.str,.str,.i,.dc,.dc,.dc,.dc,.row 29 9] [.dg 9 x0]
 a (fun b c d e f g h i j k l=>a<=l->Bel l (D.ag j)->w2 (j.length=j.length/\k=k) (∀ a m,l<=m ->
 Fresh N m a [D.ag j,f,g,h,i]->uP m (Q (D.ag [D.j b,D.t c,D.t d,D.j e,f,g,h,i,D.sl a 9 j k]) 0)))) (∀ a,
 d<=a->ACalls prog 33 [.pk,.i,.str,.str,.i,.dc,.dc,.dc,.dc,.row 29 9] [.dg 9 b] a (fun b d e f g h i j k l m=>a <=
 m->Bel m (D.ag k)->w2 (k.length=k.length/\l=l) (∀ a n,m<=n->Fresh N n a [D.ag k,g,h,i,j]->uP n (Q
 (D.ag [D.j b,D.t d,D.t e,D.j f,g,h,i,j,D.sl a 9 k l]) c)))))))):ACalls prog 9 [.ag 9,.int .i64] [PV.dg 9 x0] N Q:=
  eE zKz h
theorem zEc (N:Nat) (x0:D) (Q:QT [.ag 9,.bool]) (h :
Bel N x0->∃ n:Int,(x0.cell 0)=D.j n/\Br (bne n 10) (∀ a,N<=a->Q (D.ag [D.j 0,D.t b0,D.t b0,D.j 0,D.j 0,D.sl none 2 [] 0,D.j 0,D.sl none
 2 [] 0,D.sl none 9 [] 0]) false a) (kB 62 [.dg 9 x0] N (fun b d=>Br (!b) (∀ a,d<=a->Q (D.ag [D.j 0,D.t b0,D.t b0,D.j 0,D.j 0,D.sl none 2 [] 0,
 D.j 0,D.sl none 2 [] 0,D.sl none 9 [] 0]) false a) (∃ a b,∃ c:Nat,(x0.cell 8)=D.sl a 9 b c/\((0:Int)<=(0:Int)/\0<(b.length:Int))/\∀ a,
 d<=a->ACalls prog 33 [.pk,.i,.str,.str,.i,.dc,.dc,.dc,.dc,.row 29 9] [.dg 9 (List.getD b 0 default)] a (fun b s c d x e f g h i
 j=>a<=j->Bel j (D.ag h)->w2 (h.length=h.length/\i=i) (∀ a k,j<=k->Fresh N k a [D.ag h,x,e,f,g]->uP k (Q
 (D.ag [D.j b,D.t s,D.t c,D.j d,x,e,f,g,D.sl a 9 h i]) true))))))):ACalls prog 102 [.ag 9,.bool] [PV.dg 9 x0] N Q:=
  eE zE7 h
theorem zH1 (N:Nat) (I:D) (Q:QT [.ag 9,.bool]) (h :
Bel N I->∃ n:Int,(I.cell 0)=D.j n/\Br (bne n 2) (∃ d:Int,(I.cell 0)=D.j d/\Br (bne d 3) (∀ a,N<=a->Q (D.ag [D.j 0,D.t b0,D.t
 b0,D.j 0,D.j 0,D.sl none 2 [] 0,D.j 0,D.sl none 2 [] 0,D.sl none 9 [] 0]) false a) (kB 58 [.dg 9 I] N (λb d=>Br (!b) (∀ a,d<=a->Q (D.ag [D.j
 0,D.t b0,D.t b0,D.j 0,D.j 0,D.sl none 2 [] 0,D.j 0,D.sl none 2 [] 0,D.sl none 9 [] 0]) false a) (∀ b,d<=b->ACalls prog 33 [.pk,.i,.str,.str,
 .i,.dc,.dc,.dc,.dc,.row 29 9] [.dg 9 I] b (λc s d e x f g h i j k=>b<=k->Bel k (D.ag i)->(i.length=i.length/\j=j)/\∀ a
 b,k<=b->Fresh N b a [D.ag i]->(1=([D.ag [D.j c,D.t s,D.t d,D.j e,x,f,g,h,D.sl a 9 i j]]).length/\1=1)/\∀ k l,b<=l ->
 Fresh N l k [D.ag [D.ag [D.j c,D.t s,D.t d,D.j e,x,f,g,h,D.sl a 9 i j]]]->kA 9 150 [.j 10,.sv k 9 [D.ag [D.j c,D.t s,D.t d,
 D.j e,x,f,g,h,D.sl a 9 i j]] 1] l (λa b=>uP b (Q a true))))))) (kB 58 [.dg 9 I] N (λa b=>Br (!a) (∀ a,b<=a->Q
 (D.ag [D.j 0,D.t b0,D.t b0,D.j 0,D.j 0,D.sl none 2 [] 0,D.j 0,D.sl none 2 [] 0,D.sl none 9 [] 0]) false a) (∀ a,b<=a->ACalls prog 33 [.pk,
 .i,.str,.str,.i,.dc,.dc,.dc,.dc,.row 29 9] [.dg 9 I] a (λb c d e f g h i j k l=>a<=l->Bel l (D.ag j) ->
 (j.length=j.length/\k=k)/\∀ a m,l<=m->Fresh N m a [D.ag j]->(1=([D.ag [D.j b,D.t c,D.t d,D.j e,f,g,h,
 i,D.sl a 9 j k]]).length/\1=1)/\∀ l n,m<=n->Fresh N n l [D.ag [D.ag [D.j b,D.t c,D.t d,D.j e,f,g,h,i,D.sl
 a 9 j k]]]->kA 9 150 [.j 10,.sv l 9 [D.ag [D.j b,D.t c,D.t d,D.j e,f,g,h,i,D.sl a 9 j k]] 1] n (λa b=>uP
 b (Q a true))))))):ACalls prog 106 [.ag 9,.bool] [PV.dg 9 I] N Q:=
  eE zHY h
theorem zEf (N:Nat) (x0:D) (Q:QT [.bool]) (h :
Bel N x0->∃ n:Int,(x0.cell 0)=D.j n/\Br (n==2) (kB 58 [.dg 9 x0] N (fun b a=>uP a (Q b))) (Br (n==3) (kB 58 [.dg 9 x0] N (fun a b=>uP
 b (Q a))) (Br (n==6) (kB 58 [.dg 9 x0] N (fun a b=>uP b (Q a))) (Br (n==9) (kB 58 [.dg 9 x0] N (fun a b=>uP b (Q a))) (Br (n==10) (kB
 58 [.dg 9 x0] N (fun b d=>Br b (∃ a b,∃ c:Nat,(x0.cell 8)=D.sl a 9 b c/\((0:Int)<=(0:Int)/\0<(b.length:Int))/\kB 101 [.dg 9
 (List.getD b 0 default),.j 1] d (fun a b=>uP b (Q a))) (uP d (Q false)))) (uP N (Q false))))))):ACalls prog 62 [.bool] [PV.dg 9 x0] N Q:=
  eE zDW h
theorem zAA (N:Nat) (I:D) (n1:Int) (Q:QT [.bool]) (h :
Bel N I->kB 32 [.dg 9 I,.j n1] N (λb a=>Br b (kB 59 [.dg 9 I,.j n1,.fn 140 []] a (λa b=>uP b (Q a))) (uP a (Q false)))):ACalls prog 101 [.bool] [PV.dg 9 I,PV.int .i64 n1] N Q:=
 eE zA5 h
theorem qp (N:Nat) (I:D) (n1:Int) (Q:QT [.bool]) (h :
Bel N I->∃ n:Int,(I.cell 0)=D.j n/\Br (bne n 11) (uP N (Q true)) (uP N (Q (bne n1 1)))):ACalls prog 140 [.bool] [PV.dg 9 I,PV.int .i64 n1] N Q:=
 eE H0 h
theorem sq (Q:QT [.ag 9,.bool]) (N0:Nat) (n4:Int) (m5 c5:Nat) (ax:Option Addr) (J:List D) (ay:Nat) (aw I:Int) (y0:D) (U:Int) (Y aa:ByteArray) (ab ac:Int) (ae:Option Addr) (ah:List D) (ai:Nat) (aj:Int) (ak:Option Addr) (al:List D) (am:Nat) (ao:Option Addr) (aq:List D) (au:Nat) (O:List D) (q2:Nat) (N:Nat) (h :
Br (decide (I<aw)) ((0<=I/\I<(J.length:Int))/\∃ n:Int,D.cell (List.getD J I.toNat default) 0=D.j n/\Br (bne n n4) (∀ a,N<=a
 -> Q (D.ag [D.j 0,D.t b0,D.t b0,D.j 0,D.j 0,D.sl none 2 [] 0,D.j 0,D.sl none 2 [] 0,D.sl none 9 [] 0]) false a) (∃ a:Int,D.cell (List.getD J
 I.toNat default) 3=D.j a/\(0<=I/\I<(m5:Int)/\(0+I.toNat:Nat)<O.length)/\(0+I.toNat:Nat)<O.length/\yX Q N0 n4
 m5 c5 ax J ay aw (IntKind.i64.wrap (I+1)) y0 U Y aa ab ac ae ah ai aj ak al am ao aq au (List.set O (0+I.toNat :
 Nat) (D.j a)) q2 N)) (∃ s,(y0.cell 1)=D.t s/\((0:Int)<=(0:Int)/\0<(m5:Int)/\0<O.length)/\0<O.length/\∃ a:Int,List.getD O 0
 default=D.j a/\((0:Int)<=(1:Int)/\1<(m5:Int)/\1<O.length)/\1<O.length/\∃ c:Int,List.getD O 1 default=D.j c/\kIB 142 [.str s,
 .j a,.j c] N (λa b c=>∃ d,(y0.cell 1)=D.t d/\kB 144 [.str d] c (λc d=>kA 9 143 [.j a,.bool c] d (λx a=>uP a (Q x
 b)))))):yX Q N0 n4 m5 c5 ax J ay aw I y0 U Y aa ab ac ae ah ai aj ak al am ao aq au O q2 N:=
  hE pG h
theorem zC0 (N:Nat) (I:D) (n1:Int) (Q:QT [.ag 9,.int .i64,.bool]) (h :
Bel N I->∃ n:Int,(I.cell 0)=D.j n/\Br (n==11) (Br (n1==1) (∃ a d,∃ c:Nat,(I.cell 8)=D.sl a 9 d c/\((0:Int)<=(0:Int)/\0 <
 (d.length:Int))/\kB 62 [.dg 9 (List.getD d 0 default)] N (λb a=>Br (!b) (∀ b,a<=b->ACalls prog 34 [.ag 9,.i] [.dg 9 (List.getD d 0 default)]
 b (λx a c=>b<=c->Bel c x->(1=([x]).length/\1=1)/\∀ b,ApA b [x]->Off [b] I->∀ d,c<=d->wU d [b]->ACalls prog 64 [.pk,
 .i,.str,.str,.i,.dc,.dc,.dc,.dc,Sh.bk 1] [.dg 9 I,.sv b 9 [x] 1] d (λc s e f g h i j k l=>d<=l->k=D.sl b 9 [x] 1 /\
 Off [b] g/\Off [b] h/\Off [b] i/\Off [b] j/\w3 (1=([x]).length/\1=1) (∀ b d,l<=d->Fresh N d b [D.ag [x],g,h,i,j]
 -> uP d (Q (D.ag [D.j c,D.t s,D.t e,D.j f,g,h,i,j,D.sl b 9 [x] 1]) a true))))) (kAB 9 102 [.dg 9 (List.getD d 0 default)] a (λa
 b c=>Br b (uP c (Q a 6 true)) (uP c (Q I 0 true)))))) (∃ a b,∃ c:Nat,(I.cell 8)=D.sl a 9 b c/\yV Q N n1 a
 b c (b.length:Int) 0 I 0 b0 b0 0 0 none [] 0 0 none [] 0 none [] 0 N)) (∃ a b,∃ c:Nat,(I.cell 8)=D.sl a 9 b c/\yV
 Q N n1 a b c (b.length:Int) 0 I 0 b0 b0 0 0 none [] 0 0 none [] 0 none [] 0 N)):ACalls prog 63 [.ag 9,.int .i64,.bool] [.dg 9 I,.int .i64 n1,.fn 34 []] N Q:=
  eE zBF h
theorem zAB (Q:QT [.ag 9,.int .i64]) (N0:Nat) (aq I:Int) (y0:D) (J:Int) (O U:ByteArray) (Y aa:Int) (ab:Option Addr) (ac:List D) (ae:Nat) (ah:Int) (ai:Option Addr) (aj:List D) (ak:Nat) (al:Option Addr) (am:List D) (ao:Nat) (N:Nat) (h :
Br (decide (I<aq)) (∃ a d,∃ c:Nat,(y0.cell 8)=D.sl a 9 d c/\(0<=I/\I<(d.length:Int))/\kB 62 [.dg 9 (List.getD d I.toNat
 default)] N (λb a=>Br b (uG Q N0 aq (IntKind.i64.wrap (I+1)) y0 J O U Y aa ab ac ae ah ai aj ak al am ao
 a) (∃ b c,∃ d:Nat,(y0.cell 8)=D.sl b 9 c d/\(0<=I/\I<(c.length:Int))/\∀ b,a<=b->ACalls prog 34 [.ag 9,.i] [.dg 9
 (List.getD c I.toNat default)] b (λx n a=>b<=a->Bel a x->∀ b,a<=b->ACalls prog 33 [.pk,.i,.str,.str,.i,.dc,.dc,.dc,.dc,.row 29
 9] [.dg 9 y0] b (λa s c d e f g h i j k=>b<=k->Bel k (D.ag i)->(0<=I/\I<(i.length:Int)/\(0+I.toNat:Nat) <
 i.length)/\(0+I.toNat:Nat)<i.length/\w5 (i.length=(List.set i (0+I.toNat:Nat) x).length/\j=j) (∀ b l,k<=l->Fresh N0
 l b [D.ag (List.set i (0+I.toNat:Nat) x),e,f,g,h]->∀ k,l<=k->Q (D.ag [D.j a,D.t s,D.t c,D.j d,e,f,g,h,D.sl
 b 9 (List.set i (0+I.toNat:Nat) x) j]) n k)))))) (∀ a,N<=a->ACalls prog 66 [.ag 9,.i] [.dg 9 y0] a (λb c d=>a<=d->Bel d
 b->uP d (Q b c))) ):uG Q N0 aq I y0 J O U Y aa ab ac ae ah ai aj ak al am ao N:=
  hE zDg h
theorem zBb (N:Nat) (I:D) (n1:Int) (Q:QT [.bool]) (h :
Bel N I->kB 140 [.dg 9 I,.j n1] N (λb d=>Br (!b) (uP d (Q false)) (∃ a b,∃ c:Nat,(I.cell 8)=D.sl a 9 b c/\xz Q N n1 a b
 c (b.length:Int) 0 I d))):ACalls prog 59 [.bool] [.dg 9 I,.int .i64 n1,.fn 140 []] N Q:=
  eE pR h
theorem sc (Q:QT [.ag 9,.int .i64,.bool]) (N0:Nat) (n1:Int) (aw:Option Addr) (J:List D) (ax:Nat) (au I:Int) (y0:D) (O:Int) (U Y:ByteArray) (aa ab:Int) (ac:Option Addr) (ae:List D) (ah:Nat) (ai:Int) (aj:Option Addr) (ak:List D) (al:Nat) (am:Option Addr) (ao:List D) (aq:Nat) (N:Nat) (h :
Br (decide (I<au)) ((0<=I/\I<(J.length:Int))/\kI 100 [.dg 9 y0,.j n1] N (λn d=>∀ e,d<=e->ACalls prog 63 [.ag 9,.i,.bool]
 [.dg 9 (List.getD J I.toNat default),.j n,.fn 34 []] e (λx b d f=>e<=f->Bel f x->Br d (∀ d,f<=d->ACalls prog 33 [.pk,.i,.str,.str,
 .i,.dc,.dc,.dc,.dc,.row 29 9] [.dg 9 y0] d (λc s e f g h i j k l m=>d<=m->Bel m (D.ag k)->(0<=I/\I<(k.length:Int) /\
 (0+I.toNat:Nat)<k.length)/\(0+I.toNat:Nat)<k.length/\w5 (k.length=(List.set k (0+I.toNat:Nat) x).length/\l=l) (∀ a d,m<=d
 -> Fresh N0 d a [D.ag (List.set k (0+I.toNat:Nat) x),g,h,i,j]->∀ m,d<=m->Q (D.ag [D.j c,D.t s,D.t e,D.j f,g,h,i,
 j,D.sl a 9 (List.set k (0+I.toNat:Nat) x) l]) b true m))) (yV Q N0 n1 aw J ax au (IntKind.i64.wrap (I+1)) y0 O U Y
 aa ab ac ae ah ai aj ak al am ao aq f)))) (uP N (Q y0 0 false))):yV Q N0 n1 aw J ax au I y0 O U Y aa ab ac ae ah ai aj ak al am ao aq N:=
  hE zBF h
theorem rC (Q:QT [.bool]) (N0:Nat) (n1:Int) (U:Option Addr) (J:List D) (Y:Nat) (O I:Int) (y0:D) (N:Nat) (h :
Br (decide (I<O)) ((0<=I/\I<(J.length:Int))/\kI 100 [.dg 9 y0,.j n1] N (λn a=>kB 59 [.dg 9 (List.getD J I.toNat default),.j
 n,.fn 140 []] a (λb a=>Br (!b) (uP a (Q false)) (xz Q N0 n1 U J Y O (IntKind.i64.wrap (I+1)) y0 a)))) (uP N (Q true))):xz Q N0 n1 U J Y O I y0 N:=
  hE pR h
end Go.Proofs.YtfajiphkncipoaaGreatDoor
set_option maxRecDepth 100000
namespace Go.Proofs.YtfajiphkncipoaaGreatDoor
open Go Go.Proofs Go.Proofs.Tryz
end Go.Proofs.YtfajiphkncipoaaGreatDoor
