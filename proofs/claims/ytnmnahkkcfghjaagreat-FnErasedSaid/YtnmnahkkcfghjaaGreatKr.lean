/- Printed by gen.py: what the functions come to. -/
import Derived.Test.YtnmnahkkcfghjaaGreatJh
set_option linter.unusedVariables false
set_option maxRecDepth 100000
namespace Go.Proofs.YtnmnahkkcfghjaaGreat
open Go Go.Proofs Go.Proofs.Tryz
def t7:Hint:=⟨[hc 4 [2,3,5]],[],[(1,hs 51 [ec 31 [34,36],ec 39 [42,44]]),(6,[en 0,en 1,en 2,en 3,en 4,en 5,en 6,en 7,en 8,en 9,ec 10 [68,73],en 11])]⟩
def tV:Hint:=⟨[hc 6 [0,3,4,5] [(3,57,4)]],[hc 11 [0,3,4]],[]⟩
def tB:Hint:=⟨[hc 11 [3,5,7,8,9] [(7,57,4)]],[],[(13,[en 0,en 1,en 2,en 3,en 4,en 5,en 7,eh 6,eh 8,en 9,en 10,eh 11,eh 12]),(15,hs 11 [ec 6 [53]])]⟩
def r7:Hint:=⟨[hc 4 [0,1,5]],[],[(6,[en 0,en 1,en 2,en 3,en 4,en 5,en 6,en 7,en 8,en 9,en 10,en 11,en 12,en 13,en 14,en 15,en 16,en 17,en 18,en 19,en 20,en 21,en 22,en 23,en 24,en 25,en 26,en 27,en 28,en 29,en 30,en 31,en 32,en 33,en 34,ec 35 [46,51],en 36,en 37])]⟩
def zCD:Hint:=⟨[],[],[(1,hs 2 [ec 1 [17]]),(3,hs 4 [ec 1 [19]]),(4,hs 4 [ec 1 [21]]),(5,hs 3 [ec 1 [23]]),(6,[en 0,en 1,ec 2 [26],ec 3 [25,27],en 4,en 5,en 6,en 8,ec 7 [31],ec 9 [33],ec 10 [32,34],en 11,en 12,en 13,en 14,en 16,ec 15 [39],ec 17 [41],en 18,en 19,en 20,en 21,en 23,ec 22 [46],ec 24 [48],en 25,en 26]),(8,hs 10 [ec 1 [53]]),(9,hs 10 [ec 3 [59,60]]),(10,[en 0,en 2,en 8,ec 1 [66],ec 3 [68],ec 4 [67,69],en 5,en 6,en 7,eh 9,en 10]),(11,[en 0,en 1,en 2,en 3,en 4,en 5,en 6,ec 7 [79],ec 8 [78,80],en 9,en 10,en 11]),(13,hs 4 [ec 1 [85]]),(14,hs 4 [ec 1 [87]]),(15,hs 9 [ec 2 [90,91]]),(16,hs 26 [ec 15 [109],ec 23 [115,117]])]⟩
def y9 (Q:QT [.bool]) (N0:Nat) (I:Int) (J O:D) (N:Nat):Prop:=AT prog 8 [.bool] Q N0 .ord (zE prog 8 4) ⟨an 2 (.pb 0 0 0 0::.pb 1 0 0 0::an 1 (.int .i64 I::an 70 [])),[.vd J 9,.vd O 9],N,none⟩
def yT (Q:QT [.sl 4,.ag 9,.int .i64]) (N0:Nat) (m7 c7:Nat) (n8 n9 I:Int) (J O:ByteArray) (U Y:Int) (aa:Option Addr) (ab:List D) (ac:Nat) (ae:Int) (ah:Option Addr) (ai:List D) (aj:Nat) (ak:Option Addr) (al:List D) (am:Nat) (ao:Option Addr) (aq:List D) (au:Nat) (aw ax:Int) (r2:List D) (q2:Nat) (N:Nat):Prop:=AT prog 17 [.sl 4,.ag 9,.int .i64] Q N0 .ord (zE prog 17 11) ⟨an 3 (.pb 0 0 0 0::an 1 (.pb 1 0 0 0::an 1 (.sb 2 4 0 m7 c7::.int .i64 n8::.int .i64 n9::an 49 []))),[.var [.int .i64 I,.str J,.str O,.int .i64 U,.int .i64 Y,.sv aa 2 ab ac,.int .i64 ae,.sv ah 2 ai aj,.sv ak 9 al am],.var [.sv ao 0 aq au,.int .i64 aw,.int .i64 ax],.arr 57 4 r2 q2],N,none⟩
def xg (Q:QT [.bool]) (N0:Nat) (a0:Option Addr) (e0:List D) (c0:Nat) (a1:Option Addr) (e1:List D) (c1:Nat) (I:Int) (N:Nat):Prop:=AT prog 10 [.bool] Q N0 .ord (zE prog 10 4) ⟨.sv a0 4 e0 c0::.sv a1 4 e1 c1::an 3 (.int .i64 I::an 49 []),[],N,none⟩
def xK (E:Env) (Q:QT [.sl 4,.sl 0,.i,.i]) (N0:Nat) (m3 c3:Nat) (n4 n5:Int) (I:Option Addr) (J:List D) (O:Nat) (U Y:Int) (r1:List D) (q1:Nat) (N:Nat):Prop:=AT prog 30 [.sl 4,.sl 0,.i,.i] Q N0 (.io E [.var [.sv none 0 [] 0,.int .i64 0,.int .i64 0]]) (zE prog 30 6) ⟨.pb 0 0 0 0::an 2 (.sb 1 4 0 m3 c3::.int .i64 n4::.int .i64 n5::an 43 []),[.var [.sv I 0 J O,.int .i64 U,.int .i64 Y],.arr 57 4 r1 q1],N,some (yi E 0 [.var [.sv none 0 [] 0,.int .i64 0,.int .i64 0]],[])⟩
def yj (E:Env) (Q:QT [.sl 4,.sl 0,.i,.i]) (N0:Nat) (m3 c3:Nat) (n4:Int) (I:Option Addr) (J:List D) (O:Nat) (U Y:Int) (r1:List D) (q1:Nat) (N:Nat):Prop:=AT prog 30 [.sl 4,.sl 0,.i,.i] Q N0 (.io E [.var [.sv none 0 [] 0,.int .i64 0,.int .i64 0]]) (rt prog 30 11) ⟨.pb 0 0 0 0::an 2 (.sb 1 4 0 m3 c3::.int .i64 n4::an 44 []),[.var [.sv I 0 J O,.int .i64 U,.int .i64 Y],.arr 57 4 r1 q1],N,some (yi E 0 [.var [.sv none 0 [] 0,.int .i64 0,.int .i64 0]],[])⟩
theorem zBf (N:Nat) (I J:D) (Q:QT [.bool]) (h :
Bel N I->Bel N J->∃ n:Int,(I.cell 0)=D.j n/\∃ d:Int,(J.cell 0)=D.j d/\Br (bne n d) (uP N (Q false)) (∃ s,(I.cell 1)=D.t s/\∃
 d,(J.cell 1)=D.t d/\Br (!(ByteArray.toList s==ByteArray.toList d)) (uP N (Q false)) (∃ d,(I.cell 2)=D.t d/\∃ e,(J.cell 2)=D.t e /\
 Br (!(ByteArray.toList d==ByteArray.toList e)) (uP N (Q false)) (∃ d:Int,(I.cell 3)=D.j d/\∃ e:Int,(J.cell 3)=D.j e/\Br (bne d
 e) (uP N (Q false)) (kB 19 [.dg 2 (D.sub I 4 2),.dg 2 (D.sub J 4 2)] N (λb d=>Br (!b) (uP d (Q false)) (kB 19 [.dg 2 (D.sub I 6 2),.dg 2 (D.sub J
 6 2)] d (λb d=>Br (!b) (uP d (Q false)) (∃ a b,∃ c:Nat,(I.cell 8)=D.sl a 9 b c/\∃ a c,∃ e:Nat,(J.cell 8)=D.sl a 9 c e
 /\ Br (bne (b.length:Int) (c.length:Int)) (uP d (Q false)) (y9 Q N 0 I J d)))))))))):ACalls prog 8 [.bool] [PV.dg 9 I,PV.dg 9 J] N Q:=
  eE t7 h
theorem zAg (N:Nat) (a0:Option Addr) (e0:List D) (c0:Nat) (Q:QT [.sl 4,.ag 9,.int .i64]) (h :
Bel N (D.sl a0 0 e0 c0)->∀ b,N<=b->ACalls prog 23 [.cu] [.sv a0 0 e0 c0] b (λa c d n e f=>b<=f->∀ b,f<=b->BCalls prog 35 [.i,.sl
 0,.i,.i] [.pb 0 0 0 0,.j 4] [Bx.var [.sv a 0 c d,.j n,.j e]] b (λa c d e f g h=>b<=h->Bel h (D.sl c 0 d e)->Br (a ==
 0) (cA 9 26 [] c d e f g h (λx _ _ _ _ _ a=>w2 (0=0/\0=0) (∀ b c,a<=c->Fresh N c b [D.ag [],x]->uP c (Q b [] 0
 x 0)))) (Br (a==1) (∀ a,h<=a->BCalls prog 30 [.sl 4,.sl 0,.i,.i] [.pb 0 0 0 0] [Bx.var [.sv c 0 d e,.j f,.j g]] a (λb c d
 e f g h i j=>a<=j->Bel j (D.sl b 4 c d)->Bel j (D.sl e 0 f g)->cA 9 25 [] e f g h i j (λa e f g
 h i j=>∀ k,j<=k->BCalls prog 35 [.i,.sl 0,.i,.i] [.pb 0 0 0 0,.j 3] [Bx.var [.sv e 0 f g,.j h,.j i]] k (λe f g
 h _ _ i=>k<=i->Bel i (D.sl f 0 g h)->uP i (Q b c d a e))))) (∀ a,h<=a->BCalls prog 35 [.i,.sl 0,.i,.i] [.pb
 0 0 0 0,.j 3] [Bx.var [.sv c 0 d e,.j f,.j g]] a (λb c d e f g h=>a<=h->Bel h (D.sl c 0 d e) ->
 yT Q N 0 0 b 0 0 b0 b0 0 0 none [] 0 0 none [] 0 none [] 0 c d e f g [] 0 h)))))):ACalls prog 17 [.sl 4,.ag 9,.int .i64] [PV.sv a0 0 e0 c0] N Q:=
  eE tB h
theorem qT (N:Nat) (a0:Option Addr) (e0:List D) (c0:Nat) (Q:QT [.sl 4]) (h :
Bel N (D.sl a0 0 e0 c0)->∀ b,N<=b->ACalls prog 23 [.cu] [.sv a0 0 e0 c0] b (λa c d n e f=>b<=f->∀ b,f<=b->BCalls prog 30 [.sl 4,
 .sl 0,.i,.i] [.pb 0 0 0 0] [Bx.var [.sv a 0 c d,.j n,.j e]] b (λa c d e f g _ _ h=>b<=h->Bel h (D.sl a 4 c d)->Bel
 h (D.sl e 0 f g)->uP h (Q a c d)))):ACalls prog 7 [.sl 4] [PV.sv a0 0 e0 c0] N Q:=
  eE H0 h
theorem zDw (N:Nat) (a0:Option Addr) (e0:List D) (c0:Nat) (a1:Option Addr) (e1:List D) (c1:Nat) (Q:QT [.bool]) (h :
Bel N (D.sl a0 4 e0 c0)->Bel N (D.sl a1 4 e1 c1)->Br (bne (e0.length:Int) (e1.length:Int)) (uP N (Q false)) (xg Q N a0 e0 c0 a1 e1 c1 0
 N)):ACalls prog 10 [.bool] [PV.sv a0 4 e0 c0,PV.sv a1 4 e1 c1] N Q:=
  eE r7 h
theorem zDk (N:Nat) (I:D) (Q:QT [.bool]) (h :
Bel N I->∃ n:Int,(I.cell 0)=D.j n/\Br (n==2) (uP N (Q true)) (∃ a:Int,(I.cell 0)=D.j a/\uP N (Q (a==3)))):ACalls prog 22 [.bool] [PV.dg 9 I] N Q:=
 eE H0 h
theorem zDQ (N:Nat) (a0:Option Addr) (e0:List D) (c0:Nat) (Q:QT [.bool]) (h :
Bel N (D.sl a0 0 e0 c0)->kB 4 [.sv a0 0 e0 c0] N (λb d=>Br b (uP d (Q true)) (kA 9 5 [.sv a0 0 e0 c0] d (λx b=>kA 9 6 [.dg 9 x] b (λb
 d=>kL 4 7 [.sv a0 0 e0 c0] d (λa c d e=>kA 9 9 [.dg 9 x] e (λe f=>kB 8 [.dg 9 b,.dg 9 e] f (λe f=>Br (!e) (uP f (Q
 false)) (kL 4 11 [.sv a 4 c d] f (λe f g h=>kL 4 12 [.sv a 4 c d] h (λa c d h=>kB 10 [.sv e 4 f g,.sv a 4 c d]
 h (λa c=>Br (!a) (uP c (Q false)) (kI 13 [.dg 9 x] c (λn a=>kI 14 [.dg 9 x] a (λa c=>Br (bne n a) (uP c (Q false)) (kB 15
 [.dg 9 x] c (λa c=>kB 16 [.dg 9 x] c (λc d=>Br (!(a==c)) (uP d (Q false)) (∀ a,d<=a->ACalls prog 17 [.sl 4,.ag 9,.i]
 [.sv a0 0 e0 c0] a (λc d e f g h=>a<=h->Bel h (D.sl c 4 d e)->Bel h f->kAB 2 18 [.sv c 4 d e,.dg 9 f,.j g]
 h (λa g h=>kL 4 11 [.sv c 4 d e] h (λc d e h=>kA 9 6 [.dg 9 f] h (λf h=>kAB 2 18 [.sv c 4 d e,.dg 9
 f,.j 0] h (λc d e=>Br g (Br (!d) (uP e (Q false)) (kA 2 20 [.dg 2 a] e (λa d=>kB 19 [.dg 2 c,.dg 2 a] d (λa c
 => Br (!a) (uP c (Q false)) (kA 11 21 [.dg 9 x,.j 200] c (λa c=>kA 11 21 [.dg 9 b,.j 200] c (λb c=>(0=0/\0=0)/\∀ d e,
 c<=e->Fresh N e d [D.ag []]->kAB 2 18 [.sv d 4 [] 0,.dg 9 x,.j 0] e (λ_ c d=>Br (!c) (uP d (Q true)) (∃ c:Int,(a.cell 0)
 = D.j c/\Br (bne c 1) (uP d (Q true)) (∃ c:Int,(b.cell 0)=D.j c/\Br (bne c 1) (uP d (Q true)) (kB 22 [.dg 9 (D.sub a 1 9)] d (λc
 d=>Br (!c) (uP d (Q true)) (kB 8 [.dg 9 (D.sub a 1 9),.dg 9 (D.sub b 1 9)] d (λa b=>uP b (Q a))))))))))))))) (kA 11 21 [.dg 9 x,
 .j 200] e (λa c=>kA 11 21 [.dg 9 b,.j 200] c (λb c=>(0=0/\0=0)/\∀ d e,c<=e->Fresh N e d [D.ag []]->kAB 2 18
 [.sv d 4 [] 0,.dg 9 x,.j 0] e (λ_ c d=>Br (!c) (uP d (Q true)) (∃ c:Int,(a.cell 0)=D.j c/\Br (bne c 1) (uP d (Q true))
 (∃ c:Int,(b.cell 0)=D.j c/\Br (bne c 1) (uP d (Q true)) (kB 22 [.dg 9 (D.sub a 1 9)] d (λc d=>Br (!c) (uP d (Q true)) (kB 8
 [.dg 9 (D.sub a 1 9),.dg 9 (D.sub b 1 9)] d (λa b=>uP b (Q a))))))))))))))))))))))))))))))))))):ACalls prog 3 [.bool] [PV.sv a0 0 e0 c0] N Q:=
  eE zCD h
theorem uc (Q:QT [.bool]) (N0:Nat) (I:Int) (J O:D) (N:Nat) (h :
∃ a d,∃ c:Nat,(J.cell 8)=D.sl a 9 d c/\Br (decide (I<(d.length:Int))) (∃ a c,∃ d:Nat,(J.cell 8)=D.sl a 9 c d/\(0<=I
 /\ I<(c.length:Int))/\∃ a d,∃ e:Nat,(O.cell 8)=D.sl a 9 d e/\(0<=I/\I<(d.length:Int))/\kB 8 [.dg 9 (List.getD c
 I.toNat default),.dg 9 (List.getD d I.toNat default)] N (λb a=>Br (!b) (uP a (Q false)) (y9 Q N0 (IntKind.i64.wrap (I+1)) J O
 a))) (uP N (Q true))):y9 Q N0 I J O N:=
  hE t7 h
theorem zBX (N:Nat) (aB0_0:Option Addr) (eB0_0:List D) (cB0_0:Nat) (nB0_1 nB0_2:Int) (Q:QT [(Sh.sl 4),(Sh.sl 0),(Sh.int IntKind.i64),(Sh.int IntKind.i64)]) (h:∀ E:Env,
Bel N (D.sl aB0_0 0 eB0_0 cB0_0)->∀ d,N<=d->BCalls prog 35 [.i,.sl 0,.i,.i] [.pb 0 0 0 0,.j 5] [Bx.var [.sv aB0_0 0 eB0_0 cB0_0,.j
 nB0_1,.j nB0_2]] d (fun n a c e f g h=>d<=h->Bel h (D.sl a 0 c e)->cB 24 [.j 16] a c e f g h (fun b a c d e f g=>Br b
 (xK E Q N 0 0 13 0 a c d e f [] 0 g) (xK E Q N 0 0 n 0 a c d e f [] 0 g)))):BCalls prog 30 [(Sh.sl 4),(Sh.sl 0),(Sh.int IntKind.i64),(Sh.int IntKind.i64)] [.pb 0 0 0 0] [.var [.sv aB0_0 0 eB0_0 cB0_0,.int .i64 nB0_1,.int .i64 nB0_2]] N Q:=
  bE tV h
theorem vP (Q:QT [.sl 4,.ag 9,.int .i64]) (N0:Nat) (m7 c7:Nat) (n8 n9 aa:Int) (ab ac:ByteArray) (ae ah:Int) (ai:Option Addr) (aj:List D) (ak:Nat) (al:Int) (am:Option Addr) (ao:List D) (aq:Nat) (au:Option Addr) (aw:List D) (ax:Nat) (I:Option Addr) (J:List D) (O:Nat) (U Y:Int) (r2:List D) (q2:Nat) (N:Nat) (h :
Br (decide (n9<n8)) ((0<=n9/\n9<2/\(0+n9.toNat:Nat)<2)/\(0+n9.toNat:Nat)<2/\∃ s,List.getD [D.t (bytes [120]),D.t (bytes [121])] (0 +
 n9.toNat:Nat) default=D.t s/\cA 2 36 [.j 0] I J O U Y N (λx a b c n d e=>∀ f,e<=f->BCalls prog 35 [.i,.sl 0,.i,.i] [.pb 0
 0 0 0,.j 2] [Bx.var [.sv a 0 b c,.j n,.j d]] f (λa b c d e g h=>f<=h->Bel h (D.sl b 0 c d)->(m7=r2.length/\c7=q2) /\
 zA r2 [D.ag [D.t s,(x.cell 0),(x.cell 1),D.j a]] 56/\∀ (f:Nat),yT Q N0 (r2++[D.ag [D.t s,(x.cell 0),(x.cell 1),D.j
 a]]).length f n8 (IntKind.i64.wrap (n9+1)) aa ab ac ae ah ai aj ak al am ao aq au aw ax b c d e g (r2++[D.ag
 [D.t s,(x.cell 0),(x.cell 1),D.j a]]) f h))) (∀ a,N<=a->BCalls prog 35 [.i,.sl 0,.i,.i] [.pb 0 0 0 0,.j 2] [Bx.var [.sv I 0 J O,.j
 U,.j Y]] a (λb c d e f g h=>a<=h->Bel h (D.sl c 0 d e)->cA 2 38 [.j 2] c d e f g h (λa c d e f
 g h=>w3 (m7=r2.length/\c7=q2) (∀ i j,h<=j->Fresh N0 j i [D.ag r2]->cA 9 37 [.sv i 4 r2 q2,.dg 2 a,.j b,.j 4] c d e f g
 j (λa _ _ _ _ _ c=>uP c (Q i r2 q2 a b))))))):yT Q N0 m7 c7 n8 n9 aa ab ac ae ah ai aj ak al am ao aq au aw ax I J O U Y r2 q2 N:=
  hE tB h
theorem sB (Q:QT [.bool]) (N0:Nat) (a0:Option Addr) (e0:List D) (c0:Nat) (a1:Option Addr) (e1:List D) (c1:Nat) (n5:Int) (N:Nat) (h :
Br (decide (n5<(e0.length:Int))) ((0<=n5/\n5<(e0.length:Int))/\∃ s,(if 0=0 then D.cell (List.getD e0 n5.toNat default) 0 else D.sub
 (List.getD e0 n5.toNat default) 0 0)=D.t s/\(0<=n5/\n5<(e1.length:Int))/\∃ a,(if 0=0 then D.cell (List.getD e1 n5.toNat default) 0 else D.sub
 (List.getD e1 n5.toNat default) 0 0)=D.t a/\Br (!(ByteArray.toList s==ByteArray.toList a)) (uP N (Q false)) ((0<=n5/\n5<(e0.length:Int))/\∃ n :
 Int,(if 0=0 then D.cell (List.getD e0 n5.toNat default) 3 else D.sub (List.getD e0 n5.toNat default) 3 0)=D.j n/\(0<=n5/\n5<(e1.length:Int))/\∃ a
 : Int,(if 0=0 then D.cell (List.getD e1 n5.toNat default) 3 else D.sub (List.getD e1 n5.toNat default) 3 0)=D.j a/\Br (bne n a) (uP N (Q false)) ((0 <=
 n5/\n5<(e0.length:Int))/\(0<=n5/\n5<(e1.length:Int))/\kB 19 [.dg 2 (if 2=0 then D.cell (List.getD e0 n5.toNat default) 1 else D.sub (List.getD e0
 n5.toNat default) 1 2),.dg 2 (if 2=0 then D.cell (List.getD e1 n5.toNat default) 1 else D.sub (List.getD e1 n5.toNat default) 1 2)] N (fun b a=>Br (!b)
 (uP a (Q false)) (xg Q N0 a0 e0 c0 a1 e1 c1 (IntKind.i64.wrap (n5+1)) a))))) (uP N (Q true))):xg Q N0 a0 e0 c0 a1 e1 c1 n5 N:=
  hE r7 h
theorem sn (E:Env) (Q:QT [(Sh.sl 4),(Sh.sl 0),(Sh.int IntKind.i64),(Sh.int IntKind.i64)]) (N0:Nat) (m3 c3:Nat) (n4 n5:Int) (I:Option Addr) (J:List D) (O:Nat) (U Y:Int) (r1:List D) (q1:Nat) (N:Nat) (h :
Br (decide (n5<n4)) (cP [D.t (bytes [120]),D.t (bytes [121]),D.t (bytes [102]),D.t (bytes [120])] 48 9 4 I J O U Y N (λs a b c n
 d _ _ _ e=>cA 2 38 [.j 2] a b c n d e (λx a b c d e f=>∀ g,f<=g->BCalls prog 35 [.i,.sl 0,.i,.i] [.pb 0 0 0 0,.j 3]
 [Bx.var [.sv a 0 b c,.j d,.j e]] g (λa b c d e f h=>g<=h->Bel h (D.sl b 0 c d)->(m3=r1.length/\c3=q1) /\
 zA r1 [D.ag [D.t s,(x.cell 0),(x.cell 1),D.j a]] 56/\∀ (g:Nat),xK E Q N0 (r1++[D.ag [D.t s,(x.cell 0),(x.cell 1),D.j
 a]]).length g n4 (IntKind.i64.wrap (n5+1)) b c d e f (r1++[D.ag [D.t s,(x.cell 0),(x.cell 1),D.j a]]) g h)))) (Br (decide (n4>0))
 (cB 24 [.j 8] I J O U Y N (λb a c d e f g=>Br b (∀ b,g<=b->BCalls prog 47 [.i,.sl 0,.i,.i,.sl 0] [.pb 0 0 0 0,.sb 1 0
 0 2 2] [Bx.var [.sv a 0 c d,.j e,.j f],Bx.arr 3 0 [D.j (-1),D.j 3] 2] b (λa c d e f g h i j k=>b<=k->Bel k
 (D.sl c 0 d e)->Bel k (D.sl h 0 i j)->((0:Int)<=(0:Int)/\0<(m3:Int)/\0<r1.length)/\0<r1.length/\yj E Q N0 m3 c3
 n4 c d e f g (List.set r1 0 (D.ag (zHV 3 [D.j a] (D.cells (List.getD r1 0 default))))) q1 k)) (yj E Q N0 m3 c3 n4 a c d
 e f r1 q1 g))) (yj E Q N0 m3 c3 n4 I J O U Y r1 q1 N))):xK E Q N0 m3 c3 n4 n5 I J O U Y r1 q1 N:=
  hE tV h
theorem zBZ (E:Env) (Q:QT [(Sh.sl 4),(Sh.sl 0),(Sh.int IntKind.i64),(Sh.int IntKind.i64)]) (N0:Nat) (m3 c3:Nat) (n4:Int) (I:Option Addr) (J:List D) (O:Nat) (U Y:Int) (r1:List D) (q1:Nat) (N:Nat) (h :
Br (decide (n4>0)) (cB 24 [.j 8] I J O U Y N (λb a c d n e f=>Br b (((0:Int)<=(0:Int)/\0<(m3:Int)/\0<r1.length)/\0
 < r1.length/\w4 (m3=(List.set r1 0 (D.ag (zHV 0 [D.t (bytes [108,101,116])] (D.cells (List.getD r1 0 default))))).length/\c3=q1) (∀ b g,f<=g ->
 Fresh N0 g b [D.ag (List.set r1 0 (D.ag (zHV 0 [D.t (bytes [108,101,116])] (D.cells (List.getD r1 0 default)))))]->zR E [.var [.sv none 0 [] 0,.j 0,
 .j 0]]/\∀ f,g<=f->Q b (List.set r1 0 (D.ag (zHV 0 [D.t (bytes [108,101,116])] (D.cells (List.getD r1 0 default))))) q1 a c d n e f)) (w3 (m3 =
 r1.length/\c3=q1) (∀ b g,f<=g->Fresh N0 g b [D.ag r1]->zR E [.var [.sv none 0 [] 0,.j 0,.j 0]]/\uP g (Q b r1 q1 a c d n e))))) (w3 (m3
 = r1.length/\c3=q1) (∀ a b,N<=b->Fresh N0 b a [D.ag r1]->zR E [.var [.sv none 0 [] 0,.j 0,.j 0]]/\uP b (Q a r1 q1 I J O U
 Y)))):yj E Q N0 m3 c3 n4 I J O U Y r1 q1 N:=
  hE tV h
end Go.Proofs.YtnmnahkkcfghjaaGreat
