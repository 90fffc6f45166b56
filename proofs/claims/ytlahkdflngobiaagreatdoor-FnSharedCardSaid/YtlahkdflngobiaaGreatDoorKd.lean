/- Printed by gen.py: what the functions come to. -/
import Derived.Test.YtlahkdflngobiaaGreatDoorJh
set_option linter.unusedVariables false
set_option maxRecDepth 100000
namespace Go.Proofs.YtlahkdflngobiaaGreatDoor
open Go Go.Proofs Go.Proofs.Tryz
def zAo:Hint:=⟨[hc 5 [1,3,4]],[],[(7,hs 9 [ec 6 [31]])]⟩
def zCB:Hint:=⟨[hc 5 [2,3,4,5,8,9,10]],[],[(1,[en 0,en 1,ec 2 [11,12],en 3,en 4,en 5,en 7,ec 6 [16],ec 8 [15],en 9]),(3,hs 4 [ec 1 [23]]),(7,[en 0,en 1,en 2,en 3,en 4,en 5,en 6,en 7,en 8,en 9,en 10,en 11,en 12,ec 13 [42],ec 14 [39,40],en 15,eh 16])]⟩
def zEY:Hint:=⟨[],[],[(1,hs 4 [ec 2 [9]]),(3,hs 4 [ec 1 [14]]),(4,[en 0,en 2,eh 1,ec 3 [18],eh 4,eh 5,en 6]),(5,[en 0,en 1,en 2,en 3,en 4,en 5,en 6,en 7,en 8,en 9,ec 10 [26,29],ec 11 [25,32],eh 12,en 13])]⟩
def ut:Hint:=⟨[hc 2 [0,4,5]],[],[(1,hs 4 [ec 1 [8]]),(2,hs 9 [ec 2 [12]])]⟩
def zCQ:Hint:=⟨[hc 5 [0,1,4,7,8,10,11,27,28,29] [(11,36,9)]],[],[(1,hs 9 [ec 3 [16],ec 7 [19,20]]),(7,[en 0,en 1,en 2,en 3,en 4,en 6,en 7,en 8,ec 5 [37],ec 9 [40,41],en 10,eh 11,eh 12]),(9,hs 4 [ec 2 [47]])]⟩
def zA3:Hint:=⟨[hc 5 [3,21,22,23]],[],[(7,hs 5 [ec 2 [28]])]⟩
def zEq:Hint:=⟨[],[],[(1,hs 4 [ec 2 [11]]),(3,hs 4 [ec 1 [16]]),(5,hs 7 [ec 2 [21]]),(6,[en 0,en 1,en 2,en 3,en 4,en 5,en 6,en 7,en 8,en 9,en 13,ec 10 [31,34],en 11,en 12,eh 14])]⟩
def qN:Hint:=⟨[hc 2 [0,4,5,6]],[],[(1,hs 9 [ec 2 [9]]),(3,hs 8 [ec 2 [16]])]⟩
def yq (Q:QT [.sl 0]) (N0:Nat) (I J:Nat) (O:Int) (y0:D) (r1:List D) (q1:Nat) (N:Nat):Prop:=AT prog 28 [.sl 0] Q N0 .ord (zD prog 28 5) ⟨an 1 (.pb 0 0 0 0::an 1 (.sb 1 0 0 I J::.int .i64 O::an 30 [])),[.vd y0 9,.arr 9 0 r1 q1],N,none⟩
def xS (Q:QT [.ag 9]) (N0:Nat) (s2:ByteArray) (a3:Option Addr) (e3:List D) (c3:Nat) (n10:Int) (y0 y1:D) (I:Int) (J O:ByteArray) (aa ab:Int) (ac:Option Addr) (ae:List D) (ah:Nat) (ai:Int) (aj:Option Addr) (ak:List D) (al:Nat) (am:Option Addr) (ao:List D) (aq:Nat) (au:Int) (aw ax:ByteArray) (ay:Int) (az a6 a7 a8:D) (ba bb:Nat) (r4:List D) (q4:Nat) (N:Nat):Prop:=AT prog 39 [.ag 9] Q N0 .ord (zD prog 39 5) ⟨an 2 (.str s2::.sv a3 0 e3 c3::.pb 0 0 0 0::.pb 1 0 0 0::an 2 (.pb 2 0 0 0::.pb 3 0 0 0::.int .i64 n10::an 38 [])),[.vd y0 9,.vd y1 9,.var [.int .i64 I,.str J,.str O,.int .i64 aa,.int .i64 ab,.sv ac 2 ae ah,.int .i64 ai,.sv aj 2 ak al,.sv am 9 ao aq],.var [.int .i64 au,.str aw,.str ax,.int .i64 ay,.dc az,.dc a6,.dc a7,.dc a8,.sb 4 9 0 ba bb],.arr 36 9 r4 q4],N,none⟩
def sZ (Q:QT [.ag 9]) (N0:Nat) (a0:Option Addr) (e0:List D) (c0:Nat) (I:Int) (J O:ByteArray) (aa ab:Int) (ac:Option Addr) (ae:List D) (ah:Nat) (ai:Int) (aj:Option Addr) (ak:List D) (al:Nat) (am:Option Addr) (ao:List D) (aq:Nat) (au:Int) (aw ax:ByteArray) (ay:Int) (az a6 a7 a8:D) (ba bb:Nat) (r2:List D) (q2:Nat) (N:Nat):Prop:=AT prog 23 [.ag 9] Q N0 .ord (zD prog 23 2) ⟨.sv a0 4 e0 c0::an 3 (.pb 0 0 0 0::.pb 1 0 0 0::an 14 []),[.var [.int .i64 I,.str J,.str O,.int .i64 aa,.int .i64 ab,.sv ac 2 ae ah,.int .i64 ai,.sv aj 2 ak al,.sv am 9 ao aq],.var [.int .i64 au,.str aw,.str ax,.int .i64 ay,.dc az,.dc a6,.dc a7,.dc a8,.sb 2 9 0 ba bb],.arr 36 9 r2 q2],N,none⟩
def xJ (Q:QT [.ag 9]) (N0:Nat) (a0:Option Addr) (e0:List D) (c0:Nat) (a1:Option Addr) (e1:List D) (c1:Nat) (s4:ByteArray) (au aw:Nat) (ax:Option Addr) (ay:List D) (az:Nat) (a6 a7:Int) (y0 y1:D) (I:Int) (J O:ByteArray) (aa ab:Int) (ac:Option Addr) (ae:List D) (ah:Nat) (ai:Int) (aj:Option Addr) (ak:List D) (al:Nat) (am:Option Addr) (ao:List D) (aq:Nat) (r3:List D) (q3:Nat) (N:Nat):Prop:=AT prog 47 [.ag 9] Q N0 .ord (zD prog 47 5) ⟨.sv a0 0 e0 c0::.sv a1 0 e1 c1::an 2 (.str s4::an 2 (.pb 0 0 0 0::.pb 1 0 0 0::an 1 (.pb 2 0 0 0::.sb 3 9 0 au aw::an 15 (.sv ax 9 ay az::.int .i64 a6::.int .i64 a7::an 20 [])))),[.vd y0 9,.vd y1 9,.var [.int .i64 I,.str J,.str O,.int .i64 aa,.int .i64 ab,.sv ac 2 ae ah,.int .i64 ai,.sv aj 2 ak al,.sv am 9 ao aq],.arr 36 9 r3 q3],N,none⟩
def yp (Q:QT [.sl 0]) (N0:Nat) (m3 c3:Nat) (I:Option Addr) (J:List D) (O:Nat) (aa ab:Int) (r0:List D) (q0:Nat) (N:Nat):Prop:=AT prog 27 [.sl 0] Q N0 .ord (zD prog 27 5) ⟨an 3 (.sb 0 0 0 m3 c3::an 17 (.sv I 9 J O::.int .i64 aa::.int .i64 ab::an 9 [])),[.arr 9 0 r0 q0],N,none⟩
def wG (Q:QT [.ag 9]) (N0:Nat) (a0:Option Addr) (e0:List D) (c0:Nat) (b6:Bool) (I:Int) (J O:ByteArray) (aa ab:Int) (ac:Option Addr) (ae:List D) (ah:Nat) (ai:Int) (aj:Option Addr) (ak:List D) (al:Nat) (am:Option Addr) (ao:List D) (aq:Nat) (y1:D) (N:Nat):Prop:=AT prog 19 [.ag 9] Q N0 .ord (zD prog 19 2) ⟨.sv a0 4 e0 c0::an 3 (.pb 0 0 0 0::.pb 1 0 0 0::.bool b6::an 14 []),[.var [.int .i64 I,.str J,.str O,.int .i64 aa,.int .i64 ab,.sv ac 2 ae ah,.int .i64 ai,.sv aj 2 ak al,.sv am 9 ao aq],.vd y1 9],N,none⟩
def yv (Q:QT [.ag 9]) (N0:Nat) (a0:Option Addr) (e0:List D) (c0:Nat) (I:Int) (J O:ByteArray) (aa ab:Int) (ac:Option Addr) (ae:List D) (ah:Nat) (ai:Int) (aj:Option Addr) (ak:List D) (al:Nat) (am:Option Addr) (ao:List D) (aq:Nat) (y1:D) (N:Nat):Prop:=AT prog 23 [.ag 9] Q N0 .ord (zD prog 23 2) ⟨.sv a0 4 e0 c0::an 3 (.pb 0 0 0 0::.pb 1 0 0 0::an 14 []),[.var [.int .i64 I,.str J,.str O,.int .i64 aa,.int .i64 ab,.sv ac 2 ae ah,.int .i64 ai,.sv aj 2 ak al,.sv am 9 ao aq],.vd y1 9],N,none⟩
theorem zGu (N:Nat) (I:D) (Q:QT [.sl 0]) (h :
Bel N I->∃ n:Int,(I.cell 0)=D.j n/\Br (n==1) (∃ s,(I.cell 1)=D.t s/\(0=0/\0=0)/\zB [] [D.t s] 16/\∀ (c:Nat),yq
 Q N ([]++[D.t s]).length c 0 I ([]++[D.t s]) c N) (∃ a:Int,(I.cell 0)=D.j a/\Br (a==8) (∃ a,(I.cell 1)=D.t a/\(0=0/\0=0) /\
 zB [] [D.t a] 16/\∀ (b:Nat),yq Q N ([]++[D.t a]).length b 0 I ([]++[D.t a]) b N) (yq Q N 0 0 0 I [] 0
 N))):ACalls prog 28 [.sl 0] [PV.dg 9 I] N Q:=
  eE zAo h
theorem zJG (N:Nat) (I J:D) (s2:ByteArray) (a3:Option Addr) (O:List D) (c3:Nat) (Q:QT [.ag 9]) (h :
Bel N I->Bel N J->Bel N (D.sl a3 0 O c3)->kB 22 [.dg 9 I,.dg 9 J] N (λb d=>Br b (kL 0 81 [.dg 9 I] d (λa b c d=>kB 80 [.dg 9 I,
 .sv a 0 b c,.sv a3 0 O c3] d (λa b=>Br a (kA 9 82 [.str s2] b (λx a=>uP a (Q x))) (∀ a,b<=a->ACalls prog 34 [.pk,.i,.str,.str,
 .i,.dc,.dc,.dc,.dc,.row 36 9] [.dg 9 I] a (λn s b c d e f g h i j=>a<=j->Bel j (D.ag h)->xS Q N s2 a3
 O c3 0 I J 0 b0 b0 0 0 none [] 0 0 none [] 0 none [] 0 n s b c d e f g h.length i h i j))))) (∀ a,d<=a->ACalls prog 34 [.pk,
 .i,.str,.str,.i,.dc,.dc,.dc,.dc,.row 36 9] [.dg 9 I] a (λb c d e f g h i j k l=>a<=l->Bel l (D.ag j) ->
 xS Q N s2 a3 O c3 0 I J 0 b0 b0 0 0 none [] 0 0 none [] 0 none [] 0 b c d e f g h i j.length k j k l)))):ACalls prog 39 [.ag 9] [PV.dg 9 I,PV.dg 9 J,PV.str s2,PV.sv a3 0 O c3] N Q:=
  eE zCB h
theorem zEZ (N:Nat) (a0:Option Addr) (e0:List D) (J:Nat) (I:D) (Q:QT [.ag 9,.bool]) (h :
Bel N (D.sl a0 4 e0 J)->Bel N I->kL 9 25 [.sv a0 4 e0 J,.dg 9 I] N (λ_ a _ b=>Br ((a.length:Int)==0) (∀ a,b<=a->ACalls prog 34
 [.pk,.i,.str,.str,.i,.dc,.dc,.dc,.dc,.row 36 9] [.dg 9 I] a (λn s b c x d e f g h i=>a<=i->Bel i (D.ag g)->w2
 (g.length=g.length/\h=h) (∀ a j,i<=j->Fresh N j a [D.ag g,x,d,e,f]->uP j (Q (D.ag [D.j n,D.t s,D.t b,D.j c,x,
 d,e,f,D.sl a 9 g h]) false)))) (kL 0 37 [.sv a0 4 e0 J] b (λb c d e=>kL 0 28 [.dg 9 I] e (λe f g h=>∀ i,h <=
 i->ACalls prog 36 [.row 9 0] [.sv b 0 c d,.sv e 0 f g] i (λb c d=>i<=d->Bel d (D.ag b)->(b.length=b.length /\
 c=c)/\∀ e,ApA e b->∀ f,d<=f->wa f [e]->ACalls prog 35 [.str] [.sv e 0 b c] f (λb c=>f<=c->((0:Int) <=
 (0:Int)/\0<(a.length:Int))/\((0:Int)<=(0:Int)/\0<(a.length:Int))/\(0=0/\0=0)/\∀ d,ApA d []->Off [d] I->Off [d] (List.getD
 a 0 default)->∀ e,c<=e->wa e [d]->ACalls prog 39 [.ag 9] [.dg 9 I,.dg 9 (List.getD a 0 default),.str b,.sv d 0 [] 0] e (λc f
 => e<=f->Off [d] c/\(Bel f c->kA 9 38 [.str b,.dg 9 (List.getD a 0 default),.dg 9 c] f (λa b=>uP b (Q a true))))))))))):ACalls prog 8 [.ag 9,.bool] [PV.sv a0 4 e0 J,PV.dg 9 I] N Q:=
  eE zEY h
theorem zEc (N:Nat) (a0:Option Addr) (e0:List D) (I:Nat) (J:D) (Q:QT [.ag 9]) (h :
Bel N (D.sl a0 4 e0 I)->Bel N J->∀ a,N<=a->ACalls prog 34 [.pk,.i,.str,.str,.i,.dc,.dc,.dc,.dc,.row 36 9] [.dg 9 J] a (λn s b c
 x d e f g h i=>a<=i->Bel i (D.ag g)->sZ Q N a0 e0 I 0 b0 b0 0 0 none [] 0 0 none [] 0 none [] 0 n s b c x d e f
 g.length h g h i)):ACalls prog 23 [.ag 9] [PV.sv a0 4 e0 I,PV.dg 9 J] N Q:=
  eE ut h
theorem zIj (N:Nat) (a0:Option Addr) (e0:List D) (J:Nat) (a1:Option Addr) (e1:List D) (c1:Nat) (I O:D) (s4:ByteArray) (Q:QT [.ag 9]) (h :
Bel N (D.sl a0 0 e0 J)->Bel N (D.sl a1 0 e1 c1)->Bel N I->Bel N O->kB 88 [.sv a0 0 e0 J,.sv a1 0 e1 c1,.dg 9 I] N (λb d=>Br b (kB 61 [.dg
 9 I,.dg 9 O] d (λb d=>Br b (kA 9 89 [.str s4] d (λx a=>uP a (Q x))) (∃ a b,∃ c:Nat,(I.cell 8)=D.sl a 9 b c/\xJ Q N
 a0 e0 J a1 e1 c1 s4 0 0 a b c (b.length:Int) 0 I O 0 b0 b0 0 0 none [] 0 0 none [] 0 none [] 0 [] 0 d))) (∃ a b,∃ c:Nat,(I.cell 8)=D.sl
 a 9 b c/\xJ Q N a0 e0 J a1 e1 c1 s4 0 0 a b c (b.length:Int) 0 I O 0 b0 b0 0 0 none [] 0 0 none [] 0 none [] 0 [] 0 d))):ACalls prog 47 [.ag 9] [PV.sv a0 0 e0 J,PV.sv a1 0 e1 c1,PV.dg 9 I,PV.dg 9 O,PV.str s4] N Q:=
  eE zCQ h
theorem zGl (N:Nat) (x0:D) (Q:QT [.sl 0]) (h :
Bel N x0->∃ n:Int,(x0.cell 0)=D.j n/\Br (n==1) (∃ s,(x0.cell 1)=D.t s/\(0=0/\0=0)/\zB [] [D.t s] 16/\∀ (c:Nat),∃ a b,∃ d :
 Nat,(x0.cell 8)=D.sl a 9 b d/\yp Q N ([]++[D.t s]).length c a b d (b.length:Int) 0 ([]++[D.t s]) c N) (∃ a:Int,(x0.cell 0) =
 D.j a/\Br (a==8) (∃ a,(x0.cell 1)=D.t a/\(0=0/\0=0)/\zB [] [D.t a] 16/\∀ (b:Nat),∃ c d,∃ e:Nat,(x0.cell 8)=D.sl
 c 9 d e/\yp Q N ([]++[D.t a]).length b c d e (d.length:Int) 0 ([]++[D.t a]) b N) (∃ a b,∃ c:Nat,
 (x0.cell 8)=D.sl a 9 b c/\yp Q N 0 0 a b c (b.length:Int) 0 [] 0 N))):ACalls prog 27 [.sl 0] [PV.dg 9 x0] N Q:=
  eE zA3 h
theorem zEA (N:Nat) (a0:Option Addr) (e0:List D) (J:Nat) (I:D) (Q:QT [.ag 9,.bool]) (h :
Bel N (D.sl a0 4 e0 J)->Bel N I->kL 9 20 [.sv a0 4 e0 J,.dg 9 I] N (λ_ a _ b=>Br ((a.length:Int)==0) (∀ a,b<=a->ACalls prog 43
 [.pk,.i,.str,.str,.i,.dc,.dc,.dc,.dc,.row 36 9] [.dg 9 I] a (λn s b c x d e f g h i=>a<=i->Bel i (D.ag g)->w2
 (g.length=g.length/\h=h) (∀ a j,i<=j->Fresh N j a [D.ag g,x,d,e,f]->uP j (Q (D.ag [D.j n,D.t s,D.t b,D.j c,x,
 d,e,f,D.sl a 9 g h]) false)))) (kL 0 44 [.sv a0 4 e0 J] b (λb c d e=>kL 0 27 [.dg 9 I] e (λe f g h=>(2=([D.sl
 b 0 c d,D.sl e 0 f g]).length/\2=2)/\∀ i,ApA i [D.sl b 0 c d,D.sl e 0 f g]->∀ j,h<=j->wa j [i]->ACalls
 prog 46 [.sl 0] [.sv i 0 [D.sl b 0 c d,D.sl e 0 f g] 2] j (λe f g h=>j<=h->Off [i] (D.sl e 0 f g)/\(Bel h
 (D.sl e 0 f g)->kS 45 [.sv e 0 f g] h (λe f=>w2 ((0:Int)<=(0:Int)/\0<(a.length:Int)) (kA 9 47 [.sv b 0 c d,.sv none
 0 [] 0,.dg 9 I,.dg 9 (List.getD a 0 default),.str e] f (λb c=>w5 (2=([List.getD a 0 default,b]).length/\2=2) (∀ d f,c<=f ->
 Fresh N f d [D.ag [List.getD a 0 default,b],D.sl none 2 [] 0,D.sl none 2 [] 0]->∀ c,f<=c->Q (D.ag [D.j 8,D.t e,D.t b0,D.j 0,D.j 0,
 D.sl none 2 [] 0,D.j 0,D.sl none 2 [] 0,D.sl d 9 [List.getD a 0 default,b] 2]) true c))))))))))):ACalls prog 11 [.ag 9,.bool] [PV.sv a0 4 e0 J,PV.dg 9 I] N Q:=
  eE zEq h
theorem zEH (N:Nat) (a0:Option Addr) (e0:List D) (I:Nat) (J:D) (Q:QT [.ag 9]) (h :
Bel N (D.sl a0 4 e0 I)->Bel N J->kAB 9 11 [.sv a0 4 e0 I,.dg 9 J] N (λx b a=>wG Q N a0 e0 I b 0 b0 b0 0 0 none [] 0 0 none []
 0 none [] 0 x a)):ACalls prog 19 [.ag 9] [PV.sv a0 4 e0 I,PV.dg 9 J] N Q:=
  eE qN h
theorem qA (Q:QT [.sl 0]) (N0:Nat) (m3 J:Nat) (I:Int) (O:D) (r1:List D) (q1:Nat) (N:Nat) (h :
∃ a b,∃ c:Nat,(O.cell 8)=D.sl a 9 b c/\Br (decide (I<(b.length:Int))) (∃ a b,∃ c:Nat,(O.cell 8)=D.sl a 9 b c/\(0<=I
 /\ I<(b.length:Int))/\kL 0 28 [.dg 9 (List.getD b I.toNat default)] N (λa b c d=>(m3=r1.length/\J=q1)/\∀ e,ApA e r1->Off
 [e] (D.sl a 0 b c)->∀ f,d<=f->wa f [e]->ACalls prog 36 [.row 9 0] [.sv e 0 r1 J,.sv a 0 b c] f (λa b c=>f<=c ->
 Off [e] (D.ag a)/\(Bel c (D.ag a)->yq Q N0 a.length b (IntKind.i64.wrap (I+1)) O a b c)))) (w3 (m3=r1.length/\J =
 q1) (∀ a b,N<=b->Fresh N0 b a [D.ag r1]->uP b (Q a r1 q1)))):yq Q N0 m3 J I O r1 q1 N:=
  hE zAo h
theorem pG (Q:QT [.ag 9]) (N0:Nat) (s2:ByteArray) (a3:Option Addr) (e3:List D) (c3:Nat) (n10:Int) (y0 y1:D) (ak:Int) (al am:ByteArray) (ao aq:Int) (au:Option Addr) (aw:List D) (ax:Nat) (ay:Int) (az:Option Addr) (a6:List D) (a7:Nat) (a8:Option Addr) (ba:List D) (bb:Nat) (ac:Int) (ae ah:ByteArray) (ai:Int) (I J O aa:D) (ab aj:Nat) (r4:List D) (q4:Nat) (N:Nat) (h :
∃ a b,∃ c:Nat,(y0.cell 8)=D.sl a 9 b c/\Br (decide (n10<(b.length:Int))) (∃ a b,∃ c:Nat,(y0.cell 8)=D.sl a 9 b c/\(0 <=
 n10/\n10<(b.length:Int))/\kL 0 83 [.dg 9 y0,.j n10,.sv a3 0 e3 c3] N (λa c d e=>kA 9 39 [.dg 9 (List.getD b n10.toNat default),.dg 9
 y1,.str s2,.sv a 0 c d] e (λx a=>(0<=n10/\n10<(ab:Int)/\(0+n10.toNat:Nat)<r4.length)/\(0+n10.toNat:Nat)<r4.length /\
 xS Q N0 s2 a3 e3 c3 (IntKind.i64.wrap (n10+1)) y0 y1 ak al am ao aq au aw ax ay az a6 a7 a8 ba bb ac ae ah
 ai I J O aa ab aj (List.set r4 (0+n10.toNat:Nat) x) q4 a))) (w3 (ab=r4.length/\aj=q4) (∀ a b,N<=b->Fresh N0 b a [D.ag
 r4,I,J,O,aa]->uP b (Q (D.ag [D.j ac,D.t ae,D.t ah,D.j ai,I,J,O,aa,D.sl a 9 r4 q4]))))):xS Q N0 s2 a3 e3 c3 n10 y0 y1 ak al am ao aq au aw ax ay az a6 a7 a8 ba bb ac ae ah ai I J O aa ab aj r4 q4 N:=
  hE zCB h
theorem zCe (Q:QT [.ag 9]) (N0:Nat) (a0:Option Addr) (e0:List D) (c0:Nat) (n0_0:Int) (s0_1 s0_2:ByteArray) (n0_3 n0_4:Int) (a0_5:Option Addr) (e0_5:List D) (c0_5:Nat) (n0_6:Int) (a0_7:Option Addr) (e0_7:List D) (c0_7:Nat) (a0_8:Option Addr) (e0_8:List D) (c0_8:Nat) (n1_0:Int) (s1_1 s1_2:ByteArray) (n1_3:Int) (x1_4 x1_5 x1_6 x1_7:D) (m1_8 c1_8:Nat) (r2:List D) (q2:Nat) (N:Nat) (h :
(m1_8=r2.length/\c1_8=q2)/\(m1_8=r2.length/\c1_8=q2)/\∀ a c,N<=c->Fresh N0 c a [D.ag r2]->kAB 9 8 [.sv a0 4 e0 c0,.dg 9 (D.ag [D.j
 n1_0,D.t s1_1,D.t s1_2,D.j n1_3,x1_4,x1_5,x1_6,x1_7,D.sl a 9 r2 q2])] c (fun x b a=>Br (!b) (uP a (Q x)) (yv Q N0 a0 e0 c0 n0_0
 s0_1 s0_2 n0_3 n0_4 a0_5 e0_5 c0_5 n0_6 a0_7 e0_7 c0_7 a0_8 e0_8 c0_8 x a))):sZ Q N0 a0 e0 c0 n0_0 s0_1 s0_2 n0_3 n0_4 a0_5 e0_5 c0_5 n0_6 a0_7 e0_7 c0_7 a0_8 e0_8 c0_8 n1_0 s1_1 s1_2 n1_3 x1_4 x1_5 x1_6 x1_7 m1_8 c1_8 r2 q2 N:=
  hE ut h
theorem pp (Q:QT [.ag 9]) (N0:Nat) (a0:Option Addr) (e0:List D) (c0:Nat) (a1:Option Addr) (e1:List D) (c1:Nat) (s4:ByteArray) (aa J:Nat) (a7:Option Addr) (ab:List D) (a8:Nat) (a6 I:Int) (y0 y1:D) (ac:Int) (ae ah:ByteArray) (ai aj:Int) (ak:Option Addr) (al:List D) (am:Nat) (ao:Int) (aq:Option Addr) (au:List D) (aw:Nat) (ax:Option Addr) (ay:List D) (az:Nat) (O:List D) (q3:Nat) (N:Nat) (h :
Br (decide (I<a6)) ((0<=I/\I<(ab.length:Int))/\kL 0 90 [.sv a1 0 e1 c1,.dg 9 y0,.j I] N (λa b c d=>kA 9 47 [.sv a0 0 e0 c0,.sv
 a 0 b c,.dg 9 (List.getD ab I.toNat default),.dg 9 y1,.str s4] d (λx a=>(aa=O.length/\J=q3)/\zB O [x] 136/\∀ (b:Nat),
 xJ Q N0 a0 e0 c0 a1 e1 c1 s4 (O++[x]).length b a7 ab a8 a6 (IntKind.i64.wrap (I+1)) y0 y1 ac ae ah ai aj ak al am ao
 aq au aw ax ay az (O++[x]) b a))) ((aa=O.length/\J=q3)/\∀ a,ApA a O->Off [a] y0->∀ b,N<=b->wa b [a]->ACalls
 prog 91 [.pk,.i,.str,.str,.i,.dc,.dc,.dc,.dc,Sh.bk 1] [.dg 9 y0,.sv a 9 O J] b (λn s c d e f g h i j=>b<=j->i=D.sl
 a 9 O J/\Off [a] e/\Off [a] f/\Off [a] g/\Off [a] h/\w4 (aa=O.length/\J=q3) (∀ a b,j<=b->Fresh N0 b a [D.ag O,
 e,f,g,h]->uP b (Q (D.ag [D.j n,D.t s,D.t c,D.j d,e,f,g,h,D.sl a 9 O q3])))))):xJ Q N0 a0 e0 c0 a1 e1 c1 s4 aa J a7 ab a8 a6 I y0 y1 ac ae ah ai aj ak al am ao aq au aw ax ay az O q3 N:=
  hE zCQ h
theorem qb (Q:QT [.sl 0]) (N0:Nat) (m3 c3:Nat) (aa:Option Addr) (J:List D) (ab:Nat) (O I:Int) (r0:List D) (q0:Nat) (N:Nat) (h :
Br (decide (I<O)) ((0<=I/\I<(J.length:Int))/\kL 0 27 [.dg 9 (List.getD J I.toNat default)] N (λa b c d=>(m3=r0.length/\c3
 = q0)/\∀ e,ApA e r0->Off [e] (D.sl a 0 b c)->∀ f,d<=f->wa f [e]->ACalls prog 72 [.row 9 0] [.sv e 0 r0 c3,.sv a 0 b c] f (λa
 b c=>f<=c->Off [e] (D.ag a)/\(Bel c (D.ag a)->yp Q N0 a.length b aa J ab O (IntKind.i64.wrap (I+1)) a b
 c)))) (w3 (m3=r0.length/\c3=q0) (∀ a b,N<=b->Fresh N0 b a [D.ag r0]->uP b (Q a r0 q0)))):yp Q N0 m3 c3 aa J ab O I r0 q0 N:=
  hE zA3 h
theorem vp (Q:QT [.ag 9]) (N0:Nat) (a0:Option Addr) (e0:List D) (c0:Nat) (b6:Bool) (I:Int) (J O:ByteArray) (aa ab:Int) (ac:Option Addr) (ae:List D) (ah:Nat) (ai:Int) (aj:Option Addr) (ak:List D) (al:Nat) (am:Option Addr) (ao:List D) (aq:Nat) (y1:D) (N:Nat) (h :
Br b6 (kAB 9 11 [.sv a0 4 e0 c0,.dg 9 y1] N (λx b a=>wG Q N0 a0 e0 c0 b I J O aa ab ac ae ah ai aj ak al
 am ao aq x a)) (uP N (Q y1))):wG Q N0 a0 e0 c0 b6 I J O aa ab ac ae ah ai aj ak al am ao aq y1 N:=
  hE qN h
theorem wR (Q:QT [.ag 9]) (N0:Nat) (a0:Option Addr) (e0:List D) (c0:Nat) (I:Int) (J O:ByteArray) (aa ab:Int) (ac:Option Addr) (ae:List D) (ah:Nat) (ai:Int) (aj:Option Addr) (ak:List D) (al:Nat) (am:Option Addr) (ao:List D) (aq:Nat) (y1:D) (N:Nat) (h :
kAB 9 8 [.sv a0 4 e0 c0,.dg 9 y1] N (λx b a=>Br (!b) (uP a (Q x)) (yv Q N0 a0 e0 c0 I J O aa ab ac ae ah ai
 aj ak al am ao aq x a))):yv Q N0 a0 e0 c0 I J O aa ab ac ae ah ai aj ak al am ao aq y1 N:=
  hE ut h
end Go.Proofs.YtlahkdflngobiaaGreatDoor
set_option maxRecDepth 100000
namespace Go.Proofs.YtlahkdflngobiaaGreatDoor
open Go Go.Proofs Go.Proofs.Tryz
end Go.Proofs.YtlahkdflngobiaaGreatDoor
