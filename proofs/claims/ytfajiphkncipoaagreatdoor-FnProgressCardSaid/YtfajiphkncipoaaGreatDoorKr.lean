/- Printed by gen.py: what the functions come to. -/
import Derived.Test.YtfajiphkncipoaaGreatDoorJh
set_option linter.unusedVariables false
set_option maxRecDepth 100000
namespace Go.Proofs.YtfajiphkncipoaaGreatDoor
open Go Go.Proofs Go.Proofs.Tryz
def zDF:Hint:=⟨[],[],[(1,hs 7 [ec 1 [3],ec 4 [6]])]⟩
def qh:Hint:=⟨[hc 4 [2,3,4,5]],[],[(6,hs 6 [ec 1 [16]])]⟩
def zAv:Hint:=⟨[],[],[(1,hs 2 [ec 1 [8]]),(3,hs 4 [ec 1 [10]]),(4,hs 8 [ec 1 [13]]),(5,hs 9 [ec 2 [18,19]]),(6,hs 10 [ec 4 [26]])]⟩
def xp (E:Env) (Q:QT [.ag 9,.sl 0,.i,.i]) (N0:Nat) (n4 n5:Int) (I:Option Addr) (J:List D) (O:Nat) (U Y aa:Int) (ab ac:ByteArray) (ae ah:Int) (ai:Option Addr) (aj:List D) (ak:Nat) (al:Int) (am:Option Addr) (ao:List D) (aq:Nat) (au:Option Addr) (aw:List D) (ax:Nat) (y2:D) (N:Nat):Prop:=AT prog 31 [.ag 9,.sl 0,.i,.i] Q N0 (.io E [.var [.sv none 0 [] 0,.int .i64 0,.int .i64 0]]) (zD prog 31 4) ⟨an 2 (.pb 1 0 0 0::.pb 2 0 0 0::.int .i64 n4::.int .i64 n5::an 15 []),[.var [.sv I 0 J O,.int .i64 U,.int .i64 Y],.var [.int .i64 aa,.str ab,.str ac,.int .i64 ae,.int .i64 ah,.sv ai 2 aj ak,.int .i64 al,.sv am 2 ao aq,.sv au 9 aw ax],.vd y2 9],N,some (yr E 0 [.var [.sv none 0 [] 0,.int .i64 0,.int .i64 0]],[])⟩
theorem zC9 (N:Nat) (I:D) (Q:QT [.bool]) (h :
Bel N I->kB 38 [.dg 9 I] N (λb a=>Br b (kB 39 [.dg 9 I] a (λa b=>uP b (Q a))) (uP a (Q false)))):ACalls prog 11 [.bool] [PV.dg 9 I] N Q:=
 eE zDF h
theorem zD5 (N:Nat) (a0:Option Addr) (e0:List D) (c0:Nat) (Q:QT [.ag 9]) (h :
Bel N (D.sl a0 0 e0 c0)->∀ d,N<=d->ACalls prog 28 [.cu] [.sv a0 0 e0 c0] d (λa c e n f g=>d<=g->cB 29 [.j 4] a c e n f g (λb a
 c d e f g=>Br b (cA 9 30 [] a c d e f g (λx _ _ _ _ _ a=>uP a (Q x))) (cA 9 31 [] a c d e f g (λa _
 _ _ _ _ b=>uP b (Q a)))))):ACalls prog 8 [.ag 9] [PV.sv a0 0 e0 c0] N Q:=
  eE H0 h
theorem zA9 (N:Nat) (a0:Option Addr) (e0:List D) (c0:Nat) (Q:QT [.bool]) (h :
Bel N (D.sl a0 0 e0 c0)->kB 7 [.sv a0 0 e0 c0] N (λb c=>Br b (uP c (Q true)) (kA 9 8 [.sv a0 0 e0 c0] c (λx b=>∀ c,b<=c->ACalls prog 9
 [.ag 9,.i] [.dg 9 x] c (λb n d=>c<=d->Bel d b->(0=0/\0=0)/\∀ a b,d<=b->Fresh N b a [D.ag []]->kAB 2 10 [.sv a 4 [] 0,.dg 9 x,
 .j 0] b (λ_ a b=>Br (!a) (uP b (Q true)) (kB 11 [.dg 9 x] b (λa b=>uP b (Q (a==(n==0))))))))))):ACalls prog 3 [.bool] [PV.sv a0 0 e0 c0] N Q:=
  eE zAv h
theorem zAu (N:Nat) (I:Option Addr) (J:List D) (O:Nat) (U Y:Int) (Q:QT [(Sh.ag 9),(Sh.sl 0),(Sh.int IntKind.i64),(Sh.int IntKind.i64)]) (h:∀ E:Env,
Bel N (D.sl I 0 J O)->cA 9 57 [] I J O U Y N (λx a b c n d e=>∀ f,e<=f->BCalls prog 42 [.i,.sl
 0,.i,.i] [.pb 0 0 0 0,.j 5] [Bx.var [.sv a 0 b c,.j n,.j d]] f (λa b c d e g h=>f<=h->Bel h (D.sl b 0 c d) ->
 xp E Q N a 0 b c d e g 0 b0 b0 0 0 none [] 0 0 none [] 0 none [] 0 x h))):BCalls prog 31 [(Sh.ag 9),(Sh.sl 0),(Sh.int IntKind.i64),(Sh.int IntKind.i64)] [.pb 0 0 0 0] [.var [.sv I 0 J O,.int .i64 U,.int .i64 Y]] N Q:=
  bE qh h
theorem sK (E:Env) (Q:QT [(Sh.ag 9),(Sh.sl 0),(Sh.int IntKind.i64),(Sh.int IntKind.i64)]) (N0:Nat) (n4 n5:Int) (I:Option Addr) (J:List D) (O:Nat) (U Y aa:Int) (ab ac:ByteArray) (ae ah:Int) (ai:Option Addr) (aj:List D) (ak:Nat) (al:Int) (am:Option Addr) (ao:List D) (aq:Nat) (au:Option Addr) (aw:List D) (ax:Nat) (y2:D) (N:Nat) (h :
Br (decide (n5<n4)) (∀ a,N<=a->ACalls prog 12 [.ag 9,.i] [.dg 9 y2] a (λx _ b=>a<=b->Bel b x->xp E Q N0 n4
 (IntKind.i64.wrap (n5+1)) I J O U Y aa ab ac ae ah ai aj ak al am ao aq au aw ax x b)) (zQ E [.var [.sv none 0
 [] 0,.j 0,.j 0]]/\uP N (Q y2 I J O U Y))):xp E Q N0 n4 n5 I J O U Y aa ab ac ae ah ai aj ak al am ao aq au aw ax y2 N:=
  hE qh h
end Go.Proofs.YtfajiphkncipoaaGreatDoor
