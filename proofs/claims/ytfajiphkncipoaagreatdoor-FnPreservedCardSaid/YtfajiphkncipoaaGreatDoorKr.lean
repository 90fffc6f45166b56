/- Printed by gen.py: what the functions come to. -/
import Derived.Test.YtfajiphkncipoaaGreatDoorJh
set_option linter.unusedVariables false
set_option maxRecDepth 100000
namespace Go.Proofs.YtfajiphkncipoaaGreatDoor
open Go Go.Proofs Go.Proofs.Tryz
def rF:Hint:=⟨[hc 4 [2,3,5]],[],[(1,hs 51 [ec 31 [34,36],ec 39 [42,44]]),(6,[en 0,en 1,en 2,en 3,en 4,en 5,en 6,en 7,en 8,en 9,ec 10 [68,73],en 11])]⟩
def pL:Hint:=⟨[hc 4 [2,3,4,5]],[],[(6,hs 6 [ec 1 [16]])]⟩
def zAQ:Hint:=⟨[],[],[(1,hs 2 [ec 1 [13]]),(3,hs 4 [ec 1 [15]]),(4,hs 8 [ec 1 [18]]),(5,hs 8 [ec 1 [23]]),(6,hs 3 [ec 1 [27]]),(7,hs 26 [ec 6 [33,34],ec 22 [49,50]]),(9,hs 9 [ec 2 [56,57]]),(10,hs 9 [ec 2 [62,63]]),(11,hs 11 [ec 7 [72,73]])]⟩
def xO (Q:QT [.bool]) (N0:Nat) (I:Int) (J O:D) (N:Nat):Prop:=AT prog 14 [.bool] Q N0 .ord (zE prog 14 4) ⟨an 2 (.pb 0 0 0 0::.pb 1 0 0 0::an 1 (.int .i64 I::an 70 [])),[.vd J 9,.vd O 9],N,none⟩
def wC (E:Env) (Q:QT [.ag 9,.sl 0,.i,.i]) (N0:Nat) (n4 n5:Int) (I:Option Addr) (J:List D) (O:Nat) (U Y aa:Int) (ab ac:ByteArray) (ae ah:Int) (ai:Option Addr) (aj:List D) (ak:Nat) (al:Int) (am:Option Addr) (ao:List D) (aq:Nat) (au:Option Addr) (aw:List D) (ax:Nat) (y2:D) (N:Nat):Prop:=AT prog 31 [.ag 9,.sl 0,.i,.i] Q N0 (.io E [.var [.sv none 0 [] 0,.int .i64 0,.int .i64 0]]) (zE prog 31 4) ⟨an 2 (.pb 1 0 0 0::.pb 2 0 0 0::.int .i64 n4::.int .i64 n5::an 15 []),[.var [.sv I 0 J O,.int .i64 U,.int .i64 Y],.var [.int .i64 aa,.str ab,.str ac,.int .i64 ae,.int .i64 ah,.sv ai 2 aj ak,.int .i64 al,.sv am 2 ao aq,.sv au 9 aw ax],.vd y2 9],N,some (xB E 0 [.var [.sv none 0 [] 0,.int .i64 0,.int .i64 0]],[])⟩
theorem zCy (N:Nat) (I J:D) (Q:QT [.bool]) (h :
Bel N I->Bel N J->∃ n:Int,(I.cell 0)=D.j n/\∃ d:Int,(J.cell 0)=D.j d/\Br (bne n d) (uP N (Q false)) (∃ s,(I.cell 1)=D.t s/\∃
 d,(J.cell 1)=D.t d/\Br (!(ByteArray.toList s==ByteArray.toList d)) (uP N (Q false)) (∃ d,(I.cell 2)=D.t d/\∃ e,(J.cell 2)=D.t e /\
 Br (!(ByteArray.toList d==ByteArray.toList e)) (uP N (Q false)) (∃ d:Int,(I.cell 3)=D.j d/\∃ e:Int,(J.cell 3)=D.j e/\Br (bne d
 e) (uP N (Q false)) (kB 17 [.dg 2 (D.sub I 4 2),.dg 2 (D.sub J 4 2)] N (λb d=>Br (!b) (uP d (Q false)) (kB 17 [.dg 2 (D.sub I 6 2),.dg 2 (D.sub J
 6 2)] d (λb d=>Br (!b) (uP d (Q false)) (∃ a b,∃ c:Nat,(I.cell 8)=D.sl a 9 b c/\∃ a c,∃ e:Nat,(J.cell 8)=D.sl a 9 c e
 /\ Br (bne (b.length:Int) (c.length:Int)) (uP d (Q false)) (xO Q N 0 I J d)))))))))):ACalls prog 14 [.bool] [PV.dg 9 I,PV.dg 9 J] N Q:=
  eE rF h
theorem zEg (N:Nat) (a0:Option Addr) (e0:List D) (c0:Nat) (Q:QT [.ag 9]) (h :
Bel N (D.sl a0 0 e0 c0)->∀ d,N<=d->ACalls prog 28 [.cu] [.sv a0 0 e0 c0] d (λa c e n f g=>d<=g->cB 29 [.j 4] a c e n f g (λb a
 c d e f g=>Br b (cA 9 30 [] a c d e f g (λx _ _ _ _ _ a=>uP a (Q x))) (cA 9 31 [] a c d e f g (λa _
 _ _ _ _ b=>uP b (Q a)))))):ACalls prog 8 [.ag 9] [PV.sv a0 0 e0 c0] N Q:=
  eE H0 h
theorem pc (N:Nat) (a0:Option Addr) (e0:List D) (c0:Nat) (Q:QT [.int .i64]) (h :
Bel N (D.sl a0 0 e0 c0)->∀ b,N<=b->ACalls prog 28 [.cu] [.sv a0 0 e0 c0] b (fun a c d n e f=>b<=f->∀ b,f<=b->BCalls prog 42 [.i,.sl
 0,.i,.i] [.pb 0 0 0 0,.j 11] [Bx.var [.sv a 0 c d,.j n,.j e]] b (fun a c d e _ _ f=>b<=f->Bel f (D.sl c 0 d e)->uP f (Q
 (IntKind.i64.wrap (a - 1)))))):ACalls prog 13 [.int .i64] [PV.sv a0 0 e0 c0] N Q:=
  eE H0 h
theorem zEO (N:Nat) (n0:Int) (Q:QT [.str]) (h :
kB 43 [.j n0,.j 0,.j 8] N (λb a=>Br (!b) (uP a (Q (bytes [63]))) ((0<=n0/\n0<9/\(0+n0.toNat:Nat)<9)/\(0+n0.toNat:Nat)<9/\∃ s,
 List.getD [D.t (bytes [110,111,110,101]),D.t (bytes [111,112]),D.t (bytes [105,102]),D.t (bytes [97,112,112]),D.t (bytes [114,101,99]),D.t (bytes
 [108,101,116]),D.t (bytes [115,112,108,105,99,101]),D.t (bytes [114,117,110]),D.t (bytes [108,105,102,116])] (0+n0.toNat:Nat) default=D.t s
 /\ uP a (Q s)))):ACalls prog 15 [.str] [PV.int .i64 n0] N Q:=
  eE H0 h
theorem zDe (N:Nat) (n0:Int) (Q:QT [.str]) (h :
kB 44 [.j n0,.j 0,.j 8] N (λb a=>Br (!b) (uP a (Q (bytes [63]))) ((0<=n0/\n0<9/\(0+n0.toNat:Nat)<9)/\(0+n0.toNat:Nat)<9/\∃ s,
 List.getD [D.t (bytes [110,111,110,101]),D.t (bytes [111,112]),D.t (bytes [105,102]),D.t (bytes [97,112,112]),D.t (bytes [114,101,99]),D.t (bytes
 [108,101,116]),D.t (bytes [115,112,108,105,99,101]),D.t (bytes [114,117,110]),D.t (bytes [108,105,102,116])] (0+n0.toNat:Nat) default=D.t s
 /\ uP a (Q s)))):ACalls prog 16 [.str] [PV.int .i64 n0] N Q:=
  eE H0 h
theorem zAu (N:Nat) (a0:Option Addr) (e0:List D) (c0:Nat) (Q:QT [.bool]) (h :
Bel N (D.sl a0 0 e0 c0)->kB 7 [.sv a0 0 e0 c0] N (fun b c=>Br b (uP c (Q true)) (kA 9 8 [.sv a0 0 e0 c0] c (fun x b=>∀ c,b<=c->ACalls prog 9
 [.ag 9,.i] [.dg 9 x] c (fun b n d=>c<=d->Bel d b->∀ c,d<=c->ACalls prog 12 [.ag 9,.i] [.dg 9 x] c (fun d e f=>c<=f->Bel f d
 -> kI 13 [.sv a0 0 e0 c0] f (fun c f=>Br (bne n e) (uP f (Q false)) (kB 14 [.dg 9 b,.dg 9 d] f (fun d e=>Br (!d) (uP e (Q false)) (kS
 15 [.j c] e (fun s d=>kS 16 [.j c] d (fun c d=>Br (!(ByteArray.toList s==ByteArray.toList c)) (uP d (Q false)) (Br (n==0) (kB 14 [.dg
 9 b,.dg 9 x] d (fun c d=>Br (!c) (uP d (Q false)) ((0=0/\0=0)/\∀ a c,d<=c->Fresh N c a [D.ag []]->kAB 2 10 [.sv a 4 [] 0,.dg 9
 x,.j 0] c (fun a c d=>(0=0/\0=0)/\∀ e f,d<=f->Fresh N f e [D.ag []]->kAB 2 10 [.sv e 4 [] 0,.dg 9 b,.j 0] f (fun b
 d e=>Br (!c) (uP e (Q true)) (Br d (kB 17 [.dg 2 a,.dg 2 b] e (fun a b=>uP b (Q a))) (uP e (Q false)))))))) ((0=0/\0=0)/\∀
 a c,d<=c->Fresh N c a [D.ag []]->kAB 2 10 [.sv a 4 [] 0,.dg 9 x,.j 0] c (fun a c d=>(0=0/\0=0)/\∀ e f,d<=f->Fresh
 N f e [D.ag []]->kAB 2 10 [.sv e 4 [] 0,.dg 9 b,.j 0] f (fun b d e=>Br (!c) (uP e (Q true)) (Br d (kB 17 [.dg 2 a,.dg 2 b] e
 (fun a b=>uP b (Q a))) (uP e (Q false))))))))))))))))))):ACalls prog 4 [.bool] [PV.sv a0 0 e0 c0] N Q:=
  eE zAQ h
theorem tH (Q:QT [.bool]) (N0:Nat) (I:Int) (J O:D) (N:Nat) (h :
∃ a d,∃ c:Nat,(J.cell 8)=D.sl a 9 d c/\Br (decide (I<(d.length:Int))) (∃ a c,∃ d:Nat,(J.cell 8)=D.sl a 9 c d/\(0<=I
 /\ I<(c.length:Int))/\∃ a d,∃ e:Nat,(O.cell 8)=D.sl a 9 d e/\(0<=I/\I<(d.length:Int))/\kB 14 [.dg 9 (List.getD c
 I.toNat default),.dg 9 (List.getD d I.toNat default)] N (λb a=>Br (!b) (uP a (Q false)) (xO Q N0 (IntKind.i64.wrap (I+1)) J O
 a))) (uP N (Q true))):xO Q N0 I J O N:=
  hE rF h
theorem zBU (N:Nat) (I:Option Addr) (J:List D) (O:Nat) (U Y:Int) (Q:QT [(Sh.ag 9),(Sh.sl 0),(Sh.int IntKind.i64),(Sh.int IntKind.i64)]) (h:∀ E:Env,
Bel N (D.sl I 0 J O)->cA 9 57 [] I J O U Y N (λx a b c n d e=>∀ f,e<=f->BCalls prog 42 [.i,.sl
 0,.i,.i] [.pb 0 0 0 0,.j 5] [Bx.var [.sv a 0 b c,.j n,.j d]] f (λa b c d e g h=>f<=h->Bel h (D.sl b 0 c d) ->
 wC E Q N a 0 b c d e g 0 b0 b0 0 0 none [] 0 0 none [] 0 none [] 0 x h))):BCalls prog 31 [(Sh.ag 9),(Sh.sl 0),(Sh.int IntKind.i64),(Sh.int IntKind.i64)] [.pb 0 0 0 0] [.var [.sv I 0 J O,.int .i64 U,.int .i64 Y]] N Q:=
  bE pL h
theorem sm (E:Env) (Q:QT [(Sh.ag 9),(Sh.sl 0),(Sh.int IntKind.i64),(Sh.int IntKind.i64)]) (N0:Nat) (n4 n5:Int) (I:Option Addr) (J:List D) (O:Nat) (U Y aa:Int) (ab ac:ByteArray) (ae ah:Int) (ai:Option Addr) (aj:List D) (ak:Nat) (al:Int) (am:Option Addr) (ao:List D) (aq:Nat) (au:Option Addr) (aw:List D) (ax:Nat) (y2:D) (N:Nat) (h :
Br (decide (n5<n4)) (∀ a,N<=a->ACalls prog 12 [.ag 9,.i] [.dg 9 y2] a (λx _ b=>a<=b->Bel b x->wC E Q N0 n4
 (IntKind.i64.wrap (n5+1)) I J O U Y aa ab ac ae ah ai aj ak al am ao aq au aw ax x b)) (zT E [.var [.sv none 0
 [] 0,.j 0,.j 0]]/\uP N (Q y2 I J O U Y))):wC E Q N0 n4 n5 I J O U Y aa ab ac ae ah ai aj ak al am ao aq au aw ax y2 N:=
  hE pL h
end Go.Proofs.YtfajiphkncipoaaGreatDoor
