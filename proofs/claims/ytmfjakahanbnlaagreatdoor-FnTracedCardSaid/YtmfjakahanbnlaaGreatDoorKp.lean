/- Printed by gen.py: what the functions come to. -/
import Derived.Test.YtmfjakahanbnlaaGreatDoorKt
set_option linter.unusedVariables false
set_option maxRecDepth 100000
namespace Go.Proofs.YtmfjakahanbnlaaGreatDoor
open Go Go.Proofs Go.Proofs.Tryz
def zCA:Hint:=⟨[],[],[(1,hs 3 [ec 1 [3]]),(3,hs 3 [ec 1 [6]])]⟩
def zBG:Hint:=⟨[hc 9 [0,6,7,8,9]],[],[]⟩
def zAF:Hint:=⟨[],[],[]⟩
def zIu:Hint:=⟨[],[],[(1,[en 0,en 1,en 2,en 3,en 4,en 5,en 6,en 7,en 8,en 9,en 10,en 11,en 12,en 13,en 14,en 15,en 16,en 17,en 18,en 19,en 20,en 21,en 22,en 23,en 24,en 25,en 26,en 27,en 28,en 29,en 30,en 31,en 32,en 33,en 34,en 35,en 36,en 37,en 38])]⟩
def zIp:Hint:=⟨[],[],[]⟩
def zAI:Hint:=⟨[hc 2 [0,3]],[],[(2,[en 0,en 1,en 2,en 3,en 4,en 5,en 6,en 7,en 8,en 9,en 10,en 11,en 12,en 13,en 14,en 15,en 16,en 17,en 18,en 19,en 20,en 21,en 22,en 23,en 24,en 25,en 26,en 27,en 28,en 29,en 30,en 31,en 32,en 33,en 34,en 35,en 36,en 37,en 38,en 39,en 40,en 41,en 42,en 43,en 44,en 45,en 46,en 47,en 48,en 49,en 50,en 51,en 52,en 53,en 54,en 55,en 56,en 57]),(4,[en 0,en 1,en 2,en 3,en 4,en 5,en 6,en 7,en 8,en 9,en 10])]⟩
def zIe:Hint:=⟨[],[],[]⟩
def zEE:Hint:=⟨[],[],[]⟩
def sC:Hint:=⟨[hc 2 [0,2,3,5,8,9]],[],[(6,[en 0,en 1,en 2,en 3,eh 4,en 5,eh 6,en 7,eh 8])]⟩
def zKR:Hint:=⟨[],[],[(9,hs 5 [ec 3 [27]])]⟩
def zIA:Hint:=⟨[],[],[(3,hs 5 [ec 3 [14]]),(4,[en 0,en 1,en 2,en 3,en 4,en 5,en 6,en 7,en 8,en 9,en 10,en 11,en 12,en 13,en 14,en 15,en 16,en 17,en 18,eh 19]),(5,[en 0,en 1,en 2,en 3,en 4,en 5,en 6,en 7,en 8,en 9,en 10,en 11,en 12,en 13,en 14,en 15,en 16,en 17,en 18,eh 19,en 20,en 21]),(9,[en 0,en 1,en 2,en 3,en 4,en 5,en 6,en 7,en 8,en 9,en 10,en 11,en 12,en 13,en 14,eh 15]),(11,hs 5 [ec 3 [87]])]⟩
def zHq:Hint:=⟨[],[],[(7,hs 5 [ec 3 [21]]),(11,hs 5 [ec 3 [33]]),(15,hs 5 [ec 3 [46]]),(17,hs 5 [ec 3 [53]]),(19,hs 5 [ec 3 [60]]),(21,hs 5 [ec 3 [67]]),(22,hs 7 [ec 5 [73]])]⟩
def zID:Hint:=⟨[],[],[(1,[en 0,en 1,en 2,en 3,en 4,en 5,en 6,en 7,en 8,en 9,en 10,en 11,en 12,en 13,en 14,en 15,en 16,en 17,en 18,en 19,en 20,en 21,en 22,eh 23]),(16,[en 0,en 1,en 2,en 3,en 4,en 5,en 6,en 7,en 8,en 9,en 10,en 11,en 12,en 13,en 14,en 15,en 16,en 17,en 18,en 19,en 20,en 21,en 22])]⟩
def zCi:Hint:=⟨[],[],[(3,hs 19 [ec 15 [25]])]⟩
def zx (Q:QT [.int .i64,.bool]) (N0:Nat) (I:ByteArray) (J:Bool) (O:ByteArray) (U Y:Int) (N:Nat):Prop:=AT prog 308 [.int .i64,.bool] Q N0 .ord (zC prog 308 9) ⟨.str I::an 5 (.bool J::.str O::.int .i64 U::.int .i64 Y::an 53 []),[],N,none⟩
def yJ (E:Env) (Q:QT [Sh.str,Sh.str,(Sh.int IntKind.i64),Sh.bool]) (N0:Nat) (U:Int) (I:ByteArray) (J:Int) (O:Bool) (N:Nat):Prop:=AT prog 287 [Sh.str,Sh.str,(Sh.int IntKind.i64),Sh.bool] Q N0 (.io E [.var [.str (bytes []),.int .i64 0,.bool false]]) (zC prog 287 2) ⟨.pb 0 0 0 0::an 2 (.int .i64 U::an 80 []),[.var [.str I,.int .i64 J,.bool O]],N,some (yu E 0 [.var [.str (bytes []),.int .i64 0,.bool false]],[])⟩
def rW (E:Env) (Q:QT [(Sh.ag 9),Sh.str,(Sh.int IntKind.i64),Sh.bool]) (N0:Nat) (n2 n3 n9:Int) (I:ByteArray) (J:Int) (O:Bool) (y1:D) (U:Int) (Y aa:ByteArray) (ab ac:Int) (ae:Option Addr) (ah:List D) (ai:Nat) (aj:Int) (ak:Option Addr) (al:List D) (am:Nat) (ao:Option Addr) (aq:List D) (au:Nat) (N:Nat):Prop:=AT prog 298 [(Sh.ag 9),Sh.str,(Sh.int IntKind.i64),Sh.bool] Q N0 (.io E [.var [.str (bytes []),.int .i64 0,.bool false]]) (zC prog 298 2) ⟨.pb 0 0 0 0::an 1 (.int .i64 n2::.int .i64 n3::an 1 (.pb 1 0 0 0::an 2 (.pb 2 0 0 0::.int .i64 n9::an 27 []))),[.var [.str I,.int .i64 J,.bool O],.vd y1 9,.var [.int .i64 U,.str Y,.str aa,.int .i64 ab,.int .i64 ac,.sv ae 2 ah ai,.int .i64 aj,.sv ak 2 al am,.sv ao 9 aq au]],N,some (yu E 0 [.var [.str (bytes []),.int .i64 0,.bool false]],[])⟩
def zV (E:Env) (Q:QT [(Sh.ag 9),Sh.str,(Sh.int IntKind.i64),Sh.bool]) (N0:Nat) (n2 n3 n9:Int) (I:ByteArray) (J:Int) (O:Bool) (U Y aa ab ac ae ah ai:D) (aj ak:Nat) (al:Int) (am ao:ByteArray) (aq au:Int) (aw:Option Addr) (ax:List D) (ay:Nat) (az:Int) (a1:Option Addr) (a6:List D) (a7:Nat) (a8:Option Addr) (ba:List D) (bb:Nat) (r3:List D) (q3:Nat) (N:Nat):Prop:=AT prog 298 [(Sh.ag 9),Sh.str,(Sh.int IntKind.i64),Sh.bool] Q N0 (.io E [.var [.str (bytes []),.int .i64 0,.bool false]]) (zC prog 298 2) ⟨.pb 0 0 0 0::an 1 (.int .i64 n2::.int .i64 n3::an 1 (.pb 1 0 0 0::an 2 (.pb 2 0 0 0::.int .i64 n9::an 27 []))),[.var [.str I,.int .i64 J,.bool O],.var [.dc U,.dc Y,.dc aa,.dc ab,.dc ac,.dc ae,.dc ah,.dc ai,.sb 3 9 0 aj ak],.var [.int .i64 al,.str am,.str ao,.int .i64 aq,.int .i64 au,.sv aw 2 ax ay,.int .i64 az,.sv a1 2 a6 a7,.sv a8 9 ba bb],.arr 35 9 r3 q3],N,some (yu E 0 [.var [.str (bytes []),.int .i64 0,.bool false]],[])⟩
theorem zB0 (N:Nat) (I:D) (Q:QT [.str]) (h :
Bel N I->∀ a,N<=a->ACalls prog 288 [.bool] [.dg 9 I] a (λb c=>a<=c->Br (!b) (∀ a,c<=a->Q (bytes []) a) (∀ a,c<=a->ACalls
 prog 119 [.str] [.dg 9 I] a (λs b=>a<=b->∀ a,b<=a->Q s a)))):ACalls prog 258 [.str] [PV.dg 9 I] N Q:=
  eE (H:=zCA) (by kernel_rfl) (by kernel_rfl) h
theorem zIK (N:Nat) (s0:ByteArray) (n1:Int) (Q:QT [.int .i64,.bool]) (h :
Br (decide ((s0.size:Int)>0)) (((0:Int)<=(0:Int)/\0<(s0.size:Int))/\Br ((UInt8.toNat (Array.getD (ByteArray.data s0) 0 (OfNat.ofNat 0)):Int) ==
 45) (((0:Int)<=(1:Int)/\1<=(s0.size:Int)/\(s0.size:Int)<=(s0.size:Int))/\Br (decide ((ByteArray.size (ByteArray.extract s0 1 ((s0.size:Int)).toNat)
 : Int)<1)) (∀ a,N<=a->Q 0 false a) (Br (decide ((ByteArray.size (ByteArray.extract s0 1 ((s0.size:Int)).toNat):Int)>n1)) (∀ a,N<=a->Q 0 false
 a) (zx Q N s0 ((UInt8.toNat (Array.getD (ByteArray.data s0) 0 (OfNat.ofNat 0)):Int)==45) (ByteArray.extract s0 1 ((s0.size:Int)).toNat) 0 0
 N))) (Br (decide ((s0.size:Int)<1)) (∀ a,N<=a->Q 0 false a) (Br (decide ((s0.size:Int)>n1)) (∀ a,N<=a->Q 0 false a) (zx Q
 N s0 ((UInt8.toNat (Array.getD (ByteArray.data s0) 0 (OfNat.ofNat 0)):Int)==45) s0 0 0 N)))) (Br (decide ((s0.size:Int)<1)) (∀ a,N<=a->Q 0 false a)
 (Br (decide ((s0.size:Int)>n1)) (∀ a,N<=a->Q 0 false a) (zx Q N s0 false s0 0 0 N)))):ACalls prog 308 [.int .i64,.bool] [PV.str s0,PV.int .i64 n1] N Q:=
  eE (H:=zBG) (by kernel_rfl) (by kernel_rfl) h
theorem zA0 (N:Nat) (s0:ByteArray) (Q:QT [.int .i64,.bool]) (h :
∀ a,N<=a->ACalls prog 308 [.int .i64,.bool] [.str s0,.int .i64 6] a (fun n b c=>a<=c->Br (!b) (∀ a,c<=a->Q 0 false a) (Br (decide
 (n<0)) (∀ a,c<=a->Q 0 false a) (∀ a,c<=a->Q n true a)))):ACalls prog 301 [.int .i64,.bool] [PV.str s0] N Q:=
  eE (H:=zAF) (by kernel_rfl) (by kernel_rfl) h
theorem zCp (N:Nat) (I:ByteArray) (Q:QT [.ag 9,.bool]) (h :
∀ a,N<=a->BCalls prog 257 [.ag 9,.str,.int .i64,.bool] [.pb 0 0 0 0,.int .i64 1] [Bx.var [.str I,.int .i64 0,.bool false]] a (λx _ n b c=>
 a<=c->Bel c x->Br b (∀ a,c<=a->Q (D.ag [D.lit (.int .i64 0),D.lit (.string (bytes [])),D.lit (.string (bytes [])),D.lit (.int .i64 0),D.lit
 (.int .i64 0),D.sl Option.none 2 [] 0,D.lit (.int .i64 0),D.sl Option.none 2 [] 0,D.sl Option.none 9 [] 0]) false a) (Br (bne n (I.size:Int)) (∀ a,c
 <= a->Q (D.ag [D.lit (.int .i64 0),D.lit (.string (bytes [])),D.lit (.string (bytes [])),D.lit (.int .i64 0),D.lit (.int .i64 0),D.sl Option.none 2 [] 0,
 D.lit (.int .i64 0),D.sl Option.none 2 [] 0,D.sl Option.none 9 [] 0]) false a) (∀ a,c<=a->ACalls prog 258 [.str] [.dg 9 x] a (λb c=>a <=
 c->Br (!(ByteArray.toList b==ByteArray.toList I)) (∀ a,c<=a->Q (D.ag [D.lit (.int .i64 0),D.lit (.string (bytes [])),D.lit (.string (bytes [])),
 D.lit (.int .i64 0),D.lit (.int .i64 0),D.sl Option.none 2 [] 0,D.lit (.int .i64 0),D.sl Option.none 2 [] 0,D.sl Option.none 9 [] 0]) false a) (∀ a,c
 <= a->Q x true a)))))):ACalls prog 211 [.ag 9,.bool] [PV.str I] N Q:=
  eE (H:=zCi) (by kernel_rfl) (by kernel_rfl) h
theorem rz (Q:QT [.int .i64,.bool]) (N0:Nat) (U:ByteArray) (Y:Bool) (J:ByteArray) (O I:Int) (N:Nat) (h :
Br (decide (I<(J.size:Int))) ((0<=I/\I<(J.size:Int))/\Br (decide ((UInt8.toNat (Array.getD (ByteArray.data J) I.toNat (OfNat.ofNat 0)):Int) <
 48)) (∀ a,N<=a->Q 0 false a) ((0<=I/\I<(J.size:Int))/\Br (decide ((UInt8.toNat (Array.getD (ByteArray.data J) I.toNat (OfNat.ofNat 0)):Int)
 > 57)) (∀ a,N<=a->Q 0 false a) ((0<=I/\I<(J.size:Int))/\zx Q N0 U Y J (IntKind.i64.wrap (IntKind.i64.wrap (10*O)+IntKind.i64.wrap
 (IntKind.u8.wrap ((UInt8.toNat (Array.getD (ByteArray.data J) I.toNat (OfNat.ofNat 0)):Int) - 48)))) (IntKind.i64.wrap (I+1)) N))) (Br Y (∀ a,N<=a
 -> ACalls prog 188 [.str] [.int .i64 (IntKind.i64.wrap (0 - O))] a (λs b=>a<=b->Br (!(ByteArray.toList s==ByteArray.toList U)) (∀ a,b<=a
 -> Q 0 false a) (∀ a,b<=a->Q (IntKind.i64.wrap (0 - O)) true a))) (∀ a,N<=a->ACalls prog 188 [.str] [.int .i64 O] a (λb c=>a <=
 c->Br (!(ByteArray.toList b==ByteArray.toList U)) (∀ a,c<=a->Q 0 false a) (∀ a,c<=a->Q O true a))))):zx Q N0 U Y J O I N:=
  hE (H:=zBG) (by kernel_rfl) h
theorem sa (N:Nat) (n1:Int) (I:ByteArray) (J:Int) (O:Bool) (Q:QT [(Sh.ag 9),Sh.str,(Sh.int IntKind.i64),Sh.bool]) (h:∀ E:Env,
Br O (zN E [.var [.str (bytes []),.int .i64 0,.bool false]]/\∀ a,N<=a->Q (D.ag [D.lit (.int .i64 0),D.lit (.string (bytes [])),D.lit (.string (bytes
 [])),D.lit (.int .i64 0),D.lit (.int .i64 0),D.sl Option.none 2 [] 0,D.lit (.int .i64 0),D.sl Option.none 2 [] 0,D.sl Option.none 9 [] 0]) I J true
 a) (Br (decide (n1>20)) (zN E [.var [.str (bytes []),.int .i64 0,.bool false]]/\∀ a,N<=a->Q (D.ag [D.lit (.int .i64 0),D.lit (.string (bytes [])),
 D.lit (.string (bytes [])),D.lit (.int .i64 0),D.lit (.int .i64 0),D.sl Option.none 2 [] 0,D.lit (.int .i64 0),D.sl Option.none 2 [] 0,D.sl Option.none 9 []
 0]) I J true a) (Br (decide (J≥(I.size:Int))) (zN E [.var [.str (bytes []),.int .i64 0,.bool false]]/\∀ a,N<=a->Q (D.ag [D.lit (.int
 .i64 0),D.lit (.string (bytes [])),D.lit (.string (bytes [])),D.lit (.int .i64 0),D.lit (.int .i64 0),D.sl Option.none 2 [] 0,D.lit (.int .i64 0),D.sl Option.none
 2 [] 0,D.sl Option.none 9 [] 0]) I J (decide (J≥(I.size:Int))) a) (∀ c,N<=c->BCalls prog 283 [.bool,.str,.int .i64,.bool] [.pb 0
 0 0 0,.str (bytes [35,116])] [Bx.var [.str I,.int .i64 J,.bool (decide (J≥(I.size:Int)))]] c (λb s n d e=>c<=e->Br b (∀
 a,e<=a->ACalls prog 208 [.ag 9] [.int .i64 1] a (λx b=>a<=b->Bel b x->zN E [.var [.str (bytes []),.int .i64 0,.bool false]]/\∀ a,
 b<=a->Q x s n d a)) (∀ b,e<=b->BCalls prog 283 [.bool,.str,.int .i64,.bool] [.pb 0 0 0 0,.str (bytes [35,102])] [Bx.var [.str s,.int .i64
 n,.bool d]] b (λc d e f g=>b<=g->Br c (∀ a,g<=a->ACalls prog 208 [.ag 9] [.int .i64 0] a (λb c=>a<=c
 -> Bel c b->zN E [.var [.str (bytes []),.int .i64 0,.bool false]]/\∀ a,c<=a->Q b d e f a)) (∀ b,g<=b->BCalls prog 283 [.bool,
 .str,.int .i64,.bool] [.pb 0 0 0 0,.str (bytes [126])] [Bx.var [.str d,.int .i64 e,.bool f]] b (λc d e f g=>b<=g->Br c (∀
 b,g<=b->BCalls prog 257 [.ag 9,.str,.int .i64,.bool] [.pb 0 0 0 0,.int .i64 (IntKind.i64.wrap (n1+1))] [Bx.var [.str d,.int .i64 e,.bool
 f]] b (λc d e f g=>b<=g->Bel g c->(1=([c]).length/\1=1)/\(1=([c]).length/\1=1)/\(1=([c]).length/\1=1) /\
 ∀ a b,g<=b->Fresh N b a [D.ag [c],D.sl Option.none 2 [] 0,D.sl Option.none 2 [] 0]->zN E [.var [.str (bytes []),.int .i64 0,.bool false]] /\
 ∀ g,b<=g->Q (D.ag [D.lit (.int .i64 11),D.lit (.string (bytes [])),D.lit (.string (bytes [])),D.lit (.int .i64 0),D.lit (.int .i64 0),D.sl Option.none
 2 [] 0,D.lit (.int .i64 0),D.sl Option.none 2 [] 0,D.sl a 9 [c] 1]) d e f g)) (∀ a,g<=a->BCalls prog 283 [.bool,.str,.int .i64,.bool]
 [.pb 0 0 0 0,.str (bytes [60])] [Bx.var [.str d,.int .i64 e,.bool f]] a (λb c d e f=>a<=f->Br b (∀ a,f<=a->BCalls
 prog 257 [.ag 9,.str,.int .i64,.bool] [.pb 0 0 0 0,.int .i64 (IntKind.i64.wrap (n1+1))] [Bx.var [.str c,.int .i64 d,.bool e]] a (λb c d
 e f=>a<=f->Bel f b->∀ a,f<=a->BCalls prog 284 [.str,.int .i64,.bool] [.pb 0 0 0 0,.str (bytes [62])] [Bx.var [.str c,.int
 .i64 d,.bool e]] a (λc d e f=>a<=f->(1=([b]).length/\1=1)/\(1=([b]).length/\1=1)/\(1=([b]).length/\1=1)/\(1
 = ([b]).length/\1=1)/\(1=([b]).length/\1=1)/\∀ a g,f<=g->Fresh N g a [D.ag [b],D.sl Option.none 2 [] 0,D.sl Option.none 2 []
 0]->zN E [.var [.str (bytes []),.int .i64 0,.bool false]]/\∀ f,g<=f->Q (D.ag [D.lit (.int .i64 10),D.lit (.string (bytes [])),D.lit (.string (bytes
 [])),D.lit (.int .i64 0),D.lit (.int .i64 0),D.sl Option.none 2 [] 0,D.lit (.int .i64 0),D.sl Option.none 2 [] 0,D.sl a 9 [b] 1]) c d e f)))
 (∀ a,f<=a->BCalls prog 283 [.bool,.str,.int .i64,.bool] [.pb 0 0 0 0,.str (bytes [40])] [Bx.var [.str c,.int .i64 d,.bool e]] a (λb
 c d e f=>a<=f->Br b (∀ a,f<=a->BCalls prog 285 [.ag 9,.str,.int .i64,.bool] [.pb 0 0 0 0,.int .i64 (IntKind.i64.wrap (n1 +
 1))] [Bx.var [.str c,.int .i64 d,.bool e]] a (λb c d e f=>a<=f->Bel f b->zN E [.var [.str (bytes []),.int .i64 0,.bool
 false]]/\∀ a,f<=a->Q b c d e a)) ((0<=d/\d<(c.size:Int))/\Br (decide ((UInt8.toNat (Array.getD (ByteArray.data c) d.toNat
 (OfNat.ofNat 0)):Int)≥48)) ((0<=d/\d<(c.size:Int))/\Br (decide ((UInt8.toNat (Array.getD (ByteArray.data c) d.toNat (OfNat.ofNat 0)):Int)
 <= 57)) (∀ a,f<=a->BCalls prog 286 [.ag 9,.str,.int .i64,.bool] [.pb 0 0 0 0] [Bx.var [.str c,.int .i64 d,.bool e]] a (λb c d
 e f=>a<=f->Bel f b->zN E [.var [.str (bytes []),.int .i64 0,.bool false]]/\∀ a,f<=a->Q b c d e a)) (∀ a,f
 <= a->BCalls prog 287 [.str,.str,.int .i64,.bool] [.pb 0 0 0 0] [Bx.var [.str c,.int .i64 d,.bool e]] a (λb c d e f=>a <=
 f->∀ a,f<=a->ACalls prog 157 [.ag 9] [.str b] a (λb f=>a<=f->Bel f b->zN E [.var [.str (bytes []),.int .i64 0,.bool
 false]]/\∀ a,f<=a->Q b c d e a)))) (∀ a,f<=a->BCalls prog 287 [.str,.str,.int .i64,.bool] [.pb 0 0 0 0] [Bx.var [.str c,
 .int .i64 d,.bool e]] a (λb c d e f=>a<=f->∀ a,f<=a->ACalls prog 157 [.ag 9] [.str b] a (λb f=>a
 <= f->Bel f b->zN E [.var [.str (bytes []),.int .i64 0,.bool false]]/\∀ a,f<=a->Q b c d e a))))))))))))))))):BCalls prog 257 [(Sh.ag 9),Sh.str,(Sh.int IntKind.i64),Sh.bool] [.pb 0 0 0 0,.int .i64 n1] [.var [.str I,.int .i64 J,.bool O]] N Q:=
  bE (H:=zID) (by kernel_rfl) (λE=>by kernel_rfl) h
theorem zCw (N:Nat) (s1 sB0_0:ByteArray) (nB0_1:Int) (bB0_2:Bool) (Q:QT [Sh.bool,Sh.str,(Sh.int IntKind.i64),Sh.bool]) (h:∀ E:Env,
Br bB0_2 (zN E [.var [.str (bytes []),.int .i64 0,.bool false]]/\∀ a,N<=a->Q false sB0_0 nB0_1 bB0_2 a) (Br (decide (IntKind.i64.wrap (nB0_1+(s1.size
 : Int))>(sB0_0.size:Int))) (zN E [.var [.str (bytes []),.int .i64 0,.bool false]]/\∀ a,N<=a->Q false sB0_0 nB0_1 bB0_2 a) ((0<=nB0_1/\nB0_1<=IntKind.i64.wrap
 (nB0_1+(s1.size:Int))/\IntKind.i64.wrap (nB0_1+(s1.size:Int))<=(sB0_0.size:Int))/\Br (!(ByteArray.toList (ByteArray.extract sB0_0 nB0_1.toNat (IntKind.i64.wrap
 (nB0_1+(s1.size:Int))).toNat)==ByteArray.toList s1)) (zN E [.var [.str (bytes []),.int .i64 0,.bool false]]/\∀ a,N<=a->Q false sB0_0 nB0_1 bB0_2 a)
 (zN E [.var [.str (bytes []),.int .i64 0,.bool false]]/\∀ a,N<=a->Q true sB0_0 (IntKind.i64.wrap (nB0_1+(s1.size:Int))) bB0_2 a)))):BCalls prog 283 [Sh.bool,Sh.str,(Sh.int IntKind.i64),Sh.bool] [.pb 0 0 0 0,.str s1] [.var [.str sB0_0,.int .i64 nB0_1,.bool bB0_2]] N Q:=
  bE (H:=zIu) (by kernel_rfl) (fun E=>by kernel_rfl) h
theorem zDA (N:Nat) (U I:ByteArray) (J:Int) (O:Bool) (Q:QT [Sh.str,(Sh.int IntKind.i64),Sh.bool]) (h:∀ E:Env,
Br O (zN E [.var [.str (bytes []),.int .i64 0,.bool false]]/\∀ a,N<=a->Q I J true a) (∀ a,N<=a->BCalls prog 283 [.bool,.str,.int
 .i64,.bool] [.pb 0 0 0 0,.str U] [Bx.var [.str I,.int .i64 J,.bool O]] a (λb s n _ c=>a<=c->zN E [.var [.str (bytes []),.int .i64
 0,.bool false]]/\∀ a,c<=a->Q s n (!b) a))):BCalls prog 284 [Sh.str,(Sh.int IntKind.i64),Sh.bool] [.pb 0 0 0 0,.str U] [.var [.str I,.int .i64 J,.bool O]] N Q:=
  bE (H:=zIp) (by kernel_rfl) (λE=>by kernel_rfl) h
theorem zCl (N:Nat) (n1:Int) (I:ByteArray) (J:Int) (O:Bool) (Q:QT [(Sh.ag 9),Sh.str,(Sh.int IntKind.i64),Sh.bool]) (h:∀ E:Env,
∀ a,N<=a->BCalls prog 283 [.bool,.str,.int .i64,.bool] [.pb 0 0 0 0,.str (bytes [92])] [Bx.var [.str I,.int .i64 J,.bool O]] a (λb
 s n c d=>a<=d->Br b (∀ a,d<=a->BCalls prog 287 [.str,.str,.int .i64,.bool] [.pb 0 0 0 0] [Bx.var [.str s,.int .i64 n,.bool c]] a (fun
 b c d e f=>a<=f->∀ a,f<=a->BCalls prog 284 [.str,.int .i64,.bool] [.pb 0 0 0 0,.str (bytes [58])] [Bx.var [.str c,.int .i64 d,
 .bool e]] a (λc d e f=>a<=f->∀ a,f<=a->BCalls prog 297 [.ag 2,.str,.int .i64,.bool] [.pb 0 0 0 0,.int .i64 1] [Bx.var [.str c,
 .int .i64 d,.bool e]] a (λx c d e f=>a<=f->Bel f x->∀ a,f<=a->BCalls prog 284 [.str,.int .i64,.bool] [.pb 0 0 0 0,.str (bytes
 [46])] [Bx.var [.str c,.int .i64 d,.bool e]] a (λc d e f=>a<=f->∀ a,f<=a->BCalls prog 298 [.ag 9,.str,.int .i64,.bool]
 [.pb 0 0 0 0,.dg 9 (D.ag [D.lit (.int .i64 6),D.lit (.string b),D.lit (.string (bytes [])),D.lit (.int .i64 0),(x.cell 0),(x.cell 1),D.lit (.int .i64 0),
 D.sl Option.none 2 [] 0,D.sl Option.none 9 [] 0]),.int .i64 1,.int .i64 n1] [Bx.var [.str c,.int .i64 d,.bool e]] a (λb c d e f=>a
 <= f->Bel f b->zN E [.var [.str (bytes []),.int .i64 0,.bool false]]/\∀ a,f<=a->Q b c d e a)))))) (∀ a,d<=a->BCalls
 prog 283 [.bool,.str,.int .i64,.bool] [.pb 0 0 0 0,.str (bytes [108,101,116,32])] [Bx.var [.str s,.int .i64 n,.bool c]] a (λb c d e f
 => a<=f->Br b (∀ a,f<=a->BCalls prog 287 [.str,.str,.int .i64,.bool] [.pb 0 0 0 0] [Bx.var [.str c,.int .i64 d,.bool e]] a (fun
 b c d e f=>a<=f->∀ a,f<=a->BCalls prog 284 [.str,.int .i64,.bool] [.pb 0 0 0 0,.str (bytes [61])] [Bx.var [.str c,.int .i64
 d,.bool e]] a (λc d e f=>a<=f->∀ a,f<=a->BCalls prog 298 [.ag 9,.str,.int .i64,.bool] [.pb 0 0 0 0,.dg 9 (D.ag [D.lit
 (.int .i64 8),D.lit (.string b),D.lit (.string (bytes [])),D.lit (.int .i64 0),D.lit (.int .i64 0),D.sl Option.none 2 [] 0,D.lit (.int .i64 0),D.sl Option.none
 2 [] 0,D.sl Option.none 9 [] 0]),.int .i64 2,.int .i64 n1] [Bx.var [.str c,.int .i64 d,.bool e]] a (λb c d e f=>a<=f->Bel
 f b->zN E [.var [.str (bytes []),.int .i64 0,.bool false]]/\∀ a,f<=a->Q b c d e a)))) (∀ a,f<=a->BCalls prog 283 [.bool,
 .str,.int .i64,.bool] [.pb 0 0 0 0,.str (bytes [114,101,99,32])] [Bx.var [.str c,.int .i64 d,.bool e]] a (λb c d e f=>a <=
 f->Br b (∀ a,f<=a->BCalls prog 299 [.ag 9,.str,.int .i64,.bool] [.pb 0 0 0 0,.int .i64 n1] [Bx.var [.str c,.int .i64 d,.bool e]]
 a (λb c d e f=>a<=f->Bel f b->zN E [.var [.str (bytes []),.int .i64 0,.bool false]]/\∀ a,f<=a->Q b c d
 e a)) (∀ a,f<=a->BCalls prog 283 [.bool,.str,.int .i64,.bool] [.pb 0 0 0 0,.str (bytes [105,102,32])] [Bx.var [.str c,.int .i64 d,
 .bool e]] a (λb c d e f=>a<=f->Br b (∀ a,f<=a->BCalls prog 298 [.ag 9,.str,.int .i64,.bool] [.pb 0 0 0 0,.dg
 9 (D.ag [D.lit (.int .i64 5),D.lit (.string (bytes [])),D.lit (.string (bytes [])),D.lit (.int .i64 0),D.lit (.int .i64 0),D.sl Option.none 2 [] 0,D.lit (.int
 .i64 0),D.sl Option.none 2 [] 0,D.sl Option.none 9 [] 0]),.int .i64 3,.int .i64 n1] [Bx.var [.str c,.int .i64 d,.bool e]] a (λb c d
 e f=>a<=f->Bel f b->zN E [.var [.str (bytes []),.int .i64 0,.bool false]]/\∀ a,f<=a->Q b c d e a)) (∀ a,f
 <= a->BCalls prog 283 [.bool,.str,.int .i64,.bool] [.pb 0 0 0 0,.str (bytes [114,117,110,32])] [Bx.var [.str c,.int .i64 d,.bool e]] a (fun
 b c d e f=>a<=f->Br b (∀ a,f<=a->BCalls prog 298 [.ag 9,.str,.int .i64,.bool] [.pb 0 0 0 0,.dg 9 (D.ag [D.lit (.int .i64
 12),D.lit (.string (bytes [])),D.lit (.string (bytes [])),D.lit (.int .i64 0),D.lit (.int .i64 0),D.sl Option.none 2 [] 0,D.lit (.int .i64 0),D.sl Option.none
 2 [] 0,D.sl Option.none 9 [] 0]),.int .i64 1,.int .i64 n1] [Bx.var [.str c,.int .i64 d,.bool e]] a (λb c d e f=>a<=f ->
 Bel f b->zN E [.var [.str (bytes []),.int .i64 0,.bool false]]/\∀ a,f<=a->Q b c d e a)) (∀ a,f<=a->BCalls prog 283
 [.bool,.str,.int .i64,.bool] [.pb 0 0 0 0,.str (bytes [108,105,102,116,32])] [Bx.var [.str c,.int .i64 d,.bool e]] a (λb c d e
 f=>a<=f->Br b (∀ a,f<=a->BCalls prog 298 [.ag 9,.str,.int .i64,.bool] [.pb 0 0 0 0,.dg 9 (D.ag [D.lit (.int .i64 13),D.lit (.string
 (bytes [])),D.lit (.string (bytes [])),D.lit (.int .i64 0),D.lit (.int .i64 0),D.sl Option.none 2 [] 0,D.lit (.int .i64 0),D.sl Option.none 2 [] 0,D.sl Option.none
 9 [] 0]),.int .i64 1,.int .i64 n1] [Bx.var [.str c,.int .i64 d,.bool e]] a (λb c d e f=>a<=f->Bel f b->zN E [.var
 [.str (bytes []),.int .i64 0,.bool false]]/\∀ a,f<=a->Q b c d e a)) (∀ a,f<=a->BCalls prog 283 [.bool,.str,.int .i64,.bool]
 [.pb 0 0 0 0,.str (bytes [33])] [Bx.var [.str c,.int .i64 d,.bool e]] a (λb c d e f=>a<=f->Br b (∀ a,f<=a
 -> BCalls prog 298 [.ag 9,.str,.int .i64,.bool] [.pb 0 0 0 0,.dg 9 (D.ag [D.lit (.int .i64 4),D.lit (.string (bytes [33])),D.lit (.string (bytes [])),D.lit
 (.int .i64 0),D.lit (.int .i64 0),D.sl Option.none 2 [] 0,D.lit (.int .i64 0),D.sl Option.none 2 [] 0,D.sl Option.none 9 [] 0]),.int .i64 1,.int .i64 n1]
 [Bx.var [.str c,.int .i64 d,.bool e]] a (λb c d e f=>a<=f->Bel f b->zN E [.var [.str (bytes []),.int .i64 0,.bool
 false]]/\∀ a,f<=a->Q b c d e a)) (∀ a,f<=a->BCalls prog 257 [.ag 9,.str,.int .i64,.bool] [.pb 0 0 0 0,.int .i64 n1] [Bx.var
 [.str c,.int .i64 d,.bool e]] a (λb c d e f=>a<=f->Bel f b->∀ a,f<=a->BCalls prog 300 [.ag 9,.str,.int
 .i64,.bool] [.pb 0 0 0 0,.dg 9 b,.int .i64 n1] [Bx.var [.str c,.int .i64 d,.bool e]] a (λb c d e f=>a<=f->Bel f
 b->zN E [.var [.str (bytes []),.int .i64 0,.bool false]]/\∀ a,f<=a->Q b c d e a))))))))))))))))):BCalls prog 285 [(Sh.ag 9),Sh.str,(Sh.int IntKind.i64),Sh.bool] [.pb 0 0 0 0,.int .i64 n1] [.var [.str I,.int .i64 J,.bool O]] N Q:=
  bE (H:=zHq) (by kernel_rfl) (λE=>by kernel_rfl) h
theorem zAq (N:Nat) (I:ByteArray) (J:Int) (O:Bool) (Q:QT [(Sh.ag 9),Sh.str,(Sh.int IntKind.i64),Sh.bool]) (h:∀ E:Env,
∀ a,N<=a->BCalls prog 287 [.str,.str,.int .i64,.bool] [.pb 0 0 0 0] [Bx.var [.str I,.int .i64 J,.bool O]] a (λs b n c d=>a <=
 d->∀ a,d<=a->ACalls prog 301 [.int .i64,.bool] [.str s] a (λd e f=>a<=f->Br c (∀ a,f<=a->ACalls prog 207 [.ag 9] [.int .i64
 d] a (λx c=>a<=c->Bel c x->zN E [.var [.str (bytes []),.int .i64 0,.bool false]]/\∀ a,c<=a->Q x b n true a)) (∀ a,f<=a
 -> ACalls prog 207 [.ag 9] [.int .i64 d] a (λc d=>a<=d->Bel d c->zN E [.var [.str (bytes []),.int .i64 0,.bool false]]/\∀ a,d<=a
 -> Q c b n (!e) a))))):BCalls prog 286 [(Sh.ag 9),Sh.str,(Sh.int IntKind.i64),Sh.bool] [.pb 0 0 0 0] [.var [.str I,.int .i64 J,.bool O]] N Q:=
  bE (H:=zEE) (by kernel_rfl) (λE=>by kernel_rfl) h
theorem zDR (N:Nat) (J:ByteArray) (I:Int) (O:Bool) (Q:QT [Sh.str,Sh.str,(Sh.int IntKind.i64),Sh.bool]) (h:∀ E:Env,
yJ E Q N I J I O N):BCalls prog 287 [Sh.str,Sh.str,(Sh.int IntKind.i64),Sh.bool] [.pb 0 0 0 0] [.var [.str J,.int .i64 I,.bool O]] N Q:=
 bE (H:=zAI) (by kernel_rfl) (λE=>by kernel_rfl) h
theorem sq (N:Nat) (n1:Int) (I:ByteArray) (J:Int) (O:Bool) (Q:QT [(Sh.ag 2),Sh.str,(Sh.int IntKind.i64),Sh.bool]) (h:∀ E:Env,
Br O (zN E [.var [.str (bytes []),.int .i64 0,.bool false]]/\∀ a,N<=a->Q (D.ag [D.lit (.int .i64 0),D.sl Option.none 2 [] 0]) I J true a)
 (Br (decide (n1>8)) (zN E [.var [.str (bytes []),.int .i64 0,.bool false]]/\∀ a,N<=a->Q (D.ag [D.lit (.int .i64 0),D.sl Option.none 2 [] 0]) I J
 (decide (n1>8)) a) (∀ c,N<=c->BCalls prog 283 [.bool,.str,.int .i64,.bool] [.pb 0 0 0 0,.str (bytes [73])] [Bx.var [.str I,.int .i64 J,.bool
 (decide (n1>8))]] c (λb s n d e=>c<=e->Br b (∀ a,e<=a->ACalls prog 150 [.ag 2] [] a (λx b=>a<=b->Bel b x->zN E [.var
 [.str (bytes []),.int .i64 0,.bool false]]/\∀ a,b<=a->Q x s n d a)) (∀ b,e<=b->BCalls prog 283 [.bool,.str,.int .i64,.bool] [.pb 0 0 0 0,
 .str (bytes [66])] [Bx.var [.str s,.int .i64 n,.bool d]] b (λc d e f g=>b<=g->Br c (∀ a,g<=a->ACalls prog 151 [.ag 2] []
 a (λb c=>a<=c->Bel c b->zN E [.var [.str (bytes []),.int .i64 0,.bool false]]/\∀ a,c<=a->Q b d e f a)) (∀ b,
 g<=b->BCalls prog 283 [.bool,.str,.int .i64,.bool] [.pb 0 0 0 0,.str (bytes [60])] [Bx.var [.str d,.int .i64 e,.bool f]] b (λc d e
 f g=>b<=g->Br c (∀ b,g<=b->BCalls prog 297 [.ag 2,.str,.int .i64,.bool] [.pb 0 0 0 0,.int .i64 (IntKind.i64.wrap (n1+1))] [Bx.var
 [.str d,.int .i64 e,.bool f]] b (λc d e f g=>b<=g->Bel g c->∀ b,g<=b->BCalls prog 284 [.str,.int .i64,.bool]
 [.pb 0 0 0 0,.str (bytes [62])] [Bx.var [.str d,.int .i64 e,.bool f]] b (λd e f g=>b<=g->(1=([c]).length/\1=1)/\(1=([c]).length
 /\ 1=1)/\(1=([c]).length/\1=1)/\(1=([c]).length/\1=1)/\(1=([c]).length/\1=1)/\∀ a b,g<=b->Fresh N b a [D.ag [c]]->zN
 E [.var [.str (bytes []),.int .i64 0,.bool false]]/\∀ g,b<=g->Q (D.ag [D.lit (.int .i64 4),D.sl a 2 [c] 1]) d e f g))) (∀ a,g<=a
 -> BCalls prog 284 [.str,.int .i64,.bool] [.pb 0 0 0 0,.str (bytes [40])] [Bx.var [.str d,.int .i64 e,.bool f]] a (λb c d e=>a<=e
 -> Br d (zN E [.var [.str (bytes []),.int .i64 0,.bool false]]/\∀ a,e<=a->Q (D.ag [D.lit (.int .i64 0),D.sl Option.none 2 [] 0]) b c d a)
 (∀ a,e<=a->BCalls prog 297 [.ag 2,.str,.int .i64,.bool] [.pb 0 0 0 0,.int .i64 (IntKind.i64.wrap (n1+1))] [Bx.var [.str b,.int .i64 c,.bool
 d]] a (λb c d e f=>a<=f->Bel f b->∀ a,f<=a->BCalls prog 284 [.str,.int .i64,.bool] [.pb 0 0 0 0,.str (bytes [62])]
 [Bx.var [.str c,.int .i64 d,.bool e]] a (λc d e f=>a<=f->Br e (zN E [.var [.str (bytes []),.int .i64 0,.bool false]]/\∀ a,
 f<=a->Q (D.ag [D.lit (.int .i64 0),D.sl Option.none 2 [] 0]) c d e a) (∀ a,f<=a->BCalls prog 297 [.ag 2,.str,.int .i64,.bool] [.pb
 0 0 0 0,.int .i64 (IntKind.i64.wrap (n1+1))] [Bx.var [.str c,.int .i64 d,.bool e]] a (λc d e f g=>a<=g->Bel g c->∀
 a,g<=a->BCalls prog 284 [.str,.int .i64,.bool] [.pb 0 0 0 0,.str (bytes [41])] [Bx.var [.str d,.int .i64 e,.bool f]] a (λd e f
 g=>a<=g->(2=([b,c]).length/\2=2)/\(2=([b,c]).length/\2=2)/\(2=([b,c]).length/\2=2)/\∀ a h,g<=h->Fresh
 N h a [D.ag [b,c]]->zN E [.var [.str (bytes []),.int .i64 0,.bool false]]/\∀ g,h<=g->Q (D.ag [D.lit (.int .i64 3),D.sl a 2 [b,c]
 2]) d e f g)))))))))))))))):BCalls prog 297 [(Sh.ag 2),Sh.str,(Sh.int IntKind.i64),Sh.bool] [.pb 0 0 0 0,.int .i64 n1] [.var [.str I,.int .i64 J,.bool O]] N Q:=
  bE (H:=zIe) (by kernel_rfl) (λE=>by kernel_rfl) h
theorem zCk (N:Nat) (U:D) (Y n3:Int) (I:ByteArray) (J:Int) (O:Bool) (Q:QT [(Sh.ag 9),Sh.str,(Sh.int IntKind.i64),Sh.bool]) (h:∀ E:Env,
Bel N U->rW E Q N Y n3 0 I J O U 0 (bytes []) (bytes []) 0 0 Option.none [] 0 0 Option.none [] 0 Option.none [] 0 N):BCalls prog 298 [(Sh.ag 9),Sh.str,(Sh.int IntKind.i64),Sh.bool] [.pb 0 0 0 0,.dg 9 U,.int .i64 Y,.int .i64 n3] [.var [.str I,.int .i64 J,.bool O]] N Q:=
 bE (H:=sC) (by kernel_rfl) (λE=>by kernel_rfl) h
theorem zFE (N:Nat) (n1:Int) (I:ByteArray) (J:Int) (O:Bool) (Q:QT [(Sh.ag 9),Sh.str,(Sh.int IntKind.i64),Sh.bool]) (h:∀ E:Env,
∀ a,N<=a->BCalls prog 287 [.str,.str,.int .i64,.bool] [.pb 0 0 0 0] [Bx.var [.str I,.int .i64 J,.bool O]] a (λs b n c d=>a <=
 d->∀ a,d<=a->BCalls prog 284 [.str,.int .i64,.bool] [.pb 0 0 0 0,.str (bytes [32])] [Bx.var [.str b,.int .i64 n,.bool c]] a (λb c d
 e=>a<=e->∀ a,e<=a->BCalls prog 287 [.str,.str,.int .i64,.bool] [.pb 0 0 0 0] [Bx.var [.str b,.int .i64 c,.bool d]] a (λb c
 d e f=>a<=f->∀ a,f<=a->BCalls prog 284 [.str,.int .i64,.bool] [.pb 0 0 0 0,.str (bytes [58])] [Bx.var [.str c,.int .i64 d,.bool e]]
 a (λc d e f=>a<=f->∀ a,f<=a->BCalls prog 297 [.ag 2,.str,.int .i64,.bool] [.pb 0 0 0 0,.int .i64 1] [Bx.var [.str c,.int .i64
 d,.bool e]] a (λx c d e f=>a<=f->Bel f x->∀ a,f<=a->BCalls prog 284 [.str,.int .i64,.bool] [.pb 0 0 0 0,.str (bytes
 [62])] [Bx.var [.str c,.int .i64 d,.bool e]] a (λc d e f=>a<=f->∀ a,f<=a->BCalls prog 297 [.ag 2,.str,.int .i64,.bool]
 [.pb 0 0 0 0,.int .i64 1] [Bx.var [.str c,.int .i64 d,.bool e]] a (λc d e f g=>a<=g->Bel g c->∀ a,g<=a->BCalls
 prog 284 [.str,.int .i64,.bool] [.pb 0 0 0 0,.str (bytes [46])] [Bx.var [.str d,.int .i64 e,.bool f]] a (λd e f g=>a<=g->∀ a,
 g<=a->BCalls prog 298 [.ag 9,.str,.int .i64,.bool] [.pb 0 0 0 0,.dg 9 (D.ag [D.lit (.int .i64 9),D.lit (.string s),D.lit (.string b),D.lit (.int
 .i64 0),(x.cell 0),(x.cell 1),(c.cell 0),(c.cell 1),D.sl Option.none 9 [] 0]),.int .i64 1,.int .i64 n1] [Bx.var [.str d,.int .i64 e,.bool f]]
 a (λb c d e f=>a<=f->Bel f b->zN E [.var [.str (bytes []),.int .i64 0,.bool false]]/\∀ a,f<=a->Q b c d e
 a)))))))))):BCalls prog 299 [(Sh.ag 9),Sh.str,(Sh.int IntKind.i64),Sh.bool] [.pb 0 0 0 0,.int .i64 n1] [.var [.str I,.int .i64 J,.bool O]] N Q:=
  bE (H:=zKR) (by kernel_rfl) (λE=>by kernel_rfl) h
theorem zC8 (N:Nat) (I:D) (Y:Int) (J:ByteArray) (O:Int) (U:Bool) (Q:QT [(Sh.ag 9),Sh.str,(Sh.int IntKind.i64),Sh.bool]) (h:∀ E:Env,
Bel N I->∀ c,N<=c->BCalls prog 283 [.bool,.str,.int .i64,.bool] [.pb 0 0 0 0,.str (bytes [32])] [Bx.var [.str J,.int .i64 O,.bool U]]
 c (λb s n d e=>c<=e->Br b ((1=([I]).length/\1=1)/\(1=([I]).length/\1=1)/\(1=([I]).length/\1=1)/\(1=([I]).length/\1=1)
 /\ ∀ a b,e<=b->Fresh N b a [D.ag [I]]->∀ c,b<=c->BCalls prog 298 [.ag 9,.str,.int .i64,.bool] [.pb 0 0 0 0,.dg 9 (D.ag [D.lit (.int .i64
 7),D.lit (.string (bytes [])),D.lit (.string (bytes [])),D.lit (.int .i64 0),D.lit (.int .i64 0),D.sl Option.none 2 [] 0,D.lit (.int .i64 0),D.sl Option.none
 2 [] 0,D.sl a 9 [I] 1]),.int .i64 1,.int .i64 Y] [Bx.var [.str s,.int .i64 n,.bool d]] c (λx a b d e=>c<=e->Bel e x->zN E [.var
 [.str (bytes []),.int .i64 0,.bool false]]/\∀ c,e<=c->Q x a b d c)) (Br d ((1=([I]).length/\1=1)/\(1=([I]).length/\1=1)/\(1=([I]).length
 /\ 1=1)/\(1=([I]).length/\1=1)/\(1=([I]).length/\1=1)/\∀ a b,e<=b->Fresh N b a [D.ag [I],D.sl Option.none 2 [] 0,D.sl Option.none
 2 [] 0]->zN E [.var [.str (bytes []),.int .i64 0,.bool false]]/\∀ c,b<=c->Q (D.ag [D.lit (.int .i64 7),D.lit (.string (bytes [])),D.lit (.string (bytes
 [])),D.lit (.int .i64 0),D.lit (.int .i64 0),D.sl Option.none 2 [] 0,D.lit (.int .i64 0),D.sl Option.none 2 [] 0,D.sl a 9 [I] 1]) s n true c) (Br (decide
 (n≥(s.size:Int))) ((1=([I]).length/\1=1)/\(1=([I]).length/\1=1)/\(1=([I]).length/\1=1)/\(1=([I]).length/\1=1)/\(1=([I]).length
 /\ 1=1)/\∀ a b,e<=b->Fresh N b a [D.ag [I],D.sl Option.none 2 [] 0,D.sl Option.none 2 [] 0]->zN E [.var [.str (bytes []),.int .i64 0,.bool
 false]]/\∀ c,b<=c->Q (D.ag [D.lit (.int .i64 7),D.lit (.string (bytes [])),D.lit (.string (bytes [])),D.lit (.int .i64 0),D.lit (.int .i64 0),D.sl
 Option.none 2 [] 0,D.lit (.int .i64 0),D.sl Option.none 2 [] 0,D.sl a 9 [I] 1]) s n true c) ((0<=n/\n<=IntKind.i64.wrap (n+1)/\IntKind.i64.wrap (n
 + 1)<=(s.size:Int))/\∀ a,e<=a->ACalls prog 170 [.int .i64] [.str (ByteArray.extract s n.toNat (IntKind.i64.wrap (n+1)).toNat)] a (λb c
 => a<=c->Br (bne b 2) ((1=([I]).length/\1=1)/\(1=([I]).length/\1=1)/\(1=([I]).length/\1=1)/\(1=([I]).length/\1=1)/\(1=([I]).length
 /\ 1=1)/\∀ a b,c<=b->Fresh N b a [D.ag [I],D.sl Option.none 2 [] 0,D.sl Option.none 2 [] 0]->zN E [.var [.str (bytes []),.int .i64 0,.bool
 false]]/\∀ c,b<=c->Q (D.ag [D.lit (.int .i64 7),D.lit (.string (bytes [])),D.lit (.string (bytes [])),D.lit (.int .i64 0),D.lit (.int .i64 0),D.sl
 Option.none 2 [] 0,D.lit (.int .i64 0),D.sl Option.none 2 [] 0,D.sl a 9 [I] 1]) s n true c) ((0<=n/\n<=IntKind.i64.wrap (n+1)/\IntKind.i64.wrap (n
 + 1)<=(s.size:Int))/\(1=([I]).length/\1=1)/\(1=([I]).length/\1=1)/\(1=([I]).length/\1=1)/\(1=([I]).length/\1=1)/\∀ a b,c
 <= b->Fresh N b a [D.ag [I]]->∀ c,b<=c->BCalls prog 298 [.ag 9,.str,.int .i64,.bool] [.pb 0 0 0 0,.dg 9 (D.ag [D.lit (.int .i64 4),D.lit
 (.string (ByteArray.extract s n.toNat (IntKind.i64.wrap (n+1)).toNat)),D.lit (.string (bytes [])),D.lit (.int .i64 0),D.lit (.int .i64 0),D.sl Option.none
 2 [] 0,D.lit (.int .i64 0),D.sl Option.none 2 [] 0,D.sl a 9 [I] 1]),.int .i64 1,.int .i64 Y] [Bx.var [.str s,.int .i64 (IntKind.i64.wrap (n+1)),.bool
 (decide (n≥(s.size:Int)))]] c (λa b d e f=>c<=f->Bel f a->zN E [.var [.str (bytes []),.int .i64 0,.bool false]]/\∀ c,f
 <= c->Q a b d e c)))))))):BCalls prog 300 [(Sh.ag 9),Sh.str,(Sh.int IntKind.i64),Sh.bool] [.pb 0 0 0 0,.dg 9 I,.int .i64 Y] [.var [.str J,.int .i64 O,.bool U]] N Q:=
  bE (H:=zIA) (by kernel_rfl) (λE=>by kernel_rfl) h
theorem rJ (E:Env) (Q:QT [Sh.str,Sh.str,(Sh.int IntKind.i64),Sh.bool]) (N0:Nat) (U:Int) (J:ByteArray) (I:Int) (O:Bool) (N:Nat) (h :
Br (decide (I<(J.size:Int))) ((0<=I/\I<(J.size:Int))/\Br (decide ((UInt8.toNat (Array.getD (ByteArray.data J) I.toNat (OfNat.ofNat
 0)):Int)≥48)) ((0<=I/\I<(J.size:Int))/\Br (decide ((UInt8.toNat (Array.getD (ByteArray.data J) I.toNat (OfNat.ofNat 0)):Int)<=57)) (yJ
 E Q N0 U J (IntKind.i64.wrap (I+1)) O N) ((0<=I/\I<(J.size:Int))/\Br (decide ((UInt8.toNat (Array.getD (ByteArray.data J) I.toNat
 (OfNat.ofNat 0)):Int)≥97)) ((0<=I/\I<(J.size:Int))/\Br (decide ((UInt8.toNat (Array.getD (ByteArray.data J) I.toNat (OfNat.ofNat 0)) :
 Int)<=122)) (yJ E Q N0 U J (IntKind.i64.wrap (I+1)) O N) ((0<=U/\U<=I/\I<=(J.size:Int))/\zN E [.var [.str (bytes []),
 .int .i64 0,.bool false]]/\∀ a,N<=a->Q (ByteArray.extract J U.toNat I.toNat) J I O a)) ((0<=U/\U<=I/\I<=(J.size:Int))
 /\ zN E [.var [.str (bytes []),.int .i64 0,.bool false]]/\∀ a,N<=a->Q (ByteArray.extract J U.toNat I.toNat) J I O a))) ((0<=I/\I
 < (J.size:Int))/\Br (decide ((UInt8.toNat (Array.getD (ByteArray.data J) I.toNat (OfNat.ofNat 0)):Int)≥97)) ((0<=I/\I<(J.size:Int))
 /\ Br (decide ((UInt8.toNat (Array.getD (ByteArray.data J) I.toNat (OfNat.ofNat 0)):Int)<=122)) (yJ E Q N0 U J (IntKind.i64.wrap (I +
 1)) O N) ((0<=U/\U<=I/\I<=(J.size:Int))/\zN E [.var [.str (bytes []),.int .i64 0,.bool false]]/\∀ a,N<=a->Q (ByteArray.extract J
 U.toNat I.toNat) J I O a)) ((0<=U/\U<=I/\I<=(J.size:Int))/\zN E [.var [.str (bytes []),.int .i64 0,.bool false]]/\∀ a,N <=
 a->Q (ByteArray.extract J U.toNat I.toNat) J I O a))) ((0<=U/\U<=I/\I<=(J.size:Int))/\zN E [.var [.str (bytes []),.int .i64
 0,.bool false]]/\∀ a,N<=a->Q (ByteArray.extract J U.toNat I.toNat) J I O a)):yJ E Q N0 U J I O N:=
  hE (H:=zAI) (by kernel_rfl) h
theorem zEQ (E:Env) (Q:QT [(Sh.ag 9),Sh.str,(Sh.int IntKind.i64),Sh.bool]) (N0:Nat) (n2 n3 n9:Int) (O:ByteArray) (U:Int) (J:Bool) (I:D) (Y:Int) (aa ab:ByteArray) (ac ae:Int) (ah:Option Addr) (ai:List D) (aj:Nat) (ak:Int) (al:Option Addr) (am:List D) (ao:Nat) (aq:Option Addr) (au:List D) (aw:Nat) (N:Nat) (h :
Br (decide (n9<n2)) (Br (!J) (Br (decide (n9>0)) (∀ d,N<=d->BCalls prog 284 [.str,.int .i64,.bool] [.pb 0 0 0 0,.str (bytes [32])] [Bx.var [.str
 O,.int .i64 U,.bool J]] d (λs n b e=>d<=e->∃ a d,∃ c:Nat,(I.cell 8)=D.sl a 9 d c/\∀ f,e<=f->BCalls prog 257 [.ag 9,
 .str,.int .i64,.bool] [.pb 0 0 0 0,.int .i64 n3] [Bx.var [.str s,.int .i64 n,.bool b]] f (λx b e g h=>f<=h->Bel h x->zRG a d c [x]
 /\ zB d [x] 136/\∀ (a:Nat),zV E Q N0 n2 n3 (IntKind.i64.wrap (n9+1)) b e g (I.cell 0) (I.cell 1) (I.cell 2) (I.cell 3) (I.cell
 4) (I.cell 5) (I.cell 6) (I.cell 7) (d++[x]).length a Y aa ab ac ae ah ai aj ak al am ao aq au aw (d++[x]) a h))) (∃
 a b,∃ c:Nat,(I.cell 8)=D.sl a 9 b c/\∀ d,N<=d->BCalls prog 257 [.ag 9,.str,.int .i64,.bool] [.pb 0 0 0 0,.int .i64 n3] [Bx.var [.str
 O,.int .i64 U,.bool J]] d (λe f g h i=>d<=i->Bel i e->zRG a b c [e]/\zB b [e] 136/\∀ (a:Nat),zV
 E Q N0 n2 n3 (IntKind.i64.wrap (n9+1)) f g h (I.cell 0) (I.cell 1) (I.cell 2) (I.cell 3) (I.cell 4) (I.cell 5) (I.cell 6) (I.cell 7) (b++[e]).length
 a Y aa ab ac ae ah ai aj ak al am ao aq au aw (b++[e]) a i))) (∀ a,N<=a->BCalls prog 284 [.str,.int .i64,.bool]
 [.pb 0 0 0 0,.str (bytes [41])] [Bx.var [.str O,.int .i64 U,.bool J]] a (λb c d e=>a<=e->zN E [.var [.str (bytes []),.int .i64 0,
 .bool false]]/\∀ a,e<=a->Q I b c d a))) (∀ a,N<=a->BCalls prog 284 [.str,.int .i64,.bool] [.pb 0 0 0 0,.str (bytes [41])] [Bx.var
 [.str O,.int .i64 U,.bool J]] a (λb c d e=>a<=e->zN E [.var [.str (bytes []),.int .i64 0,.bool false]]/\∀ a,e<=a
 -> Q I b c d a))):rW E Q N0 n2 n3 n9 O U J I Y aa ab ac ae ah ai aj ak al am ao aq au aw N:=
  hE (H:=sC) (by kernel_rfl) h
theorem uw (E:Env) (Q:QT [(Sh.ag 9),Sh.str,(Sh.int IntKind.i64),Sh.bool]) (N0:Nat) (n2 n3 n9:Int) (aj:ByteArray) (ak:Int) (ai:Bool) (O U Y aa ab ac ae ah:D) (I J:Nat) (al:Int) (am ao:ByteArray) (aq au:Int) (aw:Option Addr) (ax:List D) (ay:Nat) (az:Int) (a1:Option Addr) (a6:List D) (a7:Nat) (a8:Option Addr) (ba:List D) (bb:Nat) (r3:List D) (q3:Nat) (N:Nat) (h :
Br (decide (n9<n2)) (Br (!ai) (Br (decide (n9>0)) (∀ a,N<=a->BCalls prog 284 [.str,.int .i64,.bool] [.pb 0 0 0 0,.str (bytes [32])] [Bx.var [.str
 aj,.int .i64 ak,.bool ai]] a (λs n b d=>a<=d->∀ a,d<=a->BCalls prog 257 [.ag 9,.str,.int .i64,.bool] [.pb 0 0 0 0,.int .i64 n3]
 [Bx.var [.str s,.int .i64 n,.bool b]] a (λx b d e f=>a<=f->Bel f x->(I=r3.length/\J=q3)/\zB r3 [x] 136/\∀ (c:Nat),
 zV E Q N0 n2 n3 (IntKind.i64.wrap (n9+1)) b d e O U Y aa ab ac ae ah (r3++[x]).length c al am ao aq au aw
 ax ay az a1 a6 a7 a8 ba bb (r3++[x]) c f))) (∀ a,N<=a->BCalls prog 257 [.ag 9,.str,.int .i64,.bool] [.pb 0 0 0 0,.int .i64 n3] [Bx.var
 [.str aj,.int .i64 ak,.bool ai]] a (λb c d e f=>a<=f->Bel f b->(I=r3.length/\J=q3)/\zB r3 [b] 136/\∀ (a
 : Nat),zV E Q N0 n2 n3 (IntKind.i64.wrap (n9+1)) c d e O U Y aa ab ac ae ah (r3++[b]).length a al am ao aq
 au aw ax ay az a1 a6 a7 a8 ba bb (r3++[b]) a f))) (∀ b,N<=b->BCalls prog 284 [.str,.int .i64,.bool] [.pb 0 0 0 0,.str (bytes
 [41])] [Bx.var [.str aj,.int .i64 ak,.bool ai]] b (λc d e f=>b<=f->(I=r3.length/\J=q3)/\(I=r3.length/\J=q3) /\
 (I=r3.length/\J=q3)/\∀ a b,f<=b->Fresh N0 b a [D.ag r3,O,U,Y,aa,ab,ac,ae,ah]->zN E [.var [.str (bytes []),.int
 .i64 0,.bool false]]/\∀ f,b<=f->Q (D.ag [O,U,Y,aa,ab,ac,ae,ah,D.sl a 9 r3 q3]) c d e f))) (∀ a,N<=a->BCalls
 prog 284 [.str,.int .i64,.bool] [.pb 0 0 0 0,.str (bytes [41])] [Bx.var [.str aj,.int .i64 ak,.bool ai]] a (λb c d e=>a<=e->(I
 = r3.length/\J=q3)/\(I=r3.length/\J=q3)/\(I=r3.length/\J=q3)/\∀ a f,e<=f->Fresh N0 f a [D.ag r3,O,U,Y,
 aa,ab,ac,ae,ah]->zN E [.var [.str (bytes []),.int .i64 0,.bool false]]/\∀ e,f<=e->Q (D.ag [O,U,Y,aa,ab,ac,ae,
 ah,D.sl a 9 r3 q3]) b c d e))):zV E Q N0 n2 n3 n9 aj ak ai O U Y aa ab ac ae ah I J al am ao aq au aw ax ay az a1 a6 a7 a8 ba bb r3 q3 N:=
  hE (H:=sC) (by kernel_rfl) h
end Go.Proofs.YtmfjakahanbnlaaGreatDoor
