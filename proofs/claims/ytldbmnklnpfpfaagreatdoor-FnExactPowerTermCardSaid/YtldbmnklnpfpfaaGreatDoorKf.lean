/- Printed by gen.py: what the functions come to. -/
import Derived.Test.YtldbmnklnpfpfaaGreatDoorJh
set_option linter.unusedVariables false
set_option maxRecDepth 100000
namespace Go.Proofs.YtldbmnklnpfpfaaGreatDoor
open Go Go.Proofs Go.Proofs.Tryz
def xa:Hint:=⟨[hc 2 [0,3]],[],[]⟩
def xA:Hint:=⟨[hc 3 [0,1,2,3,10,15,16] [(10,27,9)]],[],[]⟩
def vv:Hint:=⟨[],[],[(1,hs 11 [ec 2 [14]])]⟩
def vz:Hint:=⟨[],[],[(12,hs 10 [ec 2 [49,50]]),(15,hs 9 [ec 1 [67]])]⟩
def vw:Hint:=⟨[],[],[(11,[en 0,en 1,en 2,en 3,eh 4,en 5,eh 6,en 7])]⟩
def xb:Hint:=⟨[],[hc 2 [1,2],hc 3 [1,2]],[]⟩
def qZ:Hint:=⟨[],[],[(2,hs 13 [ec 4 [16]])]⟩
def yE (E:Env)(Q:QT [.ag 9,.bool,.str,.i])(N0:Nat)(I:ByteArray)(J O:Int)(U V:ByteArray)(Y Z:Int)(aa:Option Addr)(ab:List D)(ac:Nat)(ae:Int)(ah:Option Addr)(ai:List D)(aj:Nat)(ak:Option Addr)(al:List D)(ao:Nat)(N:Nat):Prop:=AT prog 14 [.ag 9,.bool,.str,.i] Q N0 (.io E [.var [.str b0,.int .i64 0]]) (Bm prog 14 2) ⟨an 1 (.pb 1 0 0 0::.pb 2 0 0 0::an 64 []),[.var [.str I,.int .i64 J],.var [.pb 0 0 0 0],.var [.int .i64 O,.str U,.str V,.int .i64 Y,.int .i64 Z,.sv aa 2 ab ac,.int .i64 ae,.sv ah 2 ai aj,.sv ak 9 al ao]],N,some (xT E 0 [.var [.str b0,.int .i64 0]],[])⟩
def y2 (E:Env)(b1:Nat)(dd:List Deferred)(Q:QT [.ag 9,.bool,.str,.i])(N0:Nat)(I:ByteArray)(J O:Int)(U V:ByteArray)(Y Z:Int)(aa:Option Addr)(ab:List D)(ac:Nat)(ae:Int)(ah:Option Addr)(ai:List D)(aj:Nat)(ak:Option Addr)(al:List D)(ao:Nat)(N:Nat):Prop:=@AT ⟨some dd⟩ prog 14 [] noQ N0 (.df E (dfK prog 14 [.ag 9,.bool,.str,.i] Q N0 E [.var [.str b0,.int .i64 0]] b1)) (Bm prog 14 3) ⟨an 1 (.pb 1 0 0 0::.pb 2 0 0 0::an 64 []),[.var [.str I,.int .i64 J],.var [.pb 0 0 0 0],.var [.int .i64 O,.str U,.str V,.int .i64 Y,.int .i64 Z,.sv aa 2 ab ac,.int .i64 ae,.sv ah 2 ai aj,.sv ak 9 al ao]],N,some (xT E 0 [.var [.str b0,.int .i64 0]]++[some b1],[])⟩
def zC (E:Env)(Q:QT [.str,.str,.i])(N0:Nat)(O:Int)(I:ByteArray)(J:Int)(N:Nat):Prop:=AT prog 42 [.str,.str,.i] Q N0 (.io E [.var [.str b0,.int .i64 0]]) (za prog 42 2) ⟨.pb 0 0 0 0::an 2 (.int .i64 O::an 62 []),[.var [.str I,.int .i64 J]],N,some (xT E 0 [.var [.str b0,.int .i64 0]],[])⟩
def zM (E:Env)(Q:QT [.sl 9,.bool,.str,.i])(N0:Nat)(n1:Int)(Z s3:ByteArray)(O U:Nat)(V Y:Int)(I:ByteArray)(J:Int)(r1:List D)(q1:Nat)(N:Nat):Prop:=AT prog 73 [.sl 9,.bool,.str,.i] Q N0 (.io E [.var [.str b0,.int .i64 0]]) (za prog 73 3) ⟨.pb 0 0 0 0::.int .i64 n1::.str Z::.str s3::an 6 (.sb 1 9 0 O U::an 4 (.int .i64 V::.int .i64 Y::an 30 [])),[.var [.str I,.int .i64 J],.arr 27 9 r1 q1],N,some (xT E 0 [.var [.str b0,.int .i64 0]],[])⟩
theorem EI (N:Nat) (n0:Int) (Q:QT [.ag 9]) (h :
∀ a,N<=a->Q (D.ag [D.j 2,D.t b0,D.t b0,D.j n0,D.j 0,D.sl none 2 [] 0,D.j 0,D.sl none 2 [] 0,D.sl none 9 [] 0]) a):ACalls prog 44 [.ag 9] [PV.int .i64 n0] N Q:=
  eE H0 h
theorem tZ (N:Nat) (n0:Int) (b1:Bool) (Q:QT [.ag 9]) (h :
Br b1 (∀ a,N<=a->Q (D.ag [D.j 3,D.t b0,D.t b0,D.j n0,D.j 0,D.sl none 2 [] 0,D.j 0,D.sl none 2 [] 0,D.sl none 9 [] 0]) a) (kA 9 44 [.j n0] N
 (fun x a=>uP a (Q x)))):ACalls prog 39 [.ag 9] [PV.int .i64 n0,PV.bool b1] N Q:=
  eE H0 h
theorem EJ (N:Nat) (I:ByteArray) (Q:QT [.ag 9]) (h :
∀ a,N<=a->Q (D.ag [D.j 1,D.t I,D.t b0,D.j 0,D.j 0,D.sl none 2 [] 0,D.j 0,D.sl none 2 [] 0,D.sl none 9 [] 0]) a):ACalls prog 45 [.ag 9] [PV.str I] N Q:=
  eE H0 h
theorem xZ (N:Nat) (s0 s1:ByteArray) (Q:QT [.bool]) (h :
Br (decide ((s0.size:Int)≥(s1.size:Int))) (((0:Int)<=(0:Int)/\0<=(s1.size:Int)/\(s1.size:Int)<=(s0.size:Int))/\∀ a,N<=a->Q
 (ByteArray.toList (ByteArray.extract s0 0 ((s1.size:Int)).toNat)==ByteArray.toList s1) a) (uP N (Q false))):ACalls prog 125 [.bool] [PV.str s0,PV.str s1] N Q:=
  eE H0 h
theorem xY (N:Nat) (s0 s1:ByteArray) (Q:QT [.str,.bool]) (h :
kB 125 [.str s0,.str s1] N (fun b a=>Br (!b) (uP a (Q s0 false)) ((0<=(s1.size:Int)/\(s1.size:Int)<=(s0.size:Int)/\(s0.size:Int) <=
 (s0.size:Int))/\∀ b,a<=b->Q (ByteArray.extract s0 ((s1.size:Int)).toNat ((s0.size:Int)).toNat) true b))):ACalls prog 102 [.str,.bool] [PV.str s0,PV.str s1] N Q:=
  eE H0 h
theorem tn (N:Nat) (I J:ByteArray) (Q:QT [.str,.bool]) (h :
∀ a,N<=a->ACalls prog 102 [.str,.bool] [.str I,.str J] a (λs b c=>a<=c->uP c (Q s b))):ACalls prog 72 [.str,.bool] [PV.str I,PV.str J] N Q:=
  eE H0 h
theorem rE (N:Nat) (I:ByteArray) (Q:QT [.int .i64,.bool]) (h :
kIB 77 [.str I,.j 0,.j 999999] N (λn b a=>uP a (Q n b))):ACalls prog 43 [.int .i64,.bool] [PV.str I] N Q:=
 eE H0 h
theorem qr (N:Nat) (I:ByteArray) (Q:QT [.ag 9,.bool]) (h :
∀ a,N<=a->BCalls prog 14 [.ag 9,.bool,.str,.i] [.pb 0 0 0 0] [Bx.var [.str I,.j 0]] a (λx b _ _ c=>a<=c->Bel c x->Br (!b) (∀ a,c
 <= a->Q (D.ag [D.j 0,D.t b0,D.t b0,D.j 0,D.j 0,D.sl none 2 [] 0,D.j 0,D.sl none 2 [] 0,D.sl none 9 [] 0]) false a) (kS 15 [.dg 9 x] c (λa b=>
 Br (!(ByteArray.toList a==ByteArray.toList I)) (∀ a,b<=a->Q (D.ag [D.j 0,D.t b0,D.t b0,D.j 0,D.j 0,D.sl none 2 [] 0,D.j 0,D.sl none 2 [] 0,
 D.sl none 9 [] 0]) false a) (kS 16 [.str I] b (λa b=>Br (ByteArray.toList a==ByteArray.toList b0) (∀ a,b<=a->Q (D.ag [D.j 0,D.t b0,D.t
 b0,D.j 0,D.j 0,D.sl none 2 [] 0,D.j 0,D.sl none 2 [] 0,D.sl none 9 [] 0]) false a) (uP b (Q x true)))))))):ACalls prog 6 [.ag 9,.bool] [PV.str I] N Q:=
  eE qZ h
theorem yi (N:Nat) (I:ByteArray) (J:Int) (Q:QT [(Sh.ag 9),Sh.bool,Sh.str,(Sh.int IntKind.i64)]) (h:∀ E:Env,
yE E Q N I (IntKind.i64.wrap (J+1)) 0 b0 b0 0 0 none [] 0 0 none [] 0 none [] 0 N):BCalls prog 14 [(Sh.ag 9),Sh.bool,Sh.str,(Sh.int IntKind.i64)] [.pb 0 0 0 0] [.var [.str I,.int .i64 J]] N Q:=
 bE xb h
theorem y4 (E:Env) (b1:Nat) (dd:List Deferred) (Q:QT [(Sh.ag 9),Sh.bool,Sh.str,(Sh.int IntKind.i64)]) (N0:Nat) (J:ByteArray) (I O:Int) (U V:ByteArray) (Y Z:Int) (aa:Option Addr) (ab:List D) (ac:Nat) (ae:Int) (ah:Option Addr) (ai:List D) (aj:Nat) (ak:Option Addr) (al:List D) (ao:Nat) (N:Nat) (h :
Br (decide (I>20)) (b1=b1/\zO E [.var [.str b0,.j 0]]/\∀ a,N<=a->Q (D.ag [D.j 0,D.t b0,D.t b0,D.j 0,D.j 0,D.sl none 2 [] 0,D.j 0,
 D.sl none 2 [] 0,D.sl none 9 [] 0]) false J (IntKind.i64.wrap (I - 1)) a) (∀ a,N<=a->BCalls prog 38 [.bool,.str,.i] [.pb 0 0 0 0,.str (bytes
 [35,116])] [Bx.var [.str J,.j I]] a (λb s n c=>a<=c->Br b (kA 9 39 [.j 1,.bool true] c (λx a=>b1=b1/\zO E [.var [.str b0,.j 0]]
 /\ uP a (Q x true s (IntKind.i64.wrap (n - 1))))) (∀ a,c<=a->BCalls prog 38 [.bool,.str,.i] [.pb 0 0 0 0,.str (bytes [35,102])] [Bx.var [.str s,.j
 n]] a (λb c d e=>a<=e->Br b (kA 9 39 [.j 0,.bool true] e (λa b=>b1=b1/\zO E [.var [.str b0,.j 0]]/\uP b (Q a true c
 (IntKind.i64.wrap (d - 1))))) (∀ a,e<=a->BCalls prog 38 [.bool,.str,.i] [.pb 0 0 0 0,.str (bytes [60])] [Bx.var [.str c,.j d]] a (λb
 c d e=>a<=e->Br b (∀ a,e<=a->BCalls prog 40 [.ag 9,.bool,.str,.i] [.pb 0 0 0 0,.dg 9 (D.ag [D.j 10,D.t b0,D.t b0,D.j 0,D.j 0,
 D.sl none 2 [] 0,D.j 0,D.sl none 2 [] 0,D.sl none 9 [] 0]),.str b0,.str (bytes [62])] [Bx.var [.str c,.j d]] a (λb c d e f=>a<=f
 -> Bel f b->b1=b1/\zO E [.var [.str b0,.j 0]]/\uP f (Q b c d (IntKind.i64.wrap (e - 1))))) (∀ a,e<=a->BCalls prog 38 [.bool,.str,
 .i] [.pb 0 0 0 0,.str (bytes [126])] [Bx.var [.str c,.j d]] a (λb c d e=>a<=e->Br b (∀ a,e<=a->BCalls prog 40 [.ag 9,
 .bool,.str,.i] [.pb 0 0 0 0,.dg 9 (D.ag [D.j 11,D.t b0,D.t b0,D.j 0,D.j 0,D.sl none 2 [] 0,D.j 0,D.sl none 2 [] 0,D.sl none 9 [] 0]),.str b0,.str
 b0] [Bx.var [.str c,.j d]] a (λb c d e f=>a<=f->Bel f b->b1=b1/\zO E [.var [.str b0,.j 0]]/\uP f (Q b c d
 (IntKind.i64.wrap (e - 1))))) (∀ a,e<=a->BCalls prog 38 [.bool,.str,.i] [.pb 0 0 0 0,.str (bytes [40])] [Bx.var [.str c,.j d]] a (λb
 c d e=>a<=e->Br b (∀ a,e<=a->BCalls prog 41 [.ag 9,.bool,.str,.i] [.pb 0 0 0 0] [Bx.var [.str c,.j d]] a (λb c d e
 f=>a<=f->Bel f b->b1=b1/\zO E [.var [.str b0,.j 0]]/\uP f (Q b c d (IntKind.i64.wrap (e - 1))))) (∀ a,e<=a->BCalls prog
 42 [.str,.str,.i] [.pb 0 0 0 0] [Bx.var [.str c,.j d]] a (λb c d e=>a<=e->kIB 43 [.str b] e (λa e f=>Br e (kA 9 44
 [.j a] f (λa b=>b1=b1/\zO E [.var [.str b0,.j 0]]/\uP b (Q a true c (IntKind.i64.wrap (d - 1))))) (kA 9 45 [.str b] f (λa
 e=>b1=b1/\zO E [.var [.str b0,.j 0]]/\∀ f,e<=f->Q a (!(ByteArray.toList b==ByteArray.toList b0)) c (IntKind.i64.wrap (d - 1))
 f)))))))))))))))):y2 E b1 dd Q N0 J I O U V Y Z aa ab ac ae ah ai aj ak al ao N:=
  @ML ⟨some dd⟩ prog sh 14 [] noQ N0 _ xb 400 _ _ _ mixed (by kernel_rfl) h
theorem tM (N:Nat) (O I:ByteArray) (J:Int) (Q:QT [Sh.bool,Sh.str,(Sh.int IntKind.i64)]) (h:∀ E:Env,
∀ a,N<=a->ACalls prog 72 [.str,.bool] [.str I,.str O] a (λs b c=>a<=c->zO E [.var [.str b0,.j 0]]/\uP c (Q b s
 J))):BCalls prog 38 [Sh.bool,Sh.str,(Sh.int IntKind.i64)] [.pb 0 0 0 0,.str O] [.var [.str I,.int .i64 J]] N Q:=
  bE H0 h
theorem wz (N:Nat) (I:D) (U V J:ByteArray) (O:Int) (Q:QT [(Sh.ag 9),Sh.bool,Sh.str,(Sh.int IntKind.i64)]) (h:∀ E:Env,
Bel N I->kI 74 [.dg 9 I] N (λn d=>∀ e,d<=e->BCalls prog 73 [.sl 9,.bool,.str,.i] [.pb 0 0 0 0,.j n,.str U,.str V] [Bx.var
 [.str J,.j O]] e (λa b c d s f g=>e<=g->Bel g (D.sl a 9 b c)->zO E [.var [.str b0,.j 0]]/\uP g (Q (D.ag [(I.cell 0),(I.cell
 1),(I.cell 2),(I.cell 3),(I.cell 4),(I.cell 5),(I.cell 6),(I.cell 7),D.sl a 9 b c]) d s f)))):BCalls prog 40 [(Sh.ag 9),Sh.bool,Sh.str,(Sh.int IntKind.i64)] [.pb 0 0 0 0,.dg 9 I,.str U,.str V] [.var [.str J,.int .i64 O]] N Q:=
  bE vv h
theorem wT (N:Nat) (I:ByteArray) (J:Int) (Q:QT [(Sh.ag 9),Sh.bool,Sh.str,(Sh.int IntKind.i64)]) (h:∀ E:Env,
∀ a,N<=a->BCalls prog 38 [.bool,.str,.i] [.pb 0 0 0 0,.str (bytes [33])] [Bx.var [.str I,.j J]] a (λb s n c=>a<=c ->
 Br b (∀ a,c<=a->BCalls prog 40 [.ag 9,.bool,.str,.i] [.pb 0 0 0 0,.dg 9 (D.ag [D.j 4,D.t (bytes [33]),D.t b0,D.j 0,D.j 0,D.sl none 2 [] 0,D.j 0,
 D.sl none 2 [] 0,D.sl none 9 [] 0]),.str b0,.str (bytes [41])] [Bx.var [.str s,.j n]] a (λx b c d e=>a<=e->Bel e x->zO E [.var [.str
 b0,.j 0]]/\uP e (Q x b c d))) (∀ a,c<=a->BCalls prog 38 [.bool,.str,.i] [.pb 0 0 0 0,.str (bytes [105,102,32])] [Bx.var [.str s,.j n]] a
 (λb c d e=>a<=e->Br b (∀ a,e<=a->BCalls prog 40 [.ag 9,.bool,.str,.i] [.pb 0 0 0 0,.dg 9 (D.ag [D.j 5,D.t b0,D.t b0,D.j 0,D.j 0,
 D.sl none 2 [] 0,D.j 0,D.sl none 2 [] 0,D.sl none 9 [] 0]),.str (bytes [32]),.str (bytes [41])] [Bx.var [.str c,.j d]] a (λb c d e f=>
 a<=f->Bel f b->zO E [.var [.str b0,.j 0]]/\uP f (Q b c d e))) (∀ a,e<=a->BCalls prog 38 [.bool,.str,.i] [.pb 0 0 0 0,.str (bytes
 [114,117,110,32])] [Bx.var [.str c,.j d]] a (λb c d e=>a<=e->Br b (∀ a,e<=a->BCalls prog 40 [.ag 9,.bool,.str,.i]
 [.pb 0 0 0 0,.dg 9 (D.ag [D.j 12,D.t b0,D.t b0,D.j 0,D.j 0,D.sl none 2 [] 0,D.j 0,D.sl none 2 [] 0,D.sl none 9 [] 0]),.str b0,.str (bytes [41])]
 [Bx.var [.str c,.j d]] a (λb c d e f=>a<=f->Bel f b->zO E [.var [.str b0,.j 0]]/\uP f (Q b c d e))) (∀ a,e <=
 a->BCalls prog 38 [.bool,.str,.i] [.pb 0 0 0 0,.str (bytes [108,105,102,116,32])] [Bx.var [.str c,.j d]] a (λb c d e=>a<=e ->
 Br b (∀ a,e<=a->BCalls prog 40 [.ag 9,.bool,.str,.i] [.pb 0 0 0 0,.dg 9 (D.ag [D.j 13,D.t b0,D.t b0,D.j 0,D.j 0,D.sl none 2 [] 0,D.j 0,
 D.sl none 2 [] 0,D.sl none 9 [] 0]),.str b0,.str (bytes [41])] [Bx.var [.str c,.j d]] a (λb c d e f=>a<=f->Bel f b->zO E
 [.var [.str b0,.j 0]]/\uP f (Q b c d e))) (∀ a,e<=a->BCalls prog 38 [.bool,.str,.i] [.pb 0 0 0 0,.str (bytes [108,101,116,32])]
 [Bx.var [.str c,.j d]] a (λb c d e=>a<=e->Br b (∀ a,e<=a->BCalls prog 42 [.str,.str,.i] [.pb 0 0 0 0] [Bx.var [.str c,
 .j d]] a (λb c d e=>a<=e->∀ a,e<=a->BCalls prog 38 [.bool,.str,.i] [.pb 0 0 0 0,.str (bytes [61])] [Bx.var [.str c,.j
 d]] a (λc d e f=>a<=f->Br (!c) (zO E [.var [.str b0,.j 0]]/\∀ a,f<=a->Q (D.ag [D.j 0,D.t b0,D.t b0,D.j 0,D.j 0,D.sl
 none 2 [] 0,D.j 0,D.sl none 2 [] 0,D.sl none 9 [] 0]) false d e a) (∀ a,f<=a->BCalls prog 40 [.ag 9,.bool,.str,.i] [.pb 0 0 0 0,.dg 9
 (D.ag [D.j 8,D.t b,D.t b0,D.j 0,D.j 0,D.sl none 2 [] 0,D.j 0,D.sl none 2 [] 0,D.sl none 9 [] 0]),.str (bytes [32]),.str (bytes [41])] [Bx.var [.str
 d,.j e]] a (λb c d e f=>a<=f->Bel f b->zO E [.var [.str b0,.j 0]]/\uP f (Q b c d e)))))) (∀ a,e <=
 a->BCalls prog 38 [.bool,.str,.i] [.pb 0 0 0 0,.str (bytes [92])] [Bx.var [.str c,.j d]] a (λb c d e=>a<=e->Br b (∀ a,
 e<=a->BCalls prog 42 [.str,.str,.i] [.pb 0 0 0 0] [Bx.var [.str c,.j d]] a (λb c d e=>a<=e->∀ a,e<=a->BCalls
 prog 75 [.ag 9,.bool,.str,.i] [.pb 0 0 0 0,.dg 9 (D.ag [D.j 6,D.t b,D.t b0,D.j 0,D.j 0,D.sl none 2 [] 0,D.j 0,D.sl none 2 [] 0,D.sl none 9 []
 0])] [Bx.var [.str c,.j d]] a (λb c d e f=>a<=f->Bel f b->zO E [.var [.str b0,.j 0]]/\uP f (Q b c d e))))
 (∀ a,e<=a->BCalls prog 38 [.bool,.str,.i] [.pb 0 0 0 0,.str (bytes [114,101,99,32])] [Bx.var [.str c,.j d]] a (λb c d e=>
 a<=e->Br b (∀ a,e<=a->BCalls prog 42 [.str,.str,.i] [.pb 0 0 0 0] [Bx.var [.str c,.j d]] a (λb c d e=>a<=e->∀
 a,e<=a->BCalls prog 38 [.bool,.str,.i] [.pb 0 0 0 0,.str (bytes [32])] [Bx.var [.str c,.j d]] a (λc d e f=>a<=f->Br
 (!c) (zO E [.var [.str b0,.j 0]]/\∀ a,f<=a->Q (D.ag [D.j 0,D.t b0,D.t b0,D.j 0,D.j 0,D.sl none 2 [] 0,D.j 0,D.sl none 2 [] 0,D.sl none 9
 [] 0]) false d e a) (∀ a,f<=a->BCalls prog 42 [.str,.str,.i] [.pb 0 0 0 0] [Bx.var [.str d,.j e]] a (λc d e f=>a <=
 f->∀ a,f<=a->BCalls prog 75 [.ag 9,.bool,.str,.i] [.pb 0 0 0 0,.dg 9 (D.ag [D.j 9,D.t b,D.t c,D.j 0,D.j 0,D.sl none 2 [] 0,D.j 0,
 D.sl none 2 [] 0,D.sl none 9 [] 0])] [Bx.var [.str d,.j e]] a (λb c d e f=>a<=f->Bel f b->zO E [.var [.str b0,.j 0]] /\
 uP f (Q b c d e))))))) (∀ a,e<=a->BCalls prog 76 [.ag 9,.bool,.str,.i] [.pb 0 0 0 0] [Bx.var [.str c,.j d]] a (λb c
 d e f=>a<=f->Bel f b->zO E [.var [.str b0,.j 0]]/\uP f (Q b c d e))))))))))))))))):BCalls prog 41 [(Sh.ag 9),Sh.bool,Sh.str,(Sh.int IntKind.i64)] [.pb 0 0 0 0] [.var [.str I,.int .i64 J]] N Q:=
  bE H0 h
theorem w6 (N:Nat) (I:ByteArray) (J:Int) (Q:QT [Sh.str,Sh.str,(Sh.int IntKind.i64)]) (h:∀ E:Env,
zC E Q N 0 I J N):BCalls prog 42 [Sh.str,Sh.str,(Sh.int IntKind.i64)] [.pb 0 0 0 0] [.var [.str I,.int .i64 J]] N Q:=
 bE xa h
theorem wV (N:Nat) (n1:Int) (O U I:ByteArray) (J:Int) (Q:QT [(Sh.sl 9),Sh.bool,Sh.str,(Sh.int IntKind.i64)]) (h:∀ E:Env,
zM E Q N n1 O U 0 0 n1 0 I J [] 0 N):BCalls prog 73 [(Sh.sl 9),Sh.bool,Sh.str,(Sh.int IntKind.i64)] [.pb 0 0 0 0,.int .i64 n1,.str O,.str U] [.var [.str I,.int .i64 J]] N Q:=
 bE xA h
theorem yN (N:Nat) (I:D) (J:ByteArray) (O:Int) (Q:QT [(Sh.ag 9),Sh.bool,Sh.str,(Sh.int IntKind.i64)]) (h:∀ E:Env,
Bel N I->∀ a,N<=a->BCalls prog 38 [.bool,.str,.i] [.pb 0 0 0 0,.str (bytes [58])] [Bx.var [.str J,.j O]] a (λb s n c=>
 a<=c->Br b (∀ a,c<=a->BCalls prog 104 [.ag 2,.bool,.str,.i] [.pb 0 0 0 0,.j 8] [Bx.var [.str s,.j n]] a (λx b c d e=>a<=e->Bel
 e x->Br b (∃ a:Int,(I.cell 0)=D.j a/\Br (a==9) (∀ a,e<=a->BCalls prog 38 [.bool,.str,.i] [.pb 0 0 0 0,.str (bytes [62])] [Bx.var
 [.str c,.j d]] a (λb c d e=>a<=e->Br b (∀ a,e<=a->BCalls prog 104 [.ag 2,.bool,.str,.i] [.pb 0 0 0 0,.j 8] [Bx.var [.str c,
 .j d]] a (λb c d e f=>a<=f->Bel f b->Br (!c) (zO E [.var [.str b0,.j 0]]/\∀ a,f<=a->Q (D.ag [D.j 0,D.t b0,D.t b0,D.j 0,
 D.j 0,D.sl none 2 [] 0,D.j 0,D.sl none 2 [] 0,D.sl none 9 [] 0]) false d e a) (∀ a,f<=a->BCalls prog 38 [.bool,.str,.i] [.pb 0 0 0 0,.str
 (bytes [46])] [Bx.var [.str d,.j e]] a (λc d e f=>a<=f->Br (!c) (zO E [.var [.str b0,.j 0]]/\∀ a,f<=a->Q (D.ag [D.j 0,
 D.t b0,D.t b0,D.j 0,D.j 0,D.sl none 2 [] 0,D.j 0,D.sl none 2 [] 0,D.sl none 9 [] 0]) false d e a) (∀ a,f<=a->BCalls prog 40 [.ag 9,.bool,
 .str,.i] [.pb 0 0 0 0,.dg 9 (D.ag [(I.cell 0),(I.cell 1),(I.cell 2),(I.cell 3),(x.cell 0),(x.cell 1),(b.cell 0),(b.cell 1),(I.cell 8)]),.str
 b0,.str (bytes [41])] [Bx.var [.str d,.j e]] a (λb c d e f=>a<=f->Bel f b->zO E [.var [.str b0,.j 0]]/\uP f (Q b c
 d e))))))) (Br (!b) (zO E [.var [.str b0,.j 0]]/\∀ a,e<=a->Q (D.ag [D.j 0,D.t b0,D.t b0,D.j 0,D.j 0,D.sl none 2 [] 0,D.j 0,D.sl none 2
 [] 0,D.sl none 9 [] 0]) false c d a) (∀ a,e<=a->BCalls prog 38 [.bool,.str,.i] [.pb 0 0 0 0,.str (bytes [46])] [Bx.var [.str c,.j d]] a
 (λb c d e=>a<=e->Br (!b) (zO E [.var [.str b0,.j 0]]/\∀ a,e<=a->Q (D.ag [D.j 0,D.t b0,D.t b0,D.j 0,D.j 0,D.sl none 2 []
 0,D.j 0,D.sl none 2 [] 0,D.sl none 9 [] 0]) false c d a) (∀ a,e<=a->BCalls prog 40 [.ag 9,.bool,.str,.i] [.pb 0 0 0 0,.dg 9 (D.ag
 [(I.cell 0),(I.cell 1),(I.cell 2),(I.cell 3),(x.cell 0),(x.cell 1),(I.cell 6),(I.cell 7),(I.cell 8)]),.str b0,.str (bytes [41])] [Bx.var [.str
 c,.j d]] a (λb c d e f=>a<=f->Bel f b->zO E [.var [.str b0,.j 0]]/\uP f (Q b c d e)))))))) (Br (!b) (zO E
 [.var [.str b0,.j 0]]/\∀ a,e<=a->Q (D.ag [D.j 0,D.t b0,D.t b0,D.j 0,D.j 0,D.sl none 2 [] 0,D.j 0,D.sl none 2 [] 0,D.sl none 9 [] 0]) false c
 d a) (∀ a,e<=a->BCalls prog 38 [.bool,.str,.i] [.pb 0 0 0 0,.str (bytes [46])] [Bx.var [.str c,.j d]] a (λb c d e=>a<=e
 -> Br (!b) (zO E [.var [.str b0,.j 0]]/\∀ a,e<=a->Q (D.ag [D.j 0,D.t b0,D.t b0,D.j 0,D.j 0,D.sl none 2 [] 0,D.j 0,D.sl none 2 [] 0,D.sl
 none 9 [] 0]) false c d a) (∀ a,e<=a->BCalls prog 40 [.ag 9,.bool,.str,.i] [.pb 0 0 0 0,.dg 9 (D.ag [(I.cell 0),(I.cell 1),(I.cell 2),
 (I.cell 3),(x.cell 0),(x.cell 1),(I.cell 6),(I.cell 7),(I.cell 8)]),.str b0,.str (bytes [41])] [Bx.var [.str c,.j d]] a (λb c d e
 f=>a<=f->Bel f b->zO E [.var [.str b0,.j 0]]/\uP f (Q b c d e))))))) (Br (!b) (zO E [.var [.str b0,.j 0]]/\∀ a,e<=a ->
 Q (D.ag [D.j 0,D.t b0,D.t b0,D.j 0,D.j 0,D.sl none 2 [] 0,D.j 0,D.sl none 2 [] 0,D.sl none 9 [] 0]) false c d a) (∀ a,e<=a->BCalls prog 38
 [.bool,.str,.i] [.pb 0 0 0 0,.str (bytes [46])] [Bx.var [.str c,.j d]] a (λb c d e=>a<=e->Br (!b) (zO E [.var [.str b0,.j
 0]]/\∀ a,e<=a->Q (D.ag [D.j 0,D.t b0,D.t b0,D.j 0,D.j 0,D.sl none 2 [] 0,D.j 0,D.sl none 2 [] 0,D.sl none 9 [] 0]) false c d a) (∀
 a,e<=a->BCalls prog 40 [.ag 9,.bool,.str,.i] [.pb 0 0 0 0,.dg 9 (D.ag [(I.cell 0),(I.cell 1),(I.cell 2),(I.cell 3),(x.cell 0),(x.cell 1),
 (I.cell 6),(I.cell 7),(I.cell 8)]),.str b0,.str (bytes [41])] [Bx.var [.str c,.j d]] a (λb c d e f=>a<=f->Bel f b ->
 zO E [.var [.str b0,.j 0]]/\uP f (Q b c d e)))))))) (Br b (∃ a:Int,(I.cell 0)=D.j a/\Br (a==9) (∀ a,c<=a->BCalls prog
 38 [.bool,.str,.i] [.pb 0 0 0 0,.str (bytes [62])] [Bx.var [.str s,.j n]] a (λb c d e=>a<=e->Br b (∀ a,e<=a->BCalls prog
 104 [.ag 2,.bool,.str,.i] [.pb 0 0 0 0,.j 8] [Bx.var [.str c,.j d]] a (λb c d e f=>a<=f->Bel f b->Br (!c) (zO E
 [.var [.str b0,.j 0]]/\∀ a,f<=a->Q (D.ag [D.j 0,D.t b0,D.t b0,D.j 0,D.j 0,D.sl none 2 [] 0,D.j 0,D.sl none 2 [] 0,D.sl none 9 [] 0]) false
 d e a) (∀ a,f<=a->BCalls prog 38 [.bool,.str,.i] [.pb 0 0 0 0,.str (bytes [46])] [Bx.var [.str d,.j e]] a (λc d e f
 => a<=f->Br (!c) (zO E [.var [.str b0,.j 0]]/\∀ a,f<=a->Q (D.ag [D.j 0,D.t b0,D.t b0,D.j 0,D.j 0,D.sl none 2 [] 0,D.j 0,D.sl none 2
 [] 0,D.sl none 9 [] 0]) false d e a) (∀ a,f<=a->BCalls prog 40 [.ag 9,.bool,.str,.i] [.pb 0 0 0 0,.dg 9 (D.ag [(I.cell 0),(I.cell 1),
 (I.cell 2),(I.cell 3),(I.cell 4),(I.cell 5),(b.cell 0),(b.cell 1),(I.cell 8)]),.str b0,.str (bytes [41])] [Bx.var [.str d,.j e]] a
 (λb c d e f=>a<=f->Bel f b->zO E [.var [.str b0,.j 0]]/\uP f (Q b c d e))))))) (Br (!b) (zO E [.var [.str b0,
 .j 0]]/\∀ a,e<=a->Q (D.ag [D.j 0,D.t b0,D.t b0,D.j 0,D.j 0,D.sl none 2 [] 0,D.j 0,D.sl none 2 [] 0,D.sl none 9 [] 0]) false c d a) (∀
 a,e<=a->BCalls prog 38 [.bool,.str,.i] [.pb 0 0 0 0,.str (bytes [46])] [Bx.var [.str c,.j d]] a (λb c d e=>a<=e->Br
 (!b) (zO E [.var [.str b0,.j 0]]/\∀ a,e<=a->Q (D.ag [D.j 0,D.t b0,D.t b0,D.j 0,D.j 0,D.sl none 2 [] 0,D.j 0,D.sl none 2 [] 0,D.sl none 9
 [] 0]) false c d a) (∀ a,e<=a->BCalls prog 40 [.ag 9,.bool,.str,.i] [.pb 0 0 0 0,.dg 9 I,.str b0,.str (bytes [41])] [Bx.var [.str c,
 .j d]] a (λb c d e f=>a<=f->Bel f b->zO E [.var [.str b0,.j 0]]/\uP f (Q b c d e)))))))) (Br (!b) (zO E
 [.var [.str b0,.j 0]]/\∀ a,c<=a->Q (D.ag [D.j 0,D.t b0,D.t b0,D.j 0,D.j 0,D.sl none 2 [] 0,D.j 0,D.sl none 2 [] 0,D.sl none 9 [] 0]) false s n
 a) (∀ a,c<=a->BCalls prog 38 [.bool,.str,.i] [.pb 0 0 0 0,.str (bytes [46])] [Bx.var [.str s,.j n]] a (λb c d e=>a<=e->Br
 (!b) (zO E [.var [.str b0,.j 0]]/\∀ a,e<=a->Q (D.ag [D.j 0,D.t b0,D.t b0,D.j 0,D.j 0,D.sl none 2 [] 0,D.j 0,D.sl none 2 [] 0,D.sl none 9
 [] 0]) false c d a) (∀ a,e<=a->BCalls prog 40 [.ag 9,.bool,.str,.i] [.pb 0 0 0 0,.dg 9 I,.str b0,.str (bytes [41])] [Bx.var [.str c,
 .j d]] a (λb c d e f=>a<=f->Bel f b->zO E [.var [.str b0,.j 0]]/\uP f (Q b c d e))))))) (Br (!b) (zO E
 [.var [.str b0,.j 0]]/\∀ a,c<=a->Q (D.ag [D.j 0,D.t b0,D.t b0,D.j 0,D.j 0,D.sl none 2 [] 0,D.j 0,D.sl none 2 [] 0,D.sl none 9 [] 0]) false s n
 a) (∀ a,c<=a->BCalls prog 38 [.bool,.str,.i] [.pb 0 0 0 0,.str (bytes [46])] [Bx.var [.str s,.j n]] a (λb c d e=>a<=e->Br
 (!b) (zO E [.var [.str b0,.j 0]]/\∀ a,e<=a->Q (D.ag [D.j 0,D.t b0,D.t b0,D.j 0,D.j 0,D.sl none 2 [] 0,D.j 0,D.sl none 2 [] 0,D.sl none 9
 [] 0]) false c d a) (∀ a,e<=a->BCalls prog 40 [.ag 9,.bool,.str,.i] [.pb 0 0 0 0,.dg 9 I,.str b0,.str (bytes [41])] [Bx.var [.str c,
 .j d]] a (λb c d e f=>a<=f->Bel f b->zO E [.var [.str b0,.j 0]]/\uP f (Q b c d e))))))))):BCalls prog 75 [(Sh.ag 9),Sh.bool,Sh.str,(Sh.int IntKind.i64)] [.pb 0 0 0 0,.dg 9 I] [.var [.str J,.int .i64 O]] N Q:=
  bE H0 h
theorem w7 (N:Nat) (I:ByteArray) (J:Int) (Q:QT [(Sh.ag 9),Sh.bool,Sh.str,(Sh.int IntKind.i64)]) (h:∀ E:Env,
∀ c,N<=c->BCalls prog 14 [.ag 9,.bool,.str,.i] [.pb 0 0 0 0] [Bx.var [.str I,.j J]] c (λx b s n d=>c<=d->Bel d x ->
 Br (!b) (zO E [.var [.str b0,.j 0]]/\∀ a,d<=a->Q (D.ag [D.j 0,D.t b0,D.t b0,D.j 0,D.j 0,D.sl none 2 [] 0,D.j 0,D.sl none 2 [] 0,D.sl none 9 []
 0]) false s n a) (Br (ByteArray.toList s==ByteArray.toList b0) (zO E [.var [.str b0,.j 0]]/\∀ a,d<=a->Q (D.ag [D.j 0,D.t b0,D.t b0,D.j 0,D.j 0,
 D.sl none 2 [] 0,D.j 0,D.sl none 2 [] 0,D.sl none 9 [] 0]) false s n a) (((0:Int)<=(0:Int)/\(0:Int)<=(1:Int)/\1<=(s.size:Int))/\Br
 (!(ByteArray.toList (ByteArray.extract s 0 1)==ByteArray.toList (bytes [32]))) (((0:Int)<=(1:Int)/\1<=(s.size:Int)/\(s.size:Int)<=(s.size:Int))
 /\ ∀ b,d<=b->BCalls prog 14 [.ag 9,.bool,.str,.i] [.pb 0 0 0 0] [Bx.var [.str (ByteArray.extract s 1 ((s.size:Int)).toNat),.j n]] b (λc d e
 f g=>b<=g->Bel g c->Br d (∀ b,g<=b->BCalls prog 38 [.bool,.str,.i] [.pb 0 0 0 0,.str (bytes [41])] [Bx.var [.str e,.j f]] b (fun
 d e f g=>b<=g->w4 (2=([x,c]).length/\2=2) (∀ a b,g<=b->Fresh N b a [D.ag [x,c],D.sl none 2 [] 0,D.sl none 2 [] 0]->zO E
 [.var [.str b0,.j 0]]/\∀ g,b<=g->Q (D.ag [D.j 4,D.t (ByteArray.extract s 0 1),D.t b0,D.j 0,D.j 0,D.sl none 2 [] 0,D.j 0,D.sl none 2 [] 0,D.sl
 a 9 [x,c] 2]) d e f g))) (w4 (2=([x,c]).length/\2=2) (∀ a b,g<=b->Fresh N b a [D.ag [x,c],D.sl none 2 [] 0,D.sl none 2 []
 0]->zO E [.var [.str b0,.j 0]]/\∀ d,b<=d->Q (D.ag [D.j 4,D.t (ByteArray.extract s 0 1),D.t b0,D.j 0,D.j 0,D.sl none 2 [] 0,D.j 0,D.sl none
 2 [] 0,D.sl a 9 [x,c] 2]) false e f d)))) (((0:Int)<=(1:Int)/\1<=(s.size:Int)/\(s.size:Int)<=(s.size:Int))/\∀ a,d<=a->BCalls
 prog 14 [.ag 9,.bool,.str,.i] [.pb 0 0 0 0] [Bx.var [.str (ByteArray.extract s 1 ((s.size:Int)).toNat),.j n]] a (λb c d e f=>a<=f ->
 Bel f b->Br c (∀ a,f<=a->BCalls prog 38 [.bool,.str,.i] [.pb 0 0 0 0,.str (bytes [41])] [Bx.var [.str d,.j e]] a (λc d e f
 => a<=f->w4 (2=([x,b]).length/\2=2) (∀ a g,f<=g->Fresh N g a [D.ag [x,b],D.sl none 2 [] 0,D.sl none 2 [] 0]->zO E [.var
 [.str b0,.j 0]]/\∀ f,g<=f->Q (D.ag [D.j 7,D.t b0,D.t b0,D.j 0,D.j 0,D.sl none 2 [] 0,D.j 0,D.sl none 2 [] 0,D.sl a 9 [x,b] 2]) c d
 e f))) (w4 (2=([x,b]).length/\2=2) (∀ a c,f<=c->Fresh N c a [D.ag [x,b],D.sl none 2 [] 0,D.sl none 2 [] 0]->zO E [.var [.str
 b0,.j 0]]/\∀ f,c<=f->Q (D.ag [D.j 7,D.t b0,D.t b0,D.j 0,D.j 0,D.sl none 2 [] 0,D.j 0,D.sl none 2 [] 0,D.sl a 9 [x,b] 2]) false d e
 f)))))))):BCalls prog 76 [(Sh.ag 9),Sh.bool,Sh.str,(Sh.int IntKind.i64)] [.pb 0 0 0 0] [.var [.str I,.int .i64 J]] N Q:=
  bE vw h
theorem y3 (E:Env) (Q:QT [Sh.str,Sh.str,(Sh.int IntKind.i64)]) (N0:Nat) (n3:Int) (s0_0:ByteArray) (n0_1:Int) (N:Nat) (h :
Br (decide (n3<(s0_0.size:Int))) ((0<=n3/\n3<(s0_0.size:Int))/\Br (decide ((UInt8.toNat (Array.getD (ByteArray.data s0_0) n3.toNat (OfNat.ofNat
 0)):Int)≥97)) ((0<=n3/\n3<(s0_0.size:Int))/\Br (decide ((UInt8.toNat (Array.getD (ByteArray.data s0_0) n3.toNat (OfNat.ofNat 0)):Int)<=122))
 (zC E Q N0 (IntKind.i64.wrap (n3+1)) s0_0 n0_1 N) ((0<=n3/\n3<(s0_0.size:Int))/\Br (decide ((UInt8.toNat (Array.getD
 (ByteArray.data s0_0) n3.toNat (OfNat.ofNat 0)):Int)≥48)) ((0<=n3/\n3<(s0_0.size:Int))/\Br (decide ((UInt8.toNat (Array.getD (ByteArray.data s0_0)
 n3.toNat (OfNat.ofNat 0)):Int)<=57)) (zC E Q N0 (IntKind.i64.wrap (n3+1)) s0_0 n0_1 N) (((0:Int)<=(0:Int)/\0<=n3/\n3 <=
 (s0_0.size:Int))/\(0<=n3/\n3<=(s0_0.size:Int)/\(s0_0.size:Int)<=(s0_0.size:Int))/\zO E [.var [.str b0,.j 0]]/\∀ a,N<=a->Q
 (ByteArray.extract s0_0 0 n3.toNat) (ByteArray.extract s0_0 n3.toNat ((s0_0.size:Int)).toNat) n0_1 a)) (((0:Int)<=(0:Int)/\0<=n3/\n3<=(s0_0.size :
 Int))/\(0<=n3/\n3<=(s0_0.size:Int)/\(s0_0.size:Int)<=(s0_0.size:Int))/\zO E [.var [.str b0,.j 0]]/\∀ a,N<=a->Q (ByteArray.extract s0_0 0
 n3.toNat) (ByteArray.extract s0_0 n3.toNat ((s0_0.size:Int)).toNat) n0_1 a))) ((0<=n3/\n3<(s0_0.size:Int))/\Br (decide ((UInt8.toNat (Array.getD
 (ByteArray.data s0_0) n3.toNat (OfNat.ofNat 0)):Int)≥48)) ((0<=n3/\n3<(s0_0.size:Int))/\Br (decide ((UInt8.toNat (Array.getD (ByteArray.data s0_0)
 n3.toNat (OfNat.ofNat 0)):Int)<=57)) (zC E Q N0 (IntKind.i64.wrap (n3+1)) s0_0 n0_1 N) (((0:Int)<=(0:Int)/\0<=n3/\n3 <=
 (s0_0.size:Int))/\(0<=n3/\n3<=(s0_0.size:Int)/\(s0_0.size:Int)<=(s0_0.size:Int))/\zO E [.var [.str b0,.j 0]]/\∀ a,N<=a->Q
 (ByteArray.extract s0_0 0 n3.toNat) (ByteArray.extract s0_0 n3.toNat ((s0_0.size:Int)).toNat) n0_1 a)) (((0:Int)<=(0:Int)/\0<=n3/\n3<=(s0_0.size :
 Int))/\(0<=n3/\n3<=(s0_0.size:Int)/\(s0_0.size:Int)<=(s0_0.size:Int))/\zO E [.var [.str b0,.j 0]]/\∀ a,N<=a->Q (ByteArray.extract s0_0 0
 n3.toNat) (ByteArray.extract s0_0 n3.toNat ((s0_0.size:Int)).toNat) n0_1 a))) (((0:Int)<=(0:Int)/\0<=n3/\n3<=(s0_0.size:Int))/\(0<=n3/\n3 <=
 (s0_0.size:Int)/\(s0_0.size:Int)<=(s0_0.size:Int))/\zO E [.var [.str b0,.j 0]]/\∀ a,N<=a->Q (ByteArray.extract s0_0 0 n3.toNat)
 (ByteArray.extract s0_0 n3.toNat ((s0_0.size:Int)).toNat) n0_1 a)):zC E Q N0 n3 s0_0 n0_1 N:=
  hE xa h
theorem yc (E:Env) (Q:QT [(Sh.sl 9),Sh.bool,Sh.str,(Sh.int IntKind.i64)]) (N0:Nat) (n1:Int) (s2 s3:ByteArray) (U V:Nat) (Y I:Int) (J:ByteArray) (O:Int) (r1:List D) (Z:Nat) (N:Nat) (h :
Br (decide (I<Y)) (∀ a,N<=a->BCalls prog 14 [.ag 9,.bool,.str,.i] [.pb 0 0 0 0] [Bx.var [.str J,.j O]] a (λx b s n d=>a<=d ->
 Bel d x->Br (!b) (zO E [.var [.str b0,.j 0]]/\uP d (Q none [] 0 false s n)) (Br (decide (I<IntKind.i64.wrap (n1 - 1))) (∀ a,d<=a->BCalls prog
 38 [.bool,.str,.i] [.pb 0 0 0 0,.str s2] [Bx.var [.str s,.j n]] a (λb d e f=>a<=f->Br (!b) (zO E [.var [.str b0,.j 0]]/\uP f (Q none
 [] 0 false d e)) ((U=r1.length/\V=Z)/\zK r1 [x] 136/\∀(c:Nat),zM E Q N0 n1 s2 s3 (r1++[x]).length c Y
 (IntKind.i64.wrap (I+1)) d e (r1++[x]) c f))) ((U=r1.length/\V=Z)/\zK r1 [x] 136/\∀(a:Nat),zM E Q N0 n1
 s2 s3 (r1++[x]).length a Y (IntKind.i64.wrap (I+1)) s n (r1++[x]) a d)))) (∀ b,N<=b->BCalls prog 38 [.bool,.str,.i] [.pb 0 0 0 0,.str s3]
 [Bx.var [.str J,.j O]] b (λc d e f=>b<=f->w3 (U=r1.length/\V=Z) (∀ a b,f<=b->Fresh N0 b a [D.ag r1]->zO E [.var
 [.str b0,.j 0]]/\uP b (Q a r1 Z c d e))))):zM E Q N0 n1 s2 s3 U V Y I J O r1 Z N:=
  hE xA h
theorem yj (N:Nat) (n1:Int) (I:ByteArray) (J:Int) (Q:QT [(Sh.ag 2),Sh.bool,Sh.str,(Sh.int IntKind.i64)]) (h:∀ E:Env,
Br (n1==0) (zO E [.var [.str b0,.j 0]]/\uP N (Q (D.ag [D.j 0,D.sl none 2 [] 0]) false I J)) (∀ a,N<=a->BCalls prog 38
 [.bool,.str,.i] [.pb 0 0 0 0,.str (bytes [73])] [Bx.var [.str I,.j J]] a (λb s n c=>a<=c->Br b (kA 2 126 [] c (λx a=>zO E [.var
 [.str b0,.j 0]]/\uP a (Q x true s n))) (∀ a,c<=a->BCalls prog 38 [.bool,.str,.i] [.pb 0 0 0 0,.str (bytes [66])] [Bx.var [.str s,.j n]] a (λb
 c d e=>a<=e->Br b (kA 2 127 [] e (λa b=>zO E [.var [.str b0,.j 0]]/\uP b (Q a true c d))) (∀ a,e<=a->BCalls prog 38
 [.bool,.str,.i] [.pb 0 0 0 0,.str (bytes [40])] [Bx.var [.str c,.j d]] a (λb c d e=>a<=e->Br b (∀ a,e<=a->BCalls prog
 104 [.ag 2,.bool,.str,.i] [.pb 0 0 0 0,.j (IntKind.i64.wrap (n1 - 1))] [Bx.var [.str c,.j d]] a (λb c d e f=>a<=f->Bel f b ->
 Br (!c) (zO E [.var [.str b0,.j 0]]/\uP f (Q (D.ag [D.j 0,D.sl none 2 [] 0]) false d e)) (∀ a,f<=a->BCalls prog 38 [.bool,.str,.i] [.pb
 0 0 0 0,.str (bytes [62])] [Bx.var [.str d,.j e]] a (λc d e f=>a<=f->Br (!c) (zO E [.var [.str b0,.j 0]]/\uP f (Q (D.ag [D.j
 0,D.sl none 2 [] 0]) false d e)) (∀ a,f<=a->BCalls prog 104 [.ag 2,.bool,.str,.i] [.pb 0 0 0 0,.j (IntKind.i64.wrap (n1 - 1))] [Bx.var [.str
 d,.j e]] a (λc d e f g=>a<=g->Bel g c->kA 2 128 [.dg 2 b,.dg 2 c] g (λa b=>Br d (∀ c,b<=c->BCalls
 prog 38 [.bool,.str,.i] [.pb 0 0 0 0,.str (bytes [41])] [Bx.var [.str e,.j f]] c (λb d e f=>c<=f->zO E [.var [.str b0,.j 0]] /\
 uP f (Q a b d e))) (zO E [.var [.str b0,.j 0]]/\uP b (Q a false e f))))))))) (∀ a,e<=a->BCalls prog 38 [.bool,.str,.i] [.pb 0 0
 0 0,.str (bytes [60])] [Bx.var [.str c,.j d]] a (λb c d e=>a<=e->Br b (∀ a,e<=a->BCalls prog 104 [.ag 2,.bool,.str,.i]
 [.pb 0 0 0 0,.j (IntKind.i64.wrap (n1 - 1))] [Bx.var [.str c,.j d]] a (λb c d e f=>a<=f->Bel f b->kA 2 129 [.dg 2 b] f
 (λa b=>Br c (∀ c,b<=c->BCalls prog 38 [.bool,.str,.i] [.pb 0 0 0 0,.str (bytes [62])] [Bx.var [.str d,.j e]] c (λb d e
 f=>c<=f->zO E [.var [.str b0,.j 0]]/\uP f (Q a b d e))) (zO E [.var [.str b0,.j 0]]/\uP b (Q a false d e))))) (zO E [.var
 [.str b0,.j 0]]/\uP e (Q (D.ag [D.j 0,D.sl none 2 [] 0]) false c d))))))))))):BCalls prog 104 [(Sh.ag 2),Sh.bool,Sh.str,(Sh.int IntKind.i64)] [.pb 0 0 0 0,.int .i64 n1] [.var [.str I,.int .i64 J]] N Q:=
  bE vz h
end Go.Proofs.YtldbmnklnpfpfaaGreatDoor
set_option maxRecDepth 100000
namespace Go.Proofs.YtldbmnklnpfpfaaGreatDoor
open Go Go.Proofs Go.Proofs.Tryz
def vJ:Hint:=⟨[],[],[(3,hs 4 [ec 2 [12,13]]),(6,hs 4 [em 2 (some 4) [0,3,4,5]]),(8,hs 4 [ec 2 [19]]),(14,hs 4 [ec 2 [29,30]]),(17,hs 4 [ec 2 [33]])]⟩
theorem q8 (N:Nat) (n0:Int) (Q:QT [.ag 9]) (h :
kB 23 [.j n0,.j 0,.j 20] N (λb a=>Br (!b) (∀ b,a<=b->Q (D.ag [D.j 0,D.t b0,D.t b0,D.j 0,D.j 0,D.sl none 2 [] 0,D.j 0,D.sl none 2 [] 0,
 D.sl none 9 [] 0]) b) (kS 24 [.j n0] a (λs a=>(57+s.size:Nat)<=9223372036854775807/\(ByteArray.size (bytes [60,40,92,120,58,73,46,126,40,
 40,114,101,99,32,112,32,110,58,73,62,60,73,62,46,40,105,102,32,40,110,61,48,41,32,60,49,62,32,60,40,120,42,126,40,112,32,
 40,110,45,49,41,41,41,62,41,41,32]++s)+3:Nat)<=9223372036854775807/\kAB 9 5 [.str (bytes [60,40,92,120,58,73,46,126,40,40,114,101,
 99,32,112,32,110,58,73,62,60,73,62,46,40,105,102,32,40,110,61,48,41,32,60,49,62,32,60,40,120,42,126,40,112,32,40,110,45,49,
 41,41,41,62,41,41,32]++s++bytes [41,41,62])] a (λx _ a=>uP a (Q x)))))):ACalls prog 10 [.ag 9] [PV.int .i64 n0] N Q:=
  eE H0 h
theorem qt (N:Nat) (n0:Int) (Q:QT [.ag 9]) (h :
kB 25 [.j n0,.j 0,.j 20] N (λb a=>Br (!b) (∀ b,a<=b->Q (D.ag [D.j 0,D.t b0,D.t b0,D.j 0,D.j 0,D.sl none 2 [] 0,D.j 0,D.sl none 2 [] 0,
 D.sl none 9 [] 0]) b) (kS 27 [.j n0] a (λs a=>kS 26 [.str (bytes [60,40,92,120,58,73,46,126,40,40,114,101,99,32,112,32,110,58,73,62,
 60,73,62,46,40,105,102,32,40,110,61,48,41,32,60,49,62,32,60,40,120,42,126,40,112,32,40,110,45,49,41,41,41,62,41,41,32,78,
 41,41,62]),.str (bytes [78]),.str s,.j 1] a (λa b=>kAB 9 6 [.str a] b (λx _ a=>uP a (Q x))))))):ACalls prog 11 [.ag 9] [PV.int .i64 n0] N Q:=
  eE H0 h
theorem vb (N:Nat) (n0:Int) (Q:QT [.bool]) (h :
kA 9 10 [.j n0] N (λx a=>kA 9 11 [.j n0] a (λa c=>kB 7 [.dg 9 a,.dg 9 x] c (λb c=>Br (!b) (uP c (Q false)) (Tree a/\Low N a
 /\ a=a/\Dis a [x]/\∀ b,c<=b->MC prog 8 a 1 b (λa n c=>b<=c->kI 9 [.dg 9 a,.j 1] c (λb c=>Br (decide (b<0)) (uP
 c (Q false)) (Br (bne b n) (uP c (Q false)) (kA 9 11 [.j n0] c (λb c=>kB 7 [.dg 9 b,.dg 9 x] c (λb c=>Br (!b) (uP c (Q
 false)) (kI 9 [.dg 9 a,.j 1] c (λa b=>Br (decide (a<0)) (uP b (Q false)) (Br (bne a n) (uP b (Q false)) (uP b (Q true)))))))))))))))):ACalls prog 4 [.bool] [PV.int .i64 n0] N Q:=
  eE vJ h
end Go.Proofs.YtldbmnklnpfpfaaGreatDoor
