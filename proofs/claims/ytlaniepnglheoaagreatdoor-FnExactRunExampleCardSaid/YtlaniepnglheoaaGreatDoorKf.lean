/- Printed by gen.py: what the functions come to. -/
import Derived.Test.YtlaniepnglheoaaGreatDoorJh
set_option linter.unusedVariables false
set_option maxRecDepth 100000
namespace Go.Proofs.YtlaniepnglheoaaGreatDoor
open Go Go.Proofs Go.Proofs.Tryz
def vO:Hint:=⟨[hc 2 [0,3]],[],[]⟩
def wf:Hint:=⟨[hc 3 [0,1,2,3,10,15,16] [(10,35,9)]],[],[]⟩
def ro:Hint:=⟨[],[],[(1,hs 11 [ec 2 [14]])]⟩
def rq:Hint:=⟨[],[],[(12,hs 10 [ec 2 [49,50]]),(15,hs 9 [ec 1 [67]])]⟩
def rp:Hint:=⟨[],[],[(11,[en 0,en 1,en 2,en 3,eh 4,en 5,eh 6,en 7])]⟩
def vP:Hint:=⟨[],[hc 2 [1,2],hc 3 [1,2]],[]⟩
def Dk:Hint:=⟨[],[],[(2,hs 13 [ec 4 [16]])]⟩
def xJ (E:Env)(Q:QT [.ag 9,.bool,.str,.i])(N0:Nat)(I:ByteArray)(J O:Int)(U Y:ByteArray)(aa ab:Int)(ac:Option Addr)(ae:List D)(ah:Nat)(ai:Int)(aj:Option Addr)(ak:List D)(al:Nat)(ao:Option Addr)(aq:List D)(au:Nat)(N:Nat):Prop:=AT prog 53 [.ag 9,.bool,.str,.i] Q N0 (.io E [.var [.str b0,.int .i64 0]]) (Hr prog 53 2) ⟨an 1 (.pb 1 0 0 0::.pb 2 0 0 0::an 64 []),[.var [.str I,.int .i64 J],.var [.pb 0 0 0 0],.var [.int .i64 O,.str U,.str Y,.int .i64 aa,.int .i64 ab,.sv ac 2 ae ah,.int .i64 ai,.sv aj 2 ak al,.sv ao 9 aq au]],N,some (we E 0 [.var [.str b0,.int .i64 0]],[])⟩
def wT (E:Env)(b1:Nat)(dd:List Deferred)(Q:QT [.ag 9,.bool,.str,.i])(N0:Nat)(I:ByteArray)(J O:Int)(U Y:ByteArray)(aa ab:Int)(ac:Option Addr)(ae:List D)(ah:Nat)(ai:Int)(aj:Option Addr)(ak:List D)(al:Nat)(ao:Option Addr)(aq:List D)(au:Nat)(N:Nat):Prop:=@AT ⟨some dd⟩ prog 53 [] noQ N0 (.df E (dfK prog 53 [.ag 9,.bool,.str,.i] Q N0 E [.var [.str b0,.int .i64 0]] b1)) (Hr prog 53 3) ⟨an 1 (.pb 1 0 0 0::.pb 2 0 0 0::an 64 []),[.var [.str I,.int .i64 J],.var [.pb 0 0 0 0],.var [.int .i64 O,.str U,.str Y,.int .i64 aa,.int .i64 ab,.sv ac 2 ae ah,.int .i64 ai,.sv aj 2 ak al,.sv ao 9 aq au]],N,some (we E 0 [.var [.str b0,.int .i64 0]]++[some b1],[])⟩
def zL (E:Env)(Q:QT [.str,.str,.i])(N0:Nat)(O:Int)(I:ByteArray)(J:Int)(N:Nat):Prop:=AT prog 108 [.str,.str,.i] Q N0 (.io E [.var [.str b0,.int .i64 0]]) (zF prog 108 2) ⟨.pb 0 0 0 0::an 2 (.int .i64 O::an 62 []),[.var [.str I,.int .i64 J]],N,some (we E 0 [.var [.str b0,.int .i64 0]],[])⟩
def zV (E:Env)(Q:QT [.sl 9,.bool,.str,.i])(N0:Nat)(n1:Int)(s2 s3:ByteArray)(O U:Nat)(Y aa:Int)(I:ByteArray)(J:Int)(r1:List D)(q1:Nat)(N:Nat):Prop:=AT prog 164 [.sl 9,.bool,.str,.i] Q N0 (.io E [.var [.str b0,.int .i64 0]]) (zF prog 164 3) ⟨.pb 0 0 0 0::.int .i64 n1::.str s2::.str s3::an 6 (.sb 1 9 0 O U::an 4 (.int .i64 Y::.int .i64 aa::an 30 [])),[.var [.str I,.int .i64 J],.arr 35 9 r1 q1],N,some (we E 0 [.var [.str b0,.int .i64 0]],[])⟩
theorem vM (N:Nat) (s0 s1:ByteArray) (Q:QT [.bool]) (h :
Br (decide ((s0.size:Int)≥(s1.size:Int))) (((0:Int)<=(0:Int)/\0<=(s1.size:Int)/\(s1.size:Int)<=(s0.size:Int))/\∀ a,N<=a->Q
 (ByteArray.toList (ByteArray.extract s0 0 ((s1.size:Int)).toNat)==ByteArray.toList s1) a) (uP N (Q false))):ACalls prog 247 [.bool] [PV.str s0,PV.str s1] N Q:=
  eE H0 h
theorem vL (N:Nat) (s0 s1:ByteArray) (Q:QT [.str,.bool]) (h :
kB 247 [.str s0,.str s1] N (fun b a=>Br (!b) (uP a (Q s0 false)) ((0<=(s1.size:Int)/\(s1.size:Int)<=(s0.size:Int)/\(s0.size:Int) <=
 (s0.size:Int))/\∀ b,a<=b->Q (ByteArray.extract s0 ((s1.size:Int)).toNat ((s0.size:Int)).toNat) true b))):ACalls prog 213 [.str,.bool] [PV.str s0,PV.str s1] N Q:=
  eE H0 h
theorem Ag (N:Nat) (I J:ByteArray) (Q:QT [.str,.bool]) (h :
∀ a,N<=a->ACalls prog 213 [.str,.bool] [.str I,.str J] a (λs b c=>a<=c->uP c (Q s b))):ACalls prog 163 [.str,.bool] [PV.str I,PV.str J] N Q:=
  eE H0 h
theorem B7 (N:Nat) (I:ByteArray) (Q:QT [.int .i64,.bool]) (h :
kIB 168 [.str I,.j 0,.j 999999] N (λn b a=>uP a (Q n b))):ACalls prog 109 [.int .i64,.bool] [PV.str I] N Q:=
 eE H0 h
theorem D9 (N:Nat) (I:ByteArray) (Q:QT [.ag 9,.bool]) (h :
∀ a,N<=a->BCalls prog 53 [.ag 9,.bool,.str,.i] [.pb 0 0 0 0] [Bx.var [.str I,.j 0]] a (λx b _ _ c=>a<=c->Bel c x->Br (!b) (∀ a,c
 <= a->Q (D.ag [D.j 0,D.t b0,D.t b0,D.j 0,D.j 0,D.sl none 2 [] 0,D.j 0,D.sl none 2 [] 0,D.sl none 9 [] 0]) false a) (kS 54 [.dg 9 x] c (λa b=>
 Br (!(ByteArray.toList a==ByteArray.toList I)) (∀ a,b<=a->Q (D.ag [D.j 0,D.t b0,D.t b0,D.j 0,D.j 0,D.sl none 2 [] 0,D.j 0,D.sl none 2 [] 0,
 D.sl none 9 [] 0]) false a) (kS 55 [.str I] b (λa b=>Br (ByteArray.toList a==ByteArray.toList b0) (∀ a,b<=a->Q (D.ag [D.j 0,D.t b0,D.t
 b0,D.j 0,D.j 0,D.sl none 2 [] 0,D.j 0,D.sl none 2 [] 0,D.sl none 9 [] 0]) false a) (uP b (Q x true)))))))):ACalls prog 23 [.ag 9,.bool] [PV.str I] N Q:=
  eE Dk h
theorem wE (N:Nat) (I:ByteArray) (J:Int) (Q:QT [(Sh.ag 9),Sh.bool,Sh.str,(Sh.int IntKind.i64)]) (h:∀ E:Env,
xJ E Q N I (IntKind.i64.wrap (J+1)) 0 b0 b0 0 0 none [] 0 0 none [] 0 none [] 0 N):BCalls prog 53 [(Sh.ag 9),Sh.bool,Sh.str,(Sh.int IntKind.i64)] [.pb 0 0 0 0] [.var [.str I,.int .i64 J]] N Q:=
 bE vP h
theorem wV (E:Env) (b1:Nat) (dd:List Deferred) (Q:QT [(Sh.ag 9),Sh.bool,Sh.str,(Sh.int IntKind.i64)]) (N0:Nat) (J:ByteArray) (I O:Int) (U Y:ByteArray) (aa ab:Int) (ac:Option Addr) (ae:List D) (ah:Nat) (ai:Int) (aj:Option Addr) (ak:List D) (al:Nat) (ao:Option Addr) (aq:List D) (au:Nat) (N:Nat) (h :
Br (decide (I>20)) (b1=b1/\zZ E [.var [.str b0,.j 0]]/\∀ a,N<=a->Q (D.ag [D.j 0,D.t b0,D.t b0,D.j 0,D.j 0,D.sl none 2 [] 0,D.j 0,
 D.sl none 2 [] 0,D.sl none 9 [] 0]) false J (IntKind.i64.wrap (I - 1)) a) (∀ a,N<=a->BCalls prog 104 [.bool,.str,.i] [.pb 0 0 0 0,.str (bytes
 [35,116])] [Bx.var [.str J,.j I]] a (λb s n c=>a<=c->Br b (kA 9 105 [.j 1,.bool true] c (λx a=>b1=b1/\zZ E [.var [.str b0,.j
 0]]/\uP a (Q x true s (IntKind.i64.wrap (n - 1))))) (∀ a,c<=a->BCalls prog 104 [.bool,.str,.i] [.pb 0 0 0 0,.str (bytes [35,102])] [Bx.var [.str s,
 .j n]] a (λb c d e=>a<=e->Br b (kA 9 105 [.j 0,.bool true] e (λa b=>b1=b1/\zZ E [.var [.str b0,.j 0]]/\uP b (Q a true
 c (IntKind.i64.wrap (d - 1))))) (∀ a,e<=a->BCalls prog 104 [.bool,.str,.i] [.pb 0 0 0 0,.str (bytes [60])] [Bx.var [.str c,.j d]] a (fun
 b c d e=>a<=e->Br b (∀ a,e<=a->BCalls prog 106 [.ag 9,.bool,.str,.i] [.pb 0 0 0 0,.dg 9 (D.ag [D.j 10,D.t b0,D.t b0,D.j 0,D.j
 0,D.sl none 2 [] 0,D.j 0,D.sl none 2 [] 0,D.sl none 9 [] 0]),.str b0,.str (bytes [62])] [Bx.var [.str c,.j d]] a (λb c d e f=>a <=
 f->Bel f b->b1=b1/\zZ E [.var [.str b0,.j 0]]/\uP f (Q b c d (IntKind.i64.wrap (e - 1))))) (∀ a,e<=a->BCalls prog 104 [.bool,
 .str,.i] [.pb 0 0 0 0,.str (bytes [126])] [Bx.var [.str c,.j d]] a (λb c d e=>a<=e->Br b (∀ a,e<=a->BCalls prog 106 [.ag
 9,.bool,.str,.i] [.pb 0 0 0 0,.dg 9 (D.ag [D.j 11,D.t b0,D.t b0,D.j 0,D.j 0,D.sl none 2 [] 0,D.j 0,D.sl none 2 [] 0,D.sl none 9 [] 0]),.str b0,
 .str b0] [Bx.var [.str c,.j d]] a (λb c d e f=>a<=f->Bel f b->b1=b1/\zZ E [.var [.str b0,.j 0]]/\uP f (Q b c d
 (IntKind.i64.wrap (e - 1))))) (∀ a,e<=a->BCalls prog 104 [.bool,.str,.i] [.pb 0 0 0 0,.str (bytes [40])] [Bx.var [.str c,.j d]] a (λb
 c d e=>a<=e->Br b (∀ a,e<=a->BCalls prog 107 [.ag 9,.bool,.str,.i] [.pb 0 0 0 0] [Bx.var [.str c,.j d]] a (λb c d
 e f=>a<=f->Bel f b->b1=b1/\zZ E [.var [.str b0,.j 0]]/\uP f (Q b c d (IntKind.i64.wrap (e - 1))))) (∀ a,e<=a->BCalls
 prog 108 [.str,.str,.i] [.pb 0 0 0 0] [Bx.var [.str c,.j d]] a (λb c d e=>a<=e->kIB 109 [.str b] e (λa e f=>Br e
 (kA 9 110 [.j a] f (λa b=>b1=b1/\zZ E [.var [.str b0,.j 0]]/\uP b (Q a true c (IntKind.i64.wrap (d - 1))))) (kA 9 111 [.str b] f
 (λa e=>b1=b1/\zZ E [.var [.str b0,.j 0]]/\∀ f,e<=f->Q a (!(ByteArray.toList b==ByteArray.toList b0)) c (IntKind.i64.wrap (d -
 1)) f)))))))))))))))):wT E b1 dd Q N0 J I O U Y aa ab ac ae ah ai aj ak al ao aq au N:=
  @Wc ⟨some dd⟩ prog sh 53 [] noQ N0 _ vP 400 _ _ _ mixed (by kernel_rfl) h
theorem p4 (N:Nat) (O I:ByteArray) (J:Int) (Q:QT [Sh.bool,Sh.str,(Sh.int IntKind.i64)]) (h:∀ E:Env,
∀ a,N<=a->ACalls prog 163 [.str,.bool] [.str I,.str O] a (λs b c=>a<=c->zZ E [.var [.str b0,.j 0]]/\uP c (Q b s
 J))):BCalls prog 104 [Sh.bool,Sh.str,(Sh.int IntKind.i64)] [.pb 0 0 0 0,.str O] [.var [.str I,.int .i64 J]] N Q:=
  bE H0 h
theorem tz (N:Nat) (x1:D) (s2 s3 sB0_0:ByteArray) (nB0_1:Int) (Q:QT [(Sh.ag 9),Sh.bool,Sh.str,(Sh.int IntKind.i64)]) (h:∀ E:Env,
Bel N x1->kI 165 [.dg 9 x1] N (fun n d=>∀ e,d<=e->BCalls prog 164 [.sl 9,.bool,.str,.i] [.pb 0 0 0 0,.j n,.str s2,.str s3]
 [Bx.var [.str sB0_0,.j nB0_1]] e (fun a b c d s f g=>e<=g->Bel g (D.sl a 9 b c)->zZ E [.var [.str b0,.j 0]]/\uP g (Q (D.ag [(x1.cell 0),
 (x1.cell 1),(x1.cell 2),(x1.cell 3),(x1.cell 4),(x1.cell 5),(x1.cell 6),(x1.cell 7),D.sl a 9 b c]) d s f)))):BCalls prog 106 [(Sh.ag 9),Sh.bool,Sh.str,(Sh.int IntKind.i64)] [.pb 0 0 0 0,.dg 9 x1,.str s2,.str s3] [.var [.str sB0_0,.int .i64 nB0_1]] N Q:=
  bE ro h
theorem tE (N:Nat) (I:ByteArray) (J:Int) (Q:QT [(Sh.ag 9),Sh.bool,Sh.str,(Sh.int IntKind.i64)]) (h:∀ E:Env,
∀ a,N<=a->BCalls prog 104 [.bool,.str,.i] [.pb 0 0 0 0,.str (bytes [33])] [Bx.var [.str I,.j J]] a (λb s n c=>a<=c ->
 Br b (∀ a,c<=a->BCalls prog 106 [.ag 9,.bool,.str,.i] [.pb 0 0 0 0,.dg 9 (D.ag [D.j 4,D.t (bytes [33]),D.t b0,D.j 0,D.j 0,D.sl none 2 [] 0,D.j
 0,D.sl none 2 [] 0,D.sl none 9 [] 0]),.str b0,.str (bytes [41])] [Bx.var [.str s,.j n]] a (λx b c d e=>a<=e->Bel e x->zZ E [.var [.str
 b0,.j 0]]/\uP e (Q x b c d))) (∀ a,c<=a->BCalls prog 104 [.bool,.str,.i] [.pb 0 0 0 0,.str (bytes [105,102,32])] [Bx.var [.str s,.j n]] a
 (λb c d e=>a<=e->Br b (∀ a,e<=a->BCalls prog 106 [.ag 9,.bool,.str,.i] [.pb 0 0 0 0,.dg 9 (D.ag [D.j 5,D.t b0,D.t b0,D.j 0,D.j
 0,D.sl none 2 [] 0,D.j 0,D.sl none 2 [] 0,D.sl none 9 [] 0]),.str (bytes [32]),.str (bytes [41])] [Bx.var [.str c,.j d]] a (λb c d e f
 => a<=f->Bel f b->zZ E [.var [.str b0,.j 0]]/\uP f (Q b c d e))) (∀ a,e<=a->BCalls prog 104 [.bool,.str,.i] [.pb 0 0 0 0,.str
 (bytes [114,117,110,32])] [Bx.var [.str c,.j d]] a (λb c d e=>a<=e->Br b (∀ a,e<=a->BCalls prog 106 [.ag 9,.bool,.str,
 .i] [.pb 0 0 0 0,.dg 9 (D.ag [D.j 12,D.t b0,D.t b0,D.j 0,D.j 0,D.sl none 2 [] 0,D.j 0,D.sl none 2 [] 0,D.sl none 9 [] 0]),.str b0,.str (bytes [41])]
 [Bx.var [.str c,.j d]] a (λb c d e f=>a<=f->Bel f b->zZ E [.var [.str b0,.j 0]]/\uP f (Q b c d e))) (∀ a,e <=
 a->BCalls prog 104 [.bool,.str,.i] [.pb 0 0 0 0,.str (bytes [108,105,102,116,32])] [Bx.var [.str c,.j d]] a (λb c d e=>a<=e ->
 Br b (∀ a,e<=a->BCalls prog 106 [.ag 9,.bool,.str,.i] [.pb 0 0 0 0,.dg 9 (D.ag [D.j 13,D.t b0,D.t b0,D.j 0,D.j 0,D.sl none 2 [] 0,D.j 0,
 D.sl none 2 [] 0,D.sl none 9 [] 0]),.str b0,.str (bytes [41])] [Bx.var [.str c,.j d]] a (λb c d e f=>a<=f->Bel f b->zZ E
 [.var [.str b0,.j 0]]/\uP f (Q b c d e))) (∀ a,e<=a->BCalls prog 104 [.bool,.str,.i] [.pb 0 0 0 0,.str (bytes [108,101,116,32])]
 [Bx.var [.str c,.j d]] a (λb c d e=>a<=e->Br b (∀ a,e<=a->BCalls prog 108 [.str,.str,.i] [.pb 0 0 0 0] [Bx.var [.str c,
 .j d]] a (λb c d e=>a<=e->∀ a,e<=a->BCalls prog 104 [.bool,.str,.i] [.pb 0 0 0 0,.str (bytes [61])] [Bx.var [.str c,.j
 d]] a (λc d e f=>a<=f->Br (!c) (zZ E [.var [.str b0,.j 0]]/\∀ a,f<=a->Q (D.ag [D.j 0,D.t b0,D.t b0,D.j 0,D.j 0,D.sl
 none 2 [] 0,D.j 0,D.sl none 2 [] 0,D.sl none 9 [] 0]) false d e a) (∀ a,f<=a->BCalls prog 106 [.ag 9,.bool,.str,.i] [.pb 0 0 0 0,.dg 9
 (D.ag [D.j 8,D.t b,D.t b0,D.j 0,D.j 0,D.sl none 2 [] 0,D.j 0,D.sl none 2 [] 0,D.sl none 9 [] 0]),.str (bytes [32]),.str (bytes [41])] [Bx.var [.str
 d,.j e]] a (λb c d e f=>a<=f->Bel f b->zZ E [.var [.str b0,.j 0]]/\uP f (Q b c d e)))))) (∀ a,e <=
 a->BCalls prog 104 [.bool,.str,.i] [.pb 0 0 0 0,.str (bytes [92])] [Bx.var [.str c,.j d]] a (λb c d e=>a<=e->Br b (∀ a,
 e<=a->BCalls prog 108 [.str,.str,.i] [.pb 0 0 0 0] [Bx.var [.str c,.j d]] a (λb c d e=>a<=e->∀ a,e<=a->BCalls
 prog 166 [.ag 9,.bool,.str,.i] [.pb 0 0 0 0,.dg 9 (D.ag [D.j 6,D.t b,D.t b0,D.j 0,D.j 0,D.sl none 2 [] 0,D.j 0,D.sl none 2 [] 0,D.sl none 9 []
 0])] [Bx.var [.str c,.j d]] a (λb c d e f=>a<=f->Bel f b->zZ E [.var [.str b0,.j 0]]/\uP f (Q b c d e))))
 (∀ a,e<=a->BCalls prog 104 [.bool,.str,.i] [.pb 0 0 0 0,.str (bytes [114,101,99,32])] [Bx.var [.str c,.j d]] a (λb c d e
 => a<=e->Br b (∀ a,e<=a->BCalls prog 108 [.str,.str,.i] [.pb 0 0 0 0] [Bx.var [.str c,.j d]] a (λb c d e=>a<=e
 -> ∀ a,e<=a->BCalls prog 104 [.bool,.str,.i] [.pb 0 0 0 0,.str (bytes [32])] [Bx.var [.str c,.j d]] a (λc d e f=>a<=f ->
 Br (!c) (zZ E [.var [.str b0,.j 0]]/\∀ a,f<=a->Q (D.ag [D.j 0,D.t b0,D.t b0,D.j 0,D.j 0,D.sl none 2 [] 0,D.j 0,D.sl none 2 [] 0,D.sl
 none 9 [] 0]) false d e a) (∀ a,f<=a->BCalls prog 108 [.str,.str,.i] [.pb 0 0 0 0] [Bx.var [.str d,.j e]] a (λc d e f
 => a<=f->∀ a,f<=a->BCalls prog 166 [.ag 9,.bool,.str,.i] [.pb 0 0 0 0,.dg 9 (D.ag [D.j 9,D.t b,D.t c,D.j 0,D.j 0,D.sl none 2 [] 0,
 D.j 0,D.sl none 2 [] 0,D.sl none 9 [] 0])] [Bx.var [.str d,.j e]] a (λb c d e f=>a<=f->Bel f b->zZ E [.var [.str b0,
 .j 0]]/\uP f (Q b c d e))))))) (∀ a,e<=a->BCalls prog 167 [.ag 9,.bool,.str,.i] [.pb 0 0 0 0] [Bx.var [.str c,.j d]] a (fun
 b c d e f=>a<=f->Bel f b->zZ E [.var [.str b0,.j 0]]/\uP f (Q b c d e))))))))))))))))):BCalls prog 107 [(Sh.ag 9),Sh.bool,Sh.str,(Sh.int IntKind.i64)] [.pb 0 0 0 0] [.var [.str I,.int .i64 J]] N Q:=
  bE H0 h
theorem t6 (N:Nat) (I:ByteArray) (J:Int) (Q:QT [Sh.str,Sh.str,(Sh.int IntKind.i64)]) (h:∀ E:Env,
zL E Q N 0 I J N):BCalls prog 108 [Sh.str,Sh.str,(Sh.int IntKind.i64)] [.pb 0 0 0 0] [.var [.str I,.int .i64 J]] N Q:=
 bE vO h
theorem tH (N:Nat) (n1:Int) (O U I:ByteArray) (J:Int) (Q:QT [(Sh.sl 9),Sh.bool,Sh.str,(Sh.int IntKind.i64)]) (h:∀ E:Env,
zV E Q N n1 O U 0 0 n1 0 I J [] 0 N):BCalls prog 164 [(Sh.sl 9),Sh.bool,Sh.str,(Sh.int IntKind.i64)] [.pb 0 0 0 0,.int .i64 n1,.str O,.str U] [.var [.str I,.int .i64 J]] N Q:=
 bE wf h
theorem xY (N:Nat) (I:D) (J:ByteArray) (O:Int) (Q:QT [(Sh.ag 9),Sh.bool,Sh.str,(Sh.int IntKind.i64)]) (h:∀ E:Env,
Bel N I->∀ a,N<=a->BCalls prog 104 [.bool,.str,.i] [.pb 0 0 0 0,.str (bytes [58])] [Bx.var [.str J,.j O]] a (λb s n c=>
 a<=c->Br b (∀ a,c<=a->BCalls prog 215 [.ag 2,.bool,.str,.i] [.pb 0 0 0 0,.j 8] [Bx.var [.str s,.j n]] a (λx b c d e=>a<=e->Bel
 e x->Br b (∃ a:Int,(I.cell 0)=D.j a/\Br (a==9) (∀ a,e<=a->BCalls prog 104 [.bool,.str,.i] [.pb 0 0 0 0,.str (bytes [62])] [Bx.var
 [.str c,.j d]] a (λb c d e=>a<=e->Br b (∀ a,e<=a->BCalls prog 215 [.ag 2,.bool,.str,.i] [.pb 0 0 0 0,.j 8] [Bx.var [.str c,
 .j d]] a (λb c d e f=>a<=f->Bel f b->Br (!c) (zZ E [.var [.str b0,.j 0]]/\∀ a,f<=a->Q (D.ag [D.j 0,D.t b0,D.t b0,D.j 0,
 D.j 0,D.sl none 2 [] 0,D.j 0,D.sl none 2 [] 0,D.sl none 9 [] 0]) false d e a) (∀ a,f<=a->BCalls prog 104 [.bool,.str,.i] [.pb 0 0 0 0,.str
 (bytes [46])] [Bx.var [.str d,.j e]] a (λc d e f=>a<=f->Br (!c) (zZ E [.var [.str b0,.j 0]]/\∀ a,f<=a->Q (D.ag [D.j 0,
 D.t b0,D.t b0,D.j 0,D.j 0,D.sl none 2 [] 0,D.j 0,D.sl none 2 [] 0,D.sl none 9 [] 0]) false d e a) (∀ a,f<=a->BCalls prog 106 [.ag 9,
 .bool,.str,.i] [.pb 0 0 0 0,.dg 9 (D.ag [(I.cell 0),(I.cell 1),(I.cell 2),(I.cell 3),(x.cell 0),(x.cell 1),(b.cell 0),(b.cell 1),(I.cell
 8)]),.str b0,.str (bytes [41])] [Bx.var [.str d,.j e]] a (λb c d e f=>a<=f->Bel f b->zZ E [.var [.str b0,.j 0]]/\uP f
 (Q b c d e))))))) (Br (!b) (zZ E [.var [.str b0,.j 0]]/\∀ a,e<=a->Q (D.ag [D.j 0,D.t b0,D.t b0,D.j 0,D.j 0,D.sl none 2 [] 0,D.j 0,
 D.sl none 2 [] 0,D.sl none 9 [] 0]) false c d a) (∀ a,e<=a->BCalls prog 104 [.bool,.str,.i] [.pb 0 0 0 0,.str (bytes [46])] [Bx.var [.str c,
 .j d]] a (λb c d e=>a<=e->Br (!b) (zZ E [.var [.str b0,.j 0]]/\∀ a,e<=a->Q (D.ag [D.j 0,D.t b0,D.t b0,D.j 0,D.j 0,
 D.sl none 2 [] 0,D.j 0,D.sl none 2 [] 0,D.sl none 9 [] 0]) false c d a) (∀ a,e<=a->BCalls prog 106 [.ag 9,.bool,.str,.i] [.pb 0 0 0 0,.dg
 9 (D.ag [(I.cell 0),(I.cell 1),(I.cell 2),(I.cell 3),(x.cell 0),(x.cell 1),(I.cell 6),(I.cell 7),(I.cell 8)]),.str b0,.str (bytes [41])]
 [Bx.var [.str c,.j d]] a (λb c d e f=>a<=f->Bel f b->zZ E [.var [.str b0,.j 0]]/\uP f (Q b c d e)))))))) (Br
 (!b) (zZ E [.var [.str b0,.j 0]]/\∀ a,e<=a->Q (D.ag [D.j 0,D.t b0,D.t b0,D.j 0,D.j 0,D.sl none 2 [] 0,D.j 0,D.sl none 2 [] 0,D.sl none 9
 [] 0]) false c d a) (∀ a,e<=a->BCalls prog 104 [.bool,.str,.i] [.pb 0 0 0 0,.str (bytes [46])] [Bx.var [.str c,.j d]] a (λb c d
 e=>a<=e->Br (!b) (zZ E [.var [.str b0,.j 0]]/\∀ a,e<=a->Q (D.ag [D.j 0,D.t b0,D.t b0,D.j 0,D.j 0,D.sl none 2 [] 0,D.j 0,D.sl
 none 2 [] 0,D.sl none 9 [] 0]) false c d a) (∀ a,e<=a->BCalls prog 106 [.ag 9,.bool,.str,.i] [.pb 0 0 0 0,.dg 9 (D.ag [(I.cell 0),(I.cell
 1),(I.cell 2),(I.cell 3),(x.cell 0),(x.cell 1),(I.cell 6),(I.cell 7),(I.cell 8)]),.str b0,.str (bytes [41])] [Bx.var [.str c,.j d]] a (fun
 b c d e f=>a<=f->Bel f b->zZ E [.var [.str b0,.j 0]]/\uP f (Q b c d e))))))) (Br (!b) (zZ E [.var [.str b0,.j 0]] /\
 ∀ a,e<=a->Q (D.ag [D.j 0,D.t b0,D.t b0,D.j 0,D.j 0,D.sl none 2 [] 0,D.j 0,D.sl none 2 [] 0,D.sl none 9 [] 0]) false c d a) (∀ a,e <=
 a->BCalls prog 104 [.bool,.str,.i] [.pb 0 0 0 0,.str (bytes [46])] [Bx.var [.str c,.j d]] a (λb c d e=>a<=e->Br (!b) (zZ
 E [.var [.str b0,.j 0]]/\∀ a,e<=a->Q (D.ag [D.j 0,D.t b0,D.t b0,D.j 0,D.j 0,D.sl none 2 [] 0,D.j 0,D.sl none 2 [] 0,D.sl none 9 [] 0]) false
 c d a) (∀ a,e<=a->BCalls prog 106 [.ag 9,.bool,.str,.i] [.pb 0 0 0 0,.dg 9 (D.ag [(I.cell 0),(I.cell 1),(I.cell 2),(I.cell 3),
 (x.cell 0),(x.cell 1),(I.cell 6),(I.cell 7),(I.cell 8)]),.str b0,.str (bytes [41])] [Bx.var [.str c,.j d]] a (λb c d e f=>
 a<=f->Bel f b->zZ E [.var [.str b0,.j 0]]/\uP f (Q b c d e)))))))) (Br b (∃ a:Int,(I.cell 0)=D.j a/\Br (a==9) (∀
 a,c<=a->BCalls prog 104 [.bool,.str,.i] [.pb 0 0 0 0,.str (bytes [62])] [Bx.var [.str s,.j n]] a (λb c d e=>a<=e->Br b (∀
 a,e<=a->BCalls prog 215 [.ag 2,.bool,.str,.i] [.pb 0 0 0 0,.j 8] [Bx.var [.str c,.j d]] a (λb c d e f=>a<=f->Bel
 f b->Br (!c) (zZ E [.var [.str b0,.j 0]]/\∀ a,f<=a->Q (D.ag [D.j 0,D.t b0,D.t b0,D.j 0,D.j 0,D.sl none 2 [] 0,D.j 0,D.sl none 2 []
 0,D.sl none 9 [] 0]) false d e a) (∀ a,f<=a->BCalls prog 104 [.bool,.str,.i] [.pb 0 0 0 0,.str (bytes [46])] [Bx.var [.str d,.j e]]
 a (λc d e f=>a<=f->Br (!c) (zZ E [.var [.str b0,.j 0]]/\∀ a,f<=a->Q (D.ag [D.j 0,D.t b0,D.t b0,D.j 0,D.j 0,D.sl
 none 2 [] 0,D.j 0,D.sl none 2 [] 0,D.sl none 9 [] 0]) false d e a) (∀ a,f<=a->BCalls prog 106 [.ag 9,.bool,.str,.i] [.pb 0 0 0 0,.dg 9
 (D.ag [(I.cell 0),(I.cell 1),(I.cell 2),(I.cell 3),(I.cell 4),(I.cell 5),(b.cell 0),(b.cell 1),(I.cell 8)]),.str b0,.str (bytes [41])]
 [Bx.var [.str d,.j e]] a (λb c d e f=>a<=f->Bel f b->zZ E [.var [.str b0,.j 0]]/\uP f (Q b c d e)))))))
 (Br (!b) (zZ E [.var [.str b0,.j 0]]/\∀ a,e<=a->Q (D.ag [D.j 0,D.t b0,D.t b0,D.j 0,D.j 0,D.sl none 2 [] 0,D.j 0,D.sl none 2 [] 0,D.sl
 none 9 [] 0]) false c d a) (∀ a,e<=a->BCalls prog 104 [.bool,.str,.i] [.pb 0 0 0 0,.str (bytes [46])] [Bx.var [.str c,.j d]] a (fun
 b c d e=>a<=e->Br (!b) (zZ E [.var [.str b0,.j 0]]/\∀ a,e<=a->Q (D.ag [D.j 0,D.t b0,D.t b0,D.j 0,D.j 0,D.sl none 2 [] 0,
 D.j 0,D.sl none 2 [] 0,D.sl none 9 [] 0]) false c d a) (∀ a,e<=a->BCalls prog 106 [.ag 9,.bool,.str,.i] [.pb 0 0 0 0,.dg 9 I,.str b0,
 .str (bytes [41])] [Bx.var [.str c,.j d]] a (λb c d e f=>a<=f->Bel f b->zZ E [.var [.str b0,.j 0]]/\uP f (Q b c
 d e)))))))) (Br (!b) (zZ E [.var [.str b0,.j 0]]/\∀ a,c<=a->Q (D.ag [D.j 0,D.t b0,D.t b0,D.j 0,D.j 0,D.sl none 2 [] 0,D.j 0,D.sl none 2
 [] 0,D.sl none 9 [] 0]) false s n a) (∀ a,c<=a->BCalls prog 104 [.bool,.str,.i] [.pb 0 0 0 0,.str (bytes [46])] [Bx.var [.str s,.j n]] a (fun
 b c d e=>a<=e->Br (!b) (zZ E [.var [.str b0,.j 0]]/\∀ a,e<=a->Q (D.ag [D.j 0,D.t b0,D.t b0,D.j 0,D.j 0,D.sl none 2 [] 0,
 D.j 0,D.sl none 2 [] 0,D.sl none 9 [] 0]) false c d a) (∀ a,e<=a->BCalls prog 106 [.ag 9,.bool,.str,.i] [.pb 0 0 0 0,.dg 9 I,.str b0,
 .str (bytes [41])] [Bx.var [.str c,.j d]] a (λb c d e f=>a<=f->Bel f b->zZ E [.var [.str b0,.j 0]]/\uP f (Q b c
 d e))))))) (Br (!b) (zZ E [.var [.str b0,.j 0]]/\∀ a,c<=a->Q (D.ag [D.j 0,D.t b0,D.t b0,D.j 0,D.j 0,D.sl none 2 [] 0,D.j 0,D.sl none 2
 [] 0,D.sl none 9 [] 0]) false s n a) (∀ a,c<=a->BCalls prog 104 [.bool,.str,.i] [.pb 0 0 0 0,.str (bytes [46])] [Bx.var [.str s,.j n]] a (fun
 b c d e=>a<=e->Br (!b) (zZ E [.var [.str b0,.j 0]]/\∀ a,e<=a->Q (D.ag [D.j 0,D.t b0,D.t b0,D.j 0,D.j 0,D.sl none 2 [] 0,
 D.j 0,D.sl none 2 [] 0,D.sl none 9 [] 0]) false c d a) (∀ a,e<=a->BCalls prog 106 [.ag 9,.bool,.str,.i] [.pb 0 0 0 0,.dg 9 I,.str b0,
 .str (bytes [41])] [Bx.var [.str c,.j d]] a (λb c d e f=>a<=f->Bel f b->zZ E [.var [.str b0,.j 0]]/\uP f (Q b
 c d e))))))))):BCalls prog 166 [(Sh.ag 9),Sh.bool,Sh.str,(Sh.int IntKind.i64)] [.pb 0 0 0 0,.dg 9 I] [.var [.str J,.int .i64 O]] N Q:=
  bE H0 h
theorem t7 (N:Nat) (I:ByteArray) (J:Int) (Q:QT [(Sh.ag 9),Sh.bool,Sh.str,(Sh.int IntKind.i64)]) (h:∀ E:Env,
∀ c,N<=c->BCalls prog 53 [.ag 9,.bool,.str,.i] [.pb 0 0 0 0] [Bx.var [.str I,.j J]] c (λx b s n d=>c<=d->Bel d x ->
 Br (!b) (zZ E [.var [.str b0,.j 0]]/\∀ a,d<=a->Q (D.ag [D.j 0,D.t b0,D.t b0,D.j 0,D.j 0,D.sl none 2 [] 0,D.j 0,D.sl none 2 [] 0,D.sl none 9 []
 0]) false s n a) (Br (ByteArray.toList s==ByteArray.toList b0) (zZ E [.var [.str b0,.j 0]]/\∀ a,d<=a->Q (D.ag [D.j 0,D.t b0,D.t b0,D.j 0,D.j 0,
 D.sl none 2 [] 0,D.j 0,D.sl none 2 [] 0,D.sl none 9 [] 0]) false s n a) (((0:Int)<=(0:Int)/\(0:Int)<=(1:Int)/\1<=(s.size:Int))/\Br
 (!(ByteArray.toList (ByteArray.extract s 0 1)==ByteArray.toList (bytes [32]))) (((0:Int)<=(1:Int)/\1<=(s.size:Int)/\(s.size:Int)<=(s.size:Int))
 /\ ∀ b,d<=b->BCalls prog 53 [.ag 9,.bool,.str,.i] [.pb 0 0 0 0] [Bx.var [.str (ByteArray.extract s 1 ((s.size:Int)).toNat),.j n]] b (λc d e
 f g=>b<=g->Bel g c->Br d (∀ b,g<=b->BCalls prog 104 [.bool,.str,.i] [.pb 0 0 0 0,.str (bytes [41])] [Bx.var [.str e,.j f]] b (fun
 d e f g=>b<=g->w4 (2=([x,c]).length/\2=2) (∀ a b,g<=b->Fresh N b a [D.ag [x,c],D.sl none 2 [] 0,D.sl none 2 [] 0]->zZ E
 [.var [.str b0,.j 0]]/\∀ g,b<=g->Q (D.ag [D.j 4,D.t (ByteArray.extract s 0 1),D.t b0,D.j 0,D.j 0,D.sl none 2 [] 0,D.j 0,D.sl none 2 [] 0,D.sl
 a 9 [x,c] 2]) d e f g))) (w4 (2=([x,c]).length/\2=2) (∀ a b,g<=b->Fresh N b a [D.ag [x,c],D.sl none 2 [] 0,D.sl none 2 []
 0]->zZ E [.var [.str b0,.j 0]]/\∀ d,b<=d->Q (D.ag [D.j 4,D.t (ByteArray.extract s 0 1),D.t b0,D.j 0,D.j 0,D.sl none 2 [] 0,D.j 0,D.sl none
 2 [] 0,D.sl a 9 [x,c] 2]) false e f d)))) (((0:Int)<=(1:Int)/\1<=(s.size:Int)/\(s.size:Int)<=(s.size:Int))/\∀ a,d<=a->BCalls
 prog 53 [.ag 9,.bool,.str,.i] [.pb 0 0 0 0] [Bx.var [.str (ByteArray.extract s 1 ((s.size:Int)).toNat),.j n]] a (λb c d e f=>a<=f ->
 Bel f b->Br c (∀ a,f<=a->BCalls prog 104 [.bool,.str,.i] [.pb 0 0 0 0,.str (bytes [41])] [Bx.var [.str d,.j e]] a (λc d e f
 => a<=f->w4 (2=([x,b]).length/\2=2) (∀ a g,f<=g->Fresh N g a [D.ag [x,b],D.sl none 2 [] 0,D.sl none 2 [] 0]->zZ E [.var
 [.str b0,.j 0]]/\∀ f,g<=f->Q (D.ag [D.j 7,D.t b0,D.t b0,D.j 0,D.j 0,D.sl none 2 [] 0,D.j 0,D.sl none 2 [] 0,D.sl a 9 [x,b] 2]) c d
 e f))) (w4 (2=([x,b]).length/\2=2) (∀ a c,f<=c->Fresh N c a [D.ag [x,b],D.sl none 2 [] 0,D.sl none 2 [] 0]->zZ E [.var [.str
 b0,.j 0]]/\∀ f,c<=f->Q (D.ag [D.j 7,D.t b0,D.t b0,D.j 0,D.j 0,D.sl none 2 [] 0,D.j 0,D.sl none 2 [] 0,D.sl a 9 [x,b] 2]) false d e
 f)))))))):BCalls prog 167 [(Sh.ag 9),Sh.bool,Sh.str,(Sh.int IntKind.i64)] [.pb 0 0 0 0] [.var [.str I,.int .i64 J]] N Q:=
  bE rp h
theorem wU (E:Env) (Q:QT [Sh.str,Sh.str,(Sh.int IntKind.i64)]) (N0:Nat) (n3:Int) (s0_0:ByteArray) (n0_1:Int) (N:Nat) (h :
Br (decide (n3<(s0_0.size:Int))) ((0<=n3/\n3<(s0_0.size:Int))/\Br (decide ((UInt8.toNat (Array.getD (ByteArray.data s0_0) n3.toNat (OfNat.ofNat
 0)):Int)≥97)) ((0<=n3/\n3<(s0_0.size:Int))/\Br (decide ((UInt8.toNat (Array.getD (ByteArray.data s0_0) n3.toNat (OfNat.ofNat 0)):Int)<=122))
 (zL E Q N0 (IntKind.i64.wrap (n3+1)) s0_0 n0_1 N) ((0<=n3/\n3<(s0_0.size:Int))/\Br (decide ((UInt8.toNat (Array.getD
 (ByteArray.data s0_0) n3.toNat (OfNat.ofNat 0)):Int)≥48)) ((0<=n3/\n3<(s0_0.size:Int))/\Br (decide ((UInt8.toNat (Array.getD (ByteArray.data s0_0)
 n3.toNat (OfNat.ofNat 0)):Int)<=57)) (zL E Q N0 (IntKind.i64.wrap (n3+1)) s0_0 n0_1 N) (((0:Int)<=(0:Int)/\0<=n3/\n3 <=
 (s0_0.size:Int))/\(0<=n3/\n3<=(s0_0.size:Int)/\(s0_0.size:Int)<=(s0_0.size:Int))/\zZ E [.var [.str b0,.j 0]]/\∀ a,N<=a->Q
 (ByteArray.extract s0_0 0 n3.toNat) (ByteArray.extract s0_0 n3.toNat ((s0_0.size:Int)).toNat) n0_1 a)) (((0:Int)<=(0:Int)/\0<=n3/\n3<=(s0_0.size :
 Int))/\(0<=n3/\n3<=(s0_0.size:Int)/\(s0_0.size:Int)<=(s0_0.size:Int))/\zZ E [.var [.str b0,.j 0]]/\∀ a,N<=a->Q (ByteArray.extract s0_0 0
 n3.toNat) (ByteArray.extract s0_0 n3.toNat ((s0_0.size:Int)).toNat) n0_1 a))) ((0<=n3/\n3<(s0_0.size:Int))/\Br (decide ((UInt8.toNat (Array.getD
 (ByteArray.data s0_0) n3.toNat (OfNat.ofNat 0)):Int)≥48)) ((0<=n3/\n3<(s0_0.size:Int))/\Br (decide ((UInt8.toNat (Array.getD (ByteArray.data s0_0)
 n3.toNat (OfNat.ofNat 0)):Int)<=57)) (zL E Q N0 (IntKind.i64.wrap (n3+1)) s0_0 n0_1 N) (((0:Int)<=(0:Int)/\0<=n3/\n3 <=
 (s0_0.size:Int))/\(0<=n3/\n3<=(s0_0.size:Int)/\(s0_0.size:Int)<=(s0_0.size:Int))/\zZ E [.var [.str b0,.j 0]]/\∀ a,N<=a->Q
 (ByteArray.extract s0_0 0 n3.toNat) (ByteArray.extract s0_0 n3.toNat ((s0_0.size:Int)).toNat) n0_1 a)) (((0:Int)<=(0:Int)/\0<=n3/\n3<=(s0_0.size :
 Int))/\(0<=n3/\n3<=(s0_0.size:Int)/\(s0_0.size:Int)<=(s0_0.size:Int))/\zZ E [.var [.str b0,.j 0]]/\∀ a,N<=a->Q (ByteArray.extract s0_0 0
 n3.toNat) (ByteArray.extract s0_0 n3.toNat ((s0_0.size:Int)).toNat) n0_1 a))) (((0:Int)<=(0:Int)/\0<=n3/\n3<=(s0_0.size:Int))/\(0<=n3/\n3 <=
 (s0_0.size:Int)/\(s0_0.size:Int)<=(s0_0.size:Int))/\zZ E [.var [.str b0,.j 0]]/\∀ a,N<=a->Q (ByteArray.extract s0_0 0 n3.toNat)
 (ByteArray.extract s0_0 n3.toNat ((s0_0.size:Int)).toNat) n0_1 a)):zL E Q N0 n3 s0_0 n0_1 N:=
  hE vO h
theorem xz (E:Env) (Q:QT [(Sh.sl 9),Sh.bool,Sh.str,(Sh.int IntKind.i64)]) (N0:Nat) (n1:Int) (s2 s3:ByteArray) (U Y:Nat) (aa I:Int) (J:ByteArray) (O:Int) (r1:List D) (q1:Nat) (N:Nat) (h :
Br (decide (I<aa)) (∀ a,N<=a->BCalls prog 53 [.ag 9,.bool,.str,.i] [.pb 0 0 0 0] [Bx.var [.str J,.j O]] a (λx b s n d=>a<=d ->
 Bel d x->Br (!b) (zZ E [.var [.str b0,.j 0]]/\uP d (Q none [] 0 false s n)) (Br (decide (I<IntKind.i64.wrap (n1 - 1))) (∀ a,d<=a->BCalls prog
 104 [.bool,.str,.i] [.pb 0 0 0 0,.str s2] [Bx.var [.str s,.j n]] a (λb d e f=>a<=f->Br (!b) (zZ E [.var [.str b0,.j 0]]/\uP f (Q
 none [] 0 false d e)) ((U=r1.length/\Y=q1)/\zB r1 [x] 136/\∀(c:Nat),zV E Q N0 n1 s2 s3 (r1++[x]).length c aa
 (IntKind.i64.wrap (I+1)) d e (r1++[x]) c f))) ((U=r1.length/\Y=q1)/\zB r1 [x] 136/\∀(a:Nat),zV E Q N0 n1
 s2 s3 (r1++[x]).length a aa (IntKind.i64.wrap (I+1)) s n (r1++[x]) a d)))) (∀ b,N<=b->BCalls prog 104 [.bool,.str,.i] [.pb 0 0 0 0,.str
 s3] [Bx.var [.str J,.j O]] b (λc d e f=>b<=f->w3 (U=r1.length/\Y=q1) (∀ a b,f<=b->Fresh N0 b a [D.ag r1]->zZ E [.var
 [.str b0,.j 0]]/\uP b (Q a r1 q1 c d e))))):zV E Q N0 n1 s2 s3 U Y aa I J O r1 q1 N:=
  hE wf h
theorem wF (N:Nat) (n1:Int) (I:ByteArray) (J:Int) (Q:QT [(Sh.ag 2),Sh.bool,Sh.str,(Sh.int IntKind.i64)]) (h:∀ E:Env,
Br (n1==0) (zZ E [.var [.str b0,.j 0]]/\uP N (Q (D.ag [D.j 0,D.sl none 2 [] 0]) false I J)) (∀ a,N<=a->BCalls prog 104
 [.bool,.str,.i] [.pb 0 0 0 0,.str (bytes [73])] [Bx.var [.str I,.j J]] a (λb s n c=>a<=c->Br b (kA 2 179 [] c (λx a=>zZ E [.var
 [.str b0,.j 0]]/\uP a (Q x true s n))) (∀ a,c<=a->BCalls prog 104 [.bool,.str,.i] [.pb 0 0 0 0,.str (bytes [66])] [Bx.var [.str s,.j n]] a (fun
 b c d e=>a<=e->Br b (kA 2 180 [] e (λa b=>zZ E [.var [.str b0,.j 0]]/\uP b (Q a true c d))) (∀ a,e<=a->BCalls prog
 104 [.bool,.str,.i] [.pb 0 0 0 0,.str (bytes [40])] [Bx.var [.str c,.j d]] a (λb c d e=>a<=e->Br b (∀ a,e<=a->BCalls
 prog 215 [.ag 2,.bool,.str,.i] [.pb 0 0 0 0,.j (IntKind.i64.wrap (n1 - 1))] [Bx.var [.str c,.j d]] a (λb c d e f=>a<=f->Bel f
 b->Br (!c) (zZ E [.var [.str b0,.j 0]]/\uP f (Q (D.ag [D.j 0,D.sl none 2 [] 0]) false d e)) (∀ a,f<=a->BCalls prog 104 [.bool,.str,
 .i] [.pb 0 0 0 0,.str (bytes [62])] [Bx.var [.str d,.j e]] a (λc d e f=>a<=f->Br (!c) (zZ E [.var [.str b0,.j 0]]/\uP f (Q
 (D.ag [D.j 0,D.sl none 2 [] 0]) false d e)) (∀ a,f<=a->BCalls prog 215 [.ag 2,.bool,.str,.i] [.pb 0 0 0 0,.j (IntKind.i64.wrap (n1 - 1))]
 [Bx.var [.str d,.j e]] a (λc d e f g=>a<=g->Bel g c->kA 2 184 [.dg 2 b,.dg 2 c] g (λa b=>Br d (∀ c,b <=
 c->BCalls prog 104 [.bool,.str,.i] [.pb 0 0 0 0,.str (bytes [41])] [Bx.var [.str e,.j f]] c (λb d e f=>c<=f->zZ E [.var [.str
 b0,.j 0]]/\uP f (Q a b d e))) (zZ E [.var [.str b0,.j 0]]/\uP b (Q a false e f))))))))) (∀ a,e<=a->BCalls prog 104 [.bool,
 .str,.i] [.pb 0 0 0 0,.str (bytes [60])] [Bx.var [.str c,.j d]] a (λb c d e=>a<=e->Br b (∀ a,e<=a->BCalls prog 215 [.ag
 2,.bool,.str,.i] [.pb 0 0 0 0,.j (IntKind.i64.wrap (n1 - 1))] [Bx.var [.str c,.j d]] a (λb c d e f=>a<=f->Bel f b->kA 2 225
 [.dg 2 b] f (λa b=>Br c (∀ c,b<=c->BCalls prog 104 [.bool,.str,.i] [.pb 0 0 0 0,.str (bytes [62])] [Bx.var [.str d,.j e]] c
 (λb d e f=>c<=f->zZ E [.var [.str b0,.j 0]]/\uP f (Q a b d e))) (zZ E [.var [.str b0,.j 0]]/\uP b (Q a false d
 e))))) (zZ E [.var [.str b0,.j 0]]/\uP e (Q (D.ag [D.j 0,D.sl none 2 [] 0]) false c d))))))))))):BCalls prog 215 [(Sh.ag 2),Sh.bool,Sh.str,(Sh.int IntKind.i64)] [.pb 0 0 0 0,.int .i64 n1] [.var [.str I,.int .i64 J]] N Q:=
  bE rq h
end Go.Proofs.YtlaniepnglheoaaGreatDoor
set_option maxRecDepth 100000
namespace Go.Proofs.YtlaniepnglheoaaGreatDoor
open Go Go.Proofs Go.Proofs.Tryz
def Dq:Hint:=⟨[],[],[(8,hs 10 [ec 1 [12],ec 7 [18]])]⟩
def A9:Hint:=⟨[hc 4 [1,2,5]],[],[(6,[en 0,en 1,en 2,en 3,en 4,en 5,en 6,ec 7 [25],ec 8 [24],en 9])]⟩
def qA:Hint:=⟨[hc 6 [1,2,4,5,6],hc 12 [1,2,4,5,9]],[],[(8,hs 7 [ec 5 [37]]),(9,hs 9 [ec 2 [41]]),(17,[en 0,en 1,en 2,en 3,en 4,en 5,en 6,en 7,eh 8,en 9,en 10,en 11,en 12,en 13])]⟩
def KH:Hint:=⟨[],[],[(1,hs 12 [ec 5 [13]]),(4,hs 7 [ec 3 [21,23]])]⟩
def Gf:Hint:=⟨[],[],[(1,hs 4 [ec 1 [8]])]⟩
def Az:Hint:=⟨[hc 3 [1,2,4,5]],[],[(5,hs 7 [ec 5 [20]]),(6,hs 9 [ec 2 [24]]),(10,[en 0,en 1,en 2,en 3,en 4,en 5,en 6,en 7,en 8,en 9,ec 10 [38,44],eh 11,en 12]),(12,[en 0,en 1,en 2,en 3,en 4,en 5,en 6,en 8,en 9,en 10,en 11,en 12,en 13,ec 7 [51,54],ec 14 [55,61],eh 15,en 16])]⟩
def AE:Hint:=⟨[hc 10 [1,2,4,10]],[],[(3,hs 3 [ec 1 [25]]),(4,hs 8 [ec 1 [29]]),(7,hs 8 [ec 4 [41]]),(12,[en 0,en 1,en 2,en 3,en 4,en 5,en 6,en 13,ec 7 [57],ec 8 [56],en 9,en 10,en 11,en 12,eh 14,en 15,en 16]),(14,hs 8 [ec 3 [65,67]])]⟩
def IP:Hint:=⟨[],[],[(2,hs 3 [ec 1 [11]]),(3,hs 8 [ec 1 [15]]),(6,hs 10 [ec 7 [36]]),(8,[en 0,en 1,en 2,en 3,en 4,en 5,en 6,ec 7 [45,48],eh 8,en 9]),(10,hs 7 [ec 4 [62]])]⟩
def Ge:Hint:=⟨[],[],[(1,hs 2 [ec 1 [13]]),(5,hs 8 [ec 1 [21]]),(8,hs 8 [ec 1 [30]]),(11,hs 13 [ec 4 [42]]),(12,hs 6 [ec 2 [47,48]]),(17,hs 8 [ec 1 [57]])]⟩
def xM (Q:QT [.bool])(N0:Nat)(n1 I:Int)(J:D)(N:Nat):Prop:=AT prog 91 [.bool] Q N0 .ord (zF prog 91 4) ⟨an 1 (.int .i64 n1::.pb 0 0 0 0::an 2 (.int .i64 I::an 24 [])),[.vd J 9],N,none⟩
def yU (Q:QT [.ag 9,.int .i64])(N0:Nat)(n4:Int)(m5 c5:Nat)(n6:Int)(y0:D)(I:Int)(J O:ByteArray)(U Y:Int)(aa:Option Addr)(ab:List D)(ac:Nat)(ae:Int)(ah:Option Addr)(ai:List D)(aj:Nat)(ak:Option Addr)(al:List D)(ao:Nat)(r2:List D)(q2:Nat)(N:Nat):Prop:=AT prog 92 [.ag 9,.int .i64] Q N0 .ord (zF prog 92 6) ⟨an 1 (.pb 0 0 0 0::.pb 1 0 0 0::an 1 (.int .i64 n4::.sb 2 0 0 m5 c5::.int .i64 n6::an 95 [])),[.vd y0 9,.var [.int .i64 I,.str J,.str O,.int .i64 U,.int .i64 Y,.sv aa 2 ab ac,.int .i64 ae,.sv ah 2 ai aj,.sv ak 9 al ao],.arr 3 0 r2 q2],N,none⟩
def wo (Q:QT [.ag 9,.int .i64])(N0:Nat)(n5:Int)(y0:D)(I:Int)(J O:ByteArray)(U Y:Int)(aa:Option Addr)(ab:List D)(ac:Nat)(ae:Int)(ah:Option Addr)(ai:List D)(aj:Nat)(ak:Option Addr)(al:List D)(ao:Nat)(y2:D)(N:Nat):Prop:=AT prog 93 [.ag 9,.int .i64] Q N0 .ord (zF prog 93 3) ⟨an 1 (.pb 0 0 0 0::.pb 1 0 0 0::an 1 (.pb 2 0 0 0::.int .i64 n5::an 58 [])),[.vd y0 9,.var [.int .i64 I,.str J,.str O,.int .i64 U,.int .i64 Y,.sv aa 2 ab ac,.int .i64 ae,.sv ah 2 ai aj,.sv ak 9 al ao],.vd y2 9],N,none⟩
def yW (Q:QT [.ag 9,.int .i64,.bool])(N0:Nat)(n1 aq:Int)(y0:D)(I:Int)(J O:ByteArray)(U Y:Int)(aa:Option Addr)(ab:List D)(ac:Nat)(ae:Int)(ah:Option Addr)(ai:List D)(aj:Nat)(ak:Option Addr)(al:List D)(ao:Nat)(N:Nat):Prop:=AT prog 94 [.ag 9,.int .i64,.bool] Q N0 .ord (zF prog 94 10) ⟨an 1 (.int .i64 n1::.pb 0 0 0 0::an 1 (.pb 1 0 0 0::an 5 (.int .i64 aq::an 60 []))),[.vd y0 9,.var [.int .i64 I,.str J,.str O,.int .i64 U,.int .i64 Y,.sv aa 2 ab ac,.int .i64 ae,.sv ah 2 ai aj,.sv ak 9 al ao]],N,none⟩
def xL (Q:QT [.ag 9,.int .i64])(N0:Nat)(n4:Int)(m5 c5:Nat)(n9:Int)(y0:D)(I:Int)(J O:ByteArray)(U Y:Int)(aa:Option Addr)(ab:List D)(ac:Nat)(ae:Int)(ah:Option Addr)(ai:List D)(aj:Nat)(ak:Option Addr)(al:List D)(ao:Nat)(r2:List D)(q2:Nat)(N:Nat):Prop:=AT prog 92 [.ag 9,.int .i64] Q N0 .ord (zF prog 92 12) ⟨an 1 (.pb 0 0 0 0::.pb 1 0 0 0::an 1 (.int .i64 n4::.sb 2 0 0 m5 c5::an 3 (.int .i64 n9::an 92 []))),[.vd y0 9,.var [.int .i64 I,.str J,.str O,.int .i64 U,.int .i64 Y,.sv aa 2 ab ac,.int .i64 ae,.sv ah 2 ai aj,.sv ak 9 al ao],.arr 3 0 r2 q2],N,none⟩
theorem EN (N:Nat) (I:D) (Q:QT [.bool]) (h :
Bel N I->∃ n:Int,(I.cell 0)=D.j n/\Br (n==2) (uP N (Q true)) (Br (n==3) (uP N (Q true)) (Br (n==6) (uP N (Q true)) (Br (n==9) (uP N (Q
 true)) (Br (n==10) (kB 88 [.dg 9 I,.j 0] N (λb d=>Br b (∃ a b,∃ c:Nat,(I.cell 8)=D.sl a 9 b c/\((0:Int)<=(0:Int)/\0<(b.length :
 Int))/\kB 91 [.dg 9 (List.getD b 0 default),.j 1] d (λa b=>uP b (Q a))) (uP d (Q false)))) (uP N (Q false))))))):ACalls prog 47 [.bool] [PV.dg 9 I] N Q:=
  eE Dq h
theorem J2 (N:Nat) (I:D) (n1:Int) (Q:QT [.bool]) (h :
Bel N I->∃ n:Int,(I.cell 0)=D.j n/\Br (n==11) (Br (n1==1) (uP N (Q false)) (xM Q N n1 0 I N)) (xM Q N n1 0 I N)):ACalls prog 91 [.bool] [PV.dg 9 I,PV.int .i64 n1] N Q:=
 eE A9 h
theorem Lc (N:Nat) (I:D) (Q:QT [.ag 9,.int .i64]) (h :
Bel N I->∃ s,(I.cell 1)=D.t s/\Br (ByteArray.toList s==ByteArray.toList (bytes [38])) (yU Q N 3 2 2 0 I 0 b0 b0 0 0 none [] 0 0 none
 [] 0 none [] 0 [D.j 0,D.j 0] 2 N) (∃ a,(I.cell 1)=D.t a/\Br (ByteArray.toList a==ByteArray.toList (bytes [124])) (yU Q N 3 2 2 0 I 0
 b0 b0 0 0 none [] 0 0 none [] 0 none [] 0 [D.j 0,D.j 0] 2 N) (∃ a,(I.cell 1)=D.t a/\Br (ByteArray.toList a==ByteArray.toList (bytes [33]))
 (yU Q N 3 2 2 0 I 0 b0 b0 0 0 none [] 0 0 none [] 0 none [] 0 [D.j 0,D.j 0] 2 N) (yU Q N 2 2 2 0 I 0 b0 b0 0 0 none [] 0 0 none [] 0
 none [] 0 [D.j 0,D.j 0] 2 N)))):ACalls prog 92 [.ag 9,.int .i64] [PV.dg 9 I] N Q:=
  eE qA h
theorem Lb (N:Nat) (I:D) (n1:Int) (Q:QT [.ag 9,.int .i64]) (h :
Bel N I->∃ a b,∃ c:Nat,(I.cell 8)=D.sl a 9 b c/\(0<=n1/\n1<(b.length:Int))/\∀ a,N<=a->ACalls prog 48 [.ag 9,.i] [.dg 9 (List.getD
 b n1.toNat default)] a (λx n b=>a<=b->Bel b x->Br (n==0) (uP b (Q I n)) (kA 9 95 [.dg 9 I,.j n1,.dg 9 x] b (λa b=>uP b (Q a
 n))))):ACalls prog 156 [.ag 9,.int .i64] [PV.dg 9 I,PV.int .i64 n1] N Q:=
  eE KH h
theorem HP (N:Nat) (J:D) (n1:Int) (I:D) (Q:QT [.ag 9]) (h :
Bel N J->Bel N I->∀ b,N<=b->ACalls prog 45 [.pk,.i,.str,.str,.i,.dc,.dc,.dc,.dc,.row 35 9] [.dg 9 J] b (λn s c d x e f g
 h i j=>b<=j->Bel j (D.ag h)->(0<=n1/\n1<(h.length:Int)/\(0+n1.toNat:Nat)<h.length)/\(0+n1.toNat:Nat)<h.length/\w5 (h.length
 = (List.set h (0+n1.toNat:Nat) I).length/\i=i) (∀ a b,j<=b->Fresh N b a [D.ag (List.set h (0+n1.toNat:Nat) I),x,e,f,g]->∀ j,
 b<=j->Q (D.ag [D.j n,D.t s,D.t c,D.j d,x,e,f,g,D.sl a 9 (List.set h (0+n1.toNat:Nat) I) i]) j))):ACalls prog 95 [.ag 9] [PV.dg 9 J,PV.int .i64 n1,PV.dg 9 I] N Q:=
  eE Gf h
theorem Jp (N:Nat) (I:D) (Q:QT [.ag 9,.int .i64]) (h :
Bel N I->∃ a b,∃ c:Nat,(I.cell 8)=D.sl a 9 b c/\((0:Int)<=(0:Int)/\0<(b.length:Int))/\wo Q N 0 I 0 b0 b0 0 0 none []
 0 0 none [] 0 none [] 0 (List.getD b 0 default) N):ACalls prog 93 [.ag 9,.int .i64] [PV.dg 9 I] N Q:=
  eE Az h
theorem HN (N:Nat) (x0:D) (n1:Int) (Q:QT [.ag 9,.int .i64,.bool]) (h :
Bel N x0->∃ n:Int,(x0.cell 0)=D.j n/\Br (n==11) (Br (n1==1) (∃ a d,∃ c:Nat,(x0.cell 8)=D.sl a 9 d c/\((0:Int)<=(0:Int)/\0 <
 (d.length:Int))/\kB 47 [.dg 9 (List.getD d 0 default)] N (fun b a=>Br (!b) (∀ b,a<=b->ACalls prog 156 [.ag 9,.i] [.dg 9 x0,.j 0] b (fun x a
 c=>b<=c->Bel c x->uP c (Q x a true))) (∃ b:Int,D.cell (List.getD d 0 default) 0=D.j b/\Br (b==10) (∃ b c,∃ e:Nat,D.cell
 (List.getD d 0 default) 8=D.sl b 9 c e/\((0:Int)<=(0:Int)/\0<(c.length:Int))/\∀ b,a<=b->ACalls prog 45 [.pk,.i,.str,.str,.i,
 .dc,.dc,.dc,.dc,.row 35 9] [.dg 9 (List.getD c 0 default)] b (fun a s c d e f g h i j k=>b<=k->Bel k (D.ag i)->w2
 (i.length=i.length/\j=j) (∀ b l,k<=l->Fresh N l b [D.ag i,e,f,g,h]->uP l (Q (D.ag [D.j a,D.t s,D.t c,D.j d,
 e,f,g,h,D.sl b 9 i j]) 6 true)))) (uP a (Q x0 0 true))))) (yW Q N n1 0 x0 0 b0 b0 0 0 none [] 0 0 none [] 0 none [] 0 N))
 (yW Q N n1 0 x0 0 b0 b0 0 0 none [] 0 0 none [] 0 none [] 0 N)):ACalls prog 94 [.ag 9,.int .i64,.bool] [PV.dg 9 x0,PV.int .i64 n1] N Q:=
  eE AE h
theorem Jq (N:Nat) (I:D) (Q:QT [.ag 9,.int .i64]) (h :
Bel N I->∃ a d,∃ c:Nat,(I.cell 8)=D.sl a 9 d c/\((0:Int)<=(0:Int)/\0<(d.length:Int))/\kB 47 [.dg 9 (List.getD d 0 default)] N (fun
 b a=>Br (!b) (∀ b,a<=b->ACalls prog 156 [.ag 9,.i] [.dg 9 I,.j 0] b (λx n a=>b<=a->Bel a x->uP a (Q x n))) (∃ b:Int,(I.cell 0) =
 D.j b/\Br (b==5) (∃ b:Int,D.cell (List.getD d 0 default) 0=D.j b/\Br (b==3) (∃ b c,∃ e:Nat,(I.cell 8)=D.sl b 9 c e /\
 ∃ b:Int,D.cell (List.getD d 0 default) 3=D.j b/\(0<=IntKind.i64.wrap (2 - b)/\IntKind.i64.wrap (2 - b)<(c.length:Int))/\∀ d,a<=d ->
 ACalls prog 45 [.pk,.i,.str,.str,.i,.dc,.dc,.dc,.dc,.row 35 9] [.dg 9 (List.getD c (IntKind.i64.wrap (2 - b)).toNat default)] d (λa s b
 c e f g h i j k=>d<=k->Bel k (D.ag i)->w2 (i.length=i.length/\j=j) (∀ d l,k<=l->Fresh N l d [D.ag i,
 e,f,g,h]->uP l (Q (D.ag [D.j a,D.t s,D.t b,D.j c,e,f,g,h,D.sl d 9 i j]) 2)))) (∃ b:Int,(I.cell 0)=D.j b/\Br
 (b==8) (∃ b c,∃ e:Nat,(I.cell 8)=D.sl b 9 c e/\((0:Int)<=(1:Int)/\1<(c.length:Int))/\∃ b,(I.cell 1)=D.t b/\kA 9
 158 [.dg 9 (List.getD c 1 default),.str b,.dg 9 (List.getD d 0 default)] a (λa b=>uP b (Q a 5))) (∃ b:Int,(I.cell 0)=D.j b/\Br
 (b==12) (∃ b:Int,D.cell (List.getD d 0 default) 0=D.j b/\Br (b==10) (∃ b c,∃ e:Nat,D.cell (List.getD d 0 default) 8=D.sl b 9
 c e/\((0:Int)<=(0:Int)/\0<(c.length:Int))/\∀ b,a<=b->ACalls prog 45 [.pk,.i,.str,.str,.i,.dc,.dc,.dc,.dc,.row 35 9] [.dg 9
 (List.getD c 0 default)] b (λa c d e f g h i j k l=>b<=l->Bel l (D.ag j)->w2 (j.length=j.length/\k =
 k) (∀ b m,l<=m->Fresh N m b [D.ag j,f,g,h,i]->uP m (Q (D.ag [D.j a,D.t c,D.t d,D.j e,f,g,h,i,D.sl
 b 9 j k]) 7)))) (∃ b:Int,(I.cell 0)=D.j b/\Br (b==13) (∃ b:Int,D.cell (List.getD d 0 default) 0=D.j b/\Br (b==2) ((1
 = ([List.getD d 0 default]).length/\1=1)/\∀ b,ApA b [List.getD d 0 default]->∀ c,a<=c->vN c [b]->ACalls prog 141 [.ag 9] [.j 10,.sv
 b 9 [List.getD d 0 default] 1] c (λa d=>c<=d->Off [b] a/\(Bel d a->uP d (Q a 8)))) (∃ b:Int,D.cell (List.getD d 0
 default) 0=D.j b/\Br (b==3) ((1=([List.getD d 0 default]).length/\1=1)/\∀ b,ApA b [List.getD d 0 default]->∀ c,a<=c->vN c
 [b]->ACalls prog 141 [.ag 9] [.j 10,.sv b 9 [List.getD d 0 default] 1] c (λa d=>c<=d->Off [b] a/\(Bel d a->uP d (Q a
 8)))) (uP a (Q I 0)))) (uP a (Q I 0)))) (∃ b:Int,(I.cell 0)=D.j b/\Br (b==13) (∃ b:Int,D.cell (List.getD d 0 default) 0=D.j b
 /\ Br (b==2) ((1=([List.getD d 0 default]).length/\1=1)/\∀ b,ApA b [List.getD d 0 default]->∀ c,a<=c->vN c [b]->ACalls prog 141
 [.ag 9] [.j 10,.sv b 9 [List.getD d 0 default] 1] c (λa d=>c<=d->Off [b] a/\(Bel d a->uP d (Q a 8)))) (∃ b:Int,
 D.cell (List.getD d 0 default) 0=D.j b/\Br (b==3) ((1=([List.getD d 0 default]).length/\1=1)/\∀ b,ApA b [List.getD d 0 default]->∀
 c,a<=c->vN c [b]->ACalls prog 141 [.ag 9] [.j 10,.sv b 9 [List.getD d 0 default] 1] c (λa d=>c<=d->Off [b] a/\(Bel
 d a->uP d (Q a 8)))) (uP a (Q I 0)))) (uP a (Q I 0)))))) (∃ b:Int,(I.cell 0)=D.j b/\Br (b==8) (∃ b c,∃ e:Nat,
 (I.cell 8)=D.sl b 9 c e/\((0:Int)<=(1:Int)/\1<(c.length:Int))/\∃ b,(I.cell 1)=D.t b/\kA 9 158 [.dg 9 (List.getD c 1
 default),.str b,.dg 9 (List.getD d 0 default)] a (λa b=>uP b (Q a 5))) (∃ b:Int,(I.cell 0)=D.j b/\Br (b==12) (∃ b :
 Int,D.cell (List.getD d 0 default) 0=D.j b/\Br (b==10) (∃ b c,∃ e:Nat,D.cell (List.getD d 0 default) 8=D.sl b 9 c e/\((0 :
 Int)<=(0:Int)/\0<(c.length:Int))/\∀ b,a<=b->ACalls prog 45 [.pk,.i,.str,.str,.i,.dc,.dc,.dc,.dc,.row 35 9] [.dg 9 (List.getD c 0
 default)] b (λa c d e f g h i j k l=>b<=l->Bel l (D.ag j)->w2 (j.length=j.length/\k=k) (∀ b
 m,l<=m->Fresh N m b [D.ag j,f,g,h,i]->uP m (Q (D.ag [D.j a,D.t c,D.t d,D.j e,f,g,h,i,D.sl b
 9 j k]) 7)))) (∃ b:Int,(I.cell 0)=D.j b/\Br (b==13) (∃ b:Int,D.cell (List.getD d 0 default) 0=D.j b/\Br (b==2) ((1 =
 ([List.getD d 0 default]).length/\1=1)/\∀ b,ApA b [List.getD d 0 default]->∀ c,a<=c->vN c [b]->ACalls prog 141 [.ag 9] [.j 10,.sv
 b 9 [List.getD d 0 default] 1] c (λa d=>c<=d->Off [b] a/\(Bel d a->uP d (Q a 8)))) (∃ b:Int,D.cell (List.getD d 0
 default) 0=D.j b/\Br (b==3) ((1=([List.getD d 0 default]).length/\1=1)/\∀ b,ApA b [List.getD d 0 default]->∀ c,a<=c->vN c
 [b]->ACalls prog 141 [.ag 9] [.j 10,.sv b 9 [List.getD d 0 default] 1] c (λa d=>c<=d->Off [b] a/\(Bel d a->uP d (Q
 a 8)))) (uP a (Q I 0)))) (uP a (Q I 0)))) (∃ b:Int,(I.cell 0)=D.j b/\Br (b==13) (∃ b:Int,D.cell (List.getD d 0 default) 0=D.j
 b/\Br (b==2) ((1=([List.getD d 0 default]).length/\1=1)/\∀ b,ApA b [List.getD d 0 default]->∀ c,a<=c->vN c [b]->ACalls
 prog 141 [.ag 9] [.j 10,.sv b 9 [List.getD d 0 default] 1] c (λa d=>c<=d->Off [b] a/\(Bel d a->uP d (Q a 8)))) (∃ b
 : Int,D.cell (List.getD d 0 default) 0=D.j b/\Br (b==3) ((1=([List.getD d 0 default]).length/\1=1)/\∀ b,ApA b [List.getD d 0
 default]->∀ c,a<=c->vN c [b]->ACalls prog 141 [.ag 9] [.j 10,.sv b 9 [List.getD d 0 default] 1] c (λa d=>c<=d->Off
 [b] a/\(Bel d a->uP d (Q a 8)))) (uP a (Q I 0)))) (uP a (Q I 0)))))))):ACalls prog 96 [.ag 9,.int .i64] [PV.dg 9 I] N Q:=
  eE IP h
theorem HO (N:Nat) (I:D) (Q:QT [.ag 9,.int .i64]) (h :
Bel N I->kB 47 [.dg 9 I] N (λb d=>Br b (uP d (Q I 0)) (∃ n:Int,(I.cell 0)=D.j n/\Br (n==4) (∀ a,d<=a->ACalls prog 92 [.ag 9,.i]
 [.dg 9 I] a (λx b c=>a<=c->Bel c x->uP c (Q x b))) (Br (n==7) (∀ a,d<=a->ACalls prog 93 [.ag 9,.i] [.dg 9 I] a (λb c d=>
 a<=d->Bel d b->uP d (Q b c))) (Br (n==10) (∃ a b,∃ c:Nat,(I.cell 8)=D.sl a 9 b c/\((0:Int)<=(0:Int)/\0<(b.length:Int))/\∀
 a,d<=a->ACalls prog 94 [.ag 9,.i,.bool] [.dg 9 (List.getD b 0 default),.j 1] a (λb c _ d=>a<=d->Bel d b->kA 9 95 [.dg 9
 I,.j 0,.dg 9 b] d (λa b=>uP b (Q a c)))) (Br (n==5) (∀ a,d<=a->ACalls prog 96 [.ag 9,.i] [.dg 9 I] a (λb c d=>a
 <= d->Bel d b->uP d (Q b c))) (Br (n==8) (∀ a,d<=a->ACalls prog 96 [.ag 9,.i] [.dg 9 I] a (λb c d=>a<=d->Bel d b
 -> uP d (Q b c))) (Br (n==12) (∀ a,d<=a->ACalls prog 96 [.ag 9,.i] [.dg 9 I] a (λb c d=>a<=d->Bel d b->uP d (Q b
 c))) (Br (n==13) (∀ a,d<=a->ACalls prog 96 [.ag 9,.i] [.dg 9 I] a (λb c d=>a<=d->Bel d b->uP d (Q b c))) (uP d (Q
 I 0))))))))))):ACalls prog 48 [.ag 9,.int .i64] [PV.dg 9 I] N Q:=
  eE Ge h
theorem pA (N:Nat) (n0:Int) (Q:QT [.ag 9]) (h :
∀ a,N<=a->Q (D.ag [D.j 2,D.t b0,D.t b0,D.j n0,D.j 0,D.sl none 2 [] 0,D.j 0,D.sl none 2 [] 0,D.sl none 9 [] 0]) a):ACalls prog 149 [.ag 9] [PV.int .i64 n0] N Q:=
  eE H0 h
theorem rI (N:Nat) (n0:Int) (Q:QT [.ag 9]) (h :
∀ a,N<=a->Q (D.ag [D.j 3,D.t b0,D.t b0,D.j n0,D.j 0,D.sl none 2 [] 0,D.j 0,D.sl none 2 [] 0,D.sl none 9 [] 0]) a):ACalls prog 80 [.ag 9] [PV.int .i64 n0] N Q:=
  eE H0 h
theorem HG (N:Nat) (I:ByteArray) (n1 n2:Int) (Q:QT [.int .i64,.bool]) (h :
kB 44 [.j n1,.j 0,.j 10006] N (λb a=>Br (!b) (uP a (Q 0 false)) (kB 44 [.j n2,.j 0,.j 10006] a (λa b=>Br (!a) (uP b (Q 0 false)) (Br
 (ByteArray.toList I==ByteArray.toList (bytes [43])) (kI 207 [.j (IntKind.i64.wrap (n1+n2))] b (λn a=>uP a (Q n true))) (Br (ByteArray.toList I ==
 ByteArray.toList (bytes [45])) (kI 207 [.j (IntKind.i64.wrap (n1 - n2))] b (λa b=>uP b (Q a true))) (Br (ByteArray.toList I==ByteArray.toList
 (bytes [42])) (kI 207 [.j (IntKind.i64.wrap (n1*n2))] b (λa b=>uP b (Q a true))) (Br (ByteArray.toList I==ByteArray.toList (bytes [61])) (kI
 208 [.bool (n1==n2)] b (λa b=>uP b (Q a true))) (Br (ByteArray.toList I==ByteArray.toList (bytes [60])) (kI 208 [.bool (decide (n1<n2))] b
 (λa b=>uP b (Q a true))) (Br (ByteArray.toList I==ByteArray.toList (bytes [38])) (Br (n1==1) (kI 208 [.bool (n2==1)] b (λa b=>uP
 b (Q a true))) (kI 208 [.bool false] b (λa b=>uP b (Q a true)))) (Br (ByteArray.toList I==ByteArray.toList (bytes [124])) (Br (n1==1) (kI
 208 [.bool true] b (λa b=>uP b (Q a true))) (kI 208 [.bool (n2==1)] b (λa b=>uP b (Q a true)))) (Br (ByteArray.toList I ==
 ByteArray.toList (bytes [33])) (kI 208 [.bool (n1==0)] b (λa b=>uP b (Q a true))) (uP b (Q 0 false)))))))))))))):ACalls prog 157 [.int .i64,.bool] [PV.str I,PV.int .i64 n1,PV.int .i64 n2] N Q:=
  eE H0 h
theorem Jm (N:Nat) (n0:Int) (Q:QT [.int .i64]) (h :
(10007:Int)≠(0:Int)/\Br (decide (Int.tmod n0 10007<0)) (uP N (Q (IntKind.i64.wrap (Int.tmod n0 10007+10007)))) (uP N (Q (Int.tmod n0 10007)))):ACalls prog 207 [.int .i64] [PV.int .i64 n0] N Q:=
 eE H0 h
theorem Ld (N:Nat) (b0:Bool) (Q:QT [.int .i64]) (h :
Br b0 (uP N (Q 1)) (uP N (Q 0))):ACalls prog 208 [.int .i64] [PV.bool b0] N Q:=
 eE H0 h
theorem qh {Q:QT [.bool]} {N0:Nat} {n1 I:Int} {J:D} {N:Nat} (h :
∃ a d,∃ c:Nat,(J.cell 8)=D.sl a 9 d c/\Br (decide (I<(d.length:Int))) (∃ a c,∃ d:Nat,(J.cell 8)=D.sl a 9 c d/\(0<=I
 /\ I<(c.length:Int))/\kI 151 [.dg 9 J,.j n1] N (λn a=>kB 91 [.dg 9 (List.getD c I.toNat default),.j n] a (λb a=>Br (!b) (uP a (Q
 false)) (xM Q N0 n1 (IntKind.i64.wrap (I+1)) J a)))) (uP N (Q true))):xM Q N0 n1 I J N:=
  hE A9 h
theorem AN {Q:QT [.ag 9,.int .i64]} {N0:Nat} {n4:Int} {m5 c5:Nat} {n6:Int} {y0:D} {I:Int} {J O:ByteArray} {U Y:Int} {aa:Option Addr} {ab:List D} {ac:Nat} {ae:Int} {ah:Option Addr} {ai:List D} {aj:Nat} {ak:Option Addr} {al:List D} {ao:Nat} {r2:List D} {q2:Nat} {N:Nat} (h :
∃ a d,∃ c:Nat,(y0.cell 8)=D.sl a 9 d c/\Br (decide (n6<(d.length:Int))) (∃ a c,∃ d:Nat,(y0.cell 8)=D.sl a 9 c d/\(0<=n6
 /\ n6<(c.length:Int))/\kB 47 [.dg 9 (List.getD c n6.toNat default)] N (λb a=>Br (!b) (∀ b,a<=b->ACalls prog 156 [.ag 9,.i] [.dg 9 y0,.j
 n6] b (λx n a=>b<=a->Bel a x->uP a (Q x n))) (yU Q N0 n4 m5 c5 (IntKind.i64.wrap (n6+1)) y0 I J O U Y aa ab ac
 ae ah ai aj ak al ao r2 q2 a))) (xL Q N0 n4 m5 c5 0 y0 I J O U Y aa ab ac ae ah ai aj ak al ao r2
 q2 N)):yU Q N0 n4 m5 c5 n6 y0 I J O U Y aa ab ac ae ah ai aj ak al ao r2 q2 N:=
  hE qA h
theorem qW {Q:QT [.ag 9,.int .i64]} {N0:Nat} {n5:Int} {y0:D} {J:Int} {O U:ByteArray} {Y aa:Int} {ab:Option Addr} {ac:List D} {ae:Nat} {ah:Int} {ai:Option Addr} {aj:List D} {ak:Nat} {al:Option Addr} {ao:List D} {aq:Nat} {I:D} {N:Nat} (h :
Br (decide (n5<2)) (∃ a d,∃ c:Nat,(y0.cell 8)=D.sl a 9 d c/\(0<=n5/\n5<(d.length:Int))/\kB 47 [.dg 9 (List.getD d n5.toNat default)] N
 (λb a=>Br (!b) (∀ b,a<=b->ACalls prog 156 [.ag 9,.i] [.dg 9 y0,.j n5] b (λx n a=>b<=a->Bel a x->uP a (Q x n))) (wo Q N0
 (IntKind.i64.wrap (n5+1)) y0 J O U Y aa ab ac ae ah ai aj ak al ao aq I a))) (∃ a:Int,(I.cell 0)=D.j a/\Br (a
 == 6) (∃ a b,∃ c:Nat,(I.cell 8)=D.sl a 9 b c/\((0:Int)<=(0:Int)/\0<(b.length:Int))/\∃ s,(I.cell 1)=D.t s/\∃ a c,∃
 d:Nat,(y0.cell 8)=D.sl a 9 c d/\((0:Int)<=(1:Int)/\1<(c.length:Int))/\kA 9 158 [.dg 9 (List.getD b 0 default),.str s,.dg 9
 (List.getD c 1 default)] N (λa b=>uP b (Q a 3))) (Br (a==9) (∃ a b,∃ c:Nat,(I.cell 8)=D.sl a 9 b c/\((0:Int)<=(0 :
 Int)/\0<(b.length:Int))/\∃ a,(I.cell 1)=D.t a/\∃ c,(I.cell 2)=D.t c/\∃ d e,∃ f:Nat,(y0.cell 8)=D.sl d 9 e f/\((0
 : Int)<=(1:Int)/\1<(e.length:Int))/\kA 9 158 [.dg 9 (List.getD b 0 default),.str a,.dg 9 I] N (λa b=>kA 9 158 [.dg 9 a,.str c,
 .dg 9 (List.getD e 1 default)] b (λa b=>uP b (Q a 4)))) (uP N (Q y0 0))))):wo Q N0 n5 y0 J O U Y aa ab ac ae ah ai aj ak al ao aq I N:=
  hE Az h
theorem sR {Q:QT [.ag 9,.int .i64,.bool]} {N0:Nat} {n1 I:Int} {y0:D} {J:Int} {O U:ByteArray} {Y aa:Int} {ab:Option Addr} {ac:List D} {ae:Nat} {ah:Int} {ai:Option Addr} {aj:List D} {ak:Nat} {al:Option Addr} {ao:List D} {aq:Nat} {N:Nat} (h :
∃ a d,∃ c:Nat,(y0.cell 8)=D.sl a 9 d c/\Br (decide (I<(d.length:Int))) (∃ a c,∃ d:Nat,(y0.cell 8)=D.sl a 9 c d/\(0 <=
 I/\I<(c.length:Int))/\kI 151 [.dg 9 y0,.j n1] N (λn a=>∀ d,a<=d->ACalls prog 94 [.ag 9,.i,.bool] [.dg 9 (List.getD c I.toNat
 default),.j n] d (λx a b c=>d<=c->Bel c x->Br b (kA 9 95 [.dg 9 y0,.j I,.dg 9 x] c (λb c=>uP c (Q b a true)))
 (yW Q N0 n1 (IntKind.i64.wrap (I+1)) y0 J O U Y aa ab ac ae ah ai aj ak al ao aq c)))) (uP N (Q y0 0
 false))):yW Q N0 n1 I y0 J O U Y aa ab ac ae ah ai aj ak al ao aq N:=
  hE AE h
theorem qX {Q:QT [.ag 9,.int .i64]} {N0:Nat} {n4:Int} {m5 c5:Nat} {n9:Int} {y0:D} {n1_0:Int} {s1_1 s1_2:ByteArray} {n1_3 n1_4:Int} {a1_5:Option Addr} {e1_5:List D} {c1_5:Nat} {n1_6:Int} {a1_7:Option Addr} {e1_7:List D} {c1_7:Nat} {a1_8:Option Addr} {e1_8:List D} {c1_8:Nat} {r2:List D} {q2:Nat} {N:Nat} (h :
∃ a d,∃ c:Nat,(y0.cell 8)=D.sl a 9 d c/\Br (decide (n9<(d.length:Int))) (∃ a b,∃ c:Nat,(y0.cell 8)=D.sl a 9 b c/\(0<=n9
 /\ n9<(b.length:Int))/\∃ n:Int,(if 0=0 then D.cell (List.getD b n9.toNat default) 0 else D.sub (List.getD b n9.toNat default) 0 0)=D.j n /\
 Br (bne n n4) (uP N (Q y0 0)) (∃ a b,∃ c:Nat,(y0.cell 8)=D.sl a 9 b c/\(0<=n9/\n9<(b.length:Int))/\∃ a:Int,(if 0=0 then
 D.cell (List.getD b n9.toNat default) 3 else D.sub (List.getD b n9.toNat default) 3 0)=D.j a/\(0<=n9/\n9<(m5:Int)/\(0+n9.toNat:Nat) <
 r2.length)/\(0+n9.toNat:Nat)<r2.length/\xL Q N0 n4 m5 c5 (IntKind.i64.wrap (n9+1)) y0 n1_0 s1_1 s1_2 n1_3 n1_4 a1_5 e1_5 c1_5 n1_6 a1_7
 e1_7 c1_7 a1_8 e1_8 c1_8 (List.set r2 (0+n9.toNat:Nat) (D.j a)) q2 N)) (∃ s,(y0.cell 1)=D.t s/\((0:Int)<=(0:Int)/\0<(m5:Int)/\0 <
 r2.length)/\0<r2.length/\∃ a:Int,List.getD r2 0 default=D.j a/\((0:Int)<=(1:Int)/\1<(m5:Int)/\1<r2.length)/\1<r2.length/\∃ c :
 Int,List.getD r2 1 default=D.j c/\kIB 157 [.str s,.j a,.j c] N (fun a _ b=>∃ c,(y0.cell 1)=D.t c/\Br (ByteArray.toList c ==
 ByteArray.toList (bytes [43])) (kA 9 149 [.j a] b (fun x a=>uP a (Q x 1))) (∃ c,(y0.cell 1)=D.t c/\Br (ByteArray.toList c==ByteArray.toList
 (bytes [45])) (kA 9 149 [.j a] b (fun a b=>uP b (Q a 1))) (∃ c,(y0.cell 1)=D.t c/\Br (ByteArray.toList c==ByteArray.toList (bytes [42]))
 (kA 9 149 [.j a] b (fun a b=>uP b (Q a 1))) (kA 9 80 [.j a] b (fun a b=>uP b (Q a 1)))))))):xL Q N0 n4 m5 c5 n9 y0 n1_0 s1_1 s1_2 n1_3 n1_4 a1_5 e1_5 c1_5 n1_6 a1_7 e1_7 c1_7 a1_8 e1_8 c1_8 r2 q2 N:=
  hE qA h
end Go.Proofs.YtlaniepnglheoaaGreatDoor
