/- Printed by gen.py: what the functions come to. -/
import Derived.Test.YtlaniepnglheoaaGreatDoorJh
set_option linter.unusedVariables false
set_option maxRecDepth 100000
namespace Go.Proofs.YtlaniepnglheoaaGreatDoor
open Go Go.Proofs Go.Proofs.Tryz
def v8:Hint:=⟨[hc 2 [0,3]],[],[]⟩
def vE:Hint:=⟨[hc 3 [0,1,2,3,10,15,16] [(10,35,9)]],[],[]⟩
def qo:Hint:=⟨[],[],[(1,hs 11 [ec 2 [14]])]⟩
def qq:Hint:=⟨[],[],[(12,hs 10 [ec 2 [49,50]]),(15,hs 9 [ec 1 [67]])]⟩
def qp:Hint:=⟨[],[],[(11,[en 0,en 1,en 2,en 3,eh 4,en 5,eh 6,en 7])]⟩
def uA:Hint:=⟨[],[hc 2 [1,2],hc 3 [1,2]],[]⟩
def FE:Hint:=⟨[],[],[(2,hs 13 [ec 4 [16]])]⟩
def xO E(Q:QT [.ag 9,.bool,.str,.i]) N0 I J O U Y aa ab ac ae ah ai aj ak al ao aq au N:=AT prog 53 [.ag 9,.bool,.str,.i] Q N0 (.io E [.var [.str b0,.int .i64 0]]) (G9 prog 53 2) ⟨an 1 (.pb 1 0 0 0::.pb 2 0 0 0::an 64 []),[.var [.str I,.int .i64 J],.var [.pb 0 0 0 0],.var [.int .i64 O,.str U,.str Y,.int .i64 aa,.int .i64 ab,.sv ac 2 ae ah,.int .i64 ai,.sv aj 2 ak al,.sv ao 9 aq au]],N,some (wa E 0 [.var [.str b0,.int .i64 0]],[])⟩
def wy E b1 dd(Q:QT [.ag 9,.bool,.str,.i]) N0 I J O U Y aa ab ac ae ah ai aj ak al ao aq au N:=@AT ⟨some dd⟩ prog 53 [] noQ N0 (.df E (dfK prog 53 [.ag 9,.bool,.str,.i] Q N0 E [.var [.str b0,.int .i64 0]] b1)) (G9 prog 53 3) ⟨an 1 (.pb 1 0 0 0::.pb 2 0 0 0::an 64 []),[.var [.str I,.int .i64 J],.var [.pb 0 0 0 0],.var [.int .i64 O,.str U,.str Y,.int .i64 aa,.int .i64 ab,.sv ac 2 ae ah,.int .i64 ai,.sv aj 2 ak al,.sv ao 9 aq au]],N,some (wa E 0 [.var [.str b0,.int .i64 0]]++[some b1],[])⟩
def zM E(Q:QT [.str,.str,.i]) N0 O I J N:=AT prog 108 [.str,.str,.i] Q N0 (.io E [.var [.str b0,.int .i64 0]]) (E1 prog 108 2) ⟨.pb 0 0 0 0::an 2 (.int .i64 O::an 62 []),[.var [.str I,.int .i64 J]],N,some (wa E 0 [.var [.str b0,.int .i64 0]],[])⟩
def zX E(Q:QT [.sl 9,.bool,.str,.i]) N0 n1 s2 s3 O U Y aa I J r1 q1 N:=AT prog 164 [.sl 9,.bool,.str,.i] Q N0 (.io E [.var [.str b0,.int .i64 0]]) (E1 prog 164 3) ⟨.pb 0 0 0 0::.int .i64 n1::.str s2::.str s3::an 6 (.sb 1 9 0 O U::an 4 (.int .i64 Y::.int .i64 aa::an 30 [])),[.var [.str I,.int .i64 J],.arr 35 9 r1 q1],N,some (wa E 0 [.var [.str b0,.int .i64 0]],[])⟩
theorem v7 N J I(Q:QT [.bool])(h :
Br (decide ((J.size:Int)≥(I.size:Int))) (((0:Int)<=(0:Int)/\0<=(I.size:Int)/\(I.size:Int)<=(J.size:Int))/\∀ a,N<=a->Q
 (jE (ByteArray.extract J 0 ((I.size:Int)).toNat) I) a) (uP N (Q false))):jC 247 [.str J,.str I] N Q:=
  eE H0 h
theorem v6 N I J(Q:QT [.str,.bool])(h :
kB 247 [.str I,.str J] N (λb a=>Br (!b) (uP a (Q I false)) ((0<=(J.size:Int)/\(J.size:Int)<=(I.size:Int)/\(I.size:Int) <=
 (I.size:Int))/\∀ b,a<=b->Q (ByteArray.extract I ((J.size:Int)).toNat ((I.size:Int)).toNat) true b))):jC 213 [.str I,.str J] N Q:=
  eE H0 h
theorem Bq N I J(Q:QT [.str,.bool])(h :
∀ a,N<=a->ACalls prog 213 [.str,.bool] [.str I,.str J] a (λs b c=>a<=c->uP c (Q s b))):jC 163 [.str I,.str J] N Q:=
  eE H0 h
theorem DJ N I(Q:QT [.i,.bool])(h :
kIB 168 [.str I,.j 0,.j 999999] N (λn b a=>uP a (Q n b))):jC 109 [.str I] N Q:=
 eE H0 h
theorem Fb N I(Q:QT [.ag 9,.bool])(h :
∀ a,N<=a->BCalls prog 53 [.ag 9,.bool,.str,.i] [.pb 0 0 0 0] [Bx.var [.str I,.j 0]] a (λx b _ _ c=>a<=c->Bel c x->Br (!b) (∀ a,c
 <= a->Q (D.ag [D.j 0,D.t b0,D.t b0,D.j 0,D.j 0,jN,D.j 0,jN,D.sl none 9 [] 0]) false a) (kS 54 [.dg 9 x] c (λa b=>
 Br (!(jE a I)) (∀ a,b<=a->Q (D.ag [D.j 0,D.t b0,D.t b0,D.j 0,D.j 0,jN,D.j 0,jN,
 D.sl none 9 [] 0]) false a) (kS 55 [.str I] b (λa b=>Br (jE a b0) (∀ a,b<=a->Q (D.ag [D.j 0,D.t b0,D.t
 b0,D.j 0,D.j 0,jN,D.j 0,jN,D.sl none 9 [] 0]) false a) (uP b (Q x true)))))))):jC 23 [.str I] N Q:=
  eE FE h
theorem wc N I J(Q:QT [.ag 9,.bool,.str,.i])(h:∀ E:Env,
xO E Q N I (jW.wrap (J+1)) 0 b0 b0 0 0 none [] 0 0 none [] 0 none [] 0 N):jB 53 [.pb 0 0 0 0] [.var [.str I,.int .i64 J]] N Q:=
 bE uA h
theorem w6 E b1 dd(Q:QT [.ag 9,.bool,.str,.i]) N0 J I O U Y aa ab ac ae ah ai aj ak al ao aq au N(h :
Br (decide (I>20)) (b1=b1/\yg E [.var [.str b0,.j 0]]/\∀ a,N<=a->Q (D.ag [D.j 0,D.t b0,D.t b0,D.j 0,D.j 0,jN,D.j 0,
 jN,D.sl none 9 [] 0]) false J (jW.wrap (I - 1)) a) (∀ a,N<=a->BCalls prog 104 [.bool,.str,.i] [.pb 0 0 0 0,.str (bytes
 [35,116])] [Bx.var [.str J,.j I]] a (λb s n c=>a<=c->Br b (kA 9 105 [.j 1,.bool true] c (λx a=>b1=b1/\yg E [.var [.str b0,.j
 0]]/\uP a (Q x true s (jW.wrap (n - 1))))) (∀ a,c<=a->BCalls prog 104 [.bool,.str,.i] [.pb 0 0 0 0,.str (bytes [35,102])] [Bx.var [.str s,
 .j n]] a (λb c d e=>a<=e->Br b (kA 9 105 [.j 0,.bool true] e (λa b=>b1=b1/\yg E [.var [.str b0,.j 0]]/\uP b (Q a true
 c (jW.wrap (d - 1))))) (∀ a,e<=a->BCalls prog 104 [.bool,.str,.i] [.pb 0 0 0 0,.str (bytes [60])] [Bx.var [.str c,.j d]] a (fun
 b c d e=>a<=e->Br b (∀ a,e<=a->BCalls prog 106 [.ag 9,.bool,.str,.i] [.pb 0 0 0 0,.dg 9 (D.ag [D.j 10,D.t b0,D.t b0,D.j 0,D.j
 0,jN,D.j 0,jN,D.sl none 9 [] 0]),.str b0,.str (bytes [62])] [Bx.var [.str c,.j d]] a (λb c d e f=>a <=
 f->Bel f b->b1=b1/\yg E [.var [.str b0,.j 0]]/\uP f (Q b c d (jW.wrap (e - 1))))) (∀ a,e<=a->BCalls prog 104 [.bool,
 .str,.i] [.pb 0 0 0 0,.str (bytes [126])] [Bx.var [.str c,.j d]] a (λb c d e=>a<=e->Br b (∀ a,e<=a->BCalls prog 106 [.ag
 9,.bool,.str,.i] [.pb 0 0 0 0,.dg 9 (D.ag [D.j 11,D.t b0,D.t b0,D.j 0,D.j 0,jN,D.j 0,jN,D.sl none 9 [] 0]),.str b0,
 .str b0] [Bx.var [.str c,.j d]] a (λb c d e f=>a<=f->Bel f b->b1=b1/\yg E [.var [.str b0,.j 0]]/\uP f (Q b c d
 (jW.wrap (e - 1))))) (∀ a,e<=a->BCalls prog 104 [.bool,.str,.i] [.pb 0 0 0 0,.str (bytes [40])] [Bx.var [.str c,.j d]] a (λb
 c d e=>a<=e->Br b (∀ a,e<=a->BCalls prog 107 [.ag 9,.bool,.str,.i] [.pb 0 0 0 0] [Bx.var [.str c,.j d]] a (λb c d
 e f=>a<=f->Bel f b->b1=b1/\yg E [.var [.str b0,.j 0]]/\uP f (Q b c d (jW.wrap (e - 1))))) (∀ a,e<=a->BCalls
 prog 108 [.str,.str,.i] [.pb 0 0 0 0] [Bx.var [.str c,.j d]] a (λb c d e=>a<=e->kIB 109 [.str b] e (λa e f=>Br e
 (kA 9 110 [.j a] f (λa b=>b1=b1/\yg E [.var [.str b0,.j 0]]/\uP b (Q a true c (jW.wrap (d - 1))))) (kA 9 111 [.str b] f
 (λa e=>b1=b1/\yg E [.var [.str b0,.j 0]]/\∀ f,e<=f->Q a (!(jE b b0)) c (jW.wrap (d -
 1)) f)))))))))))))))):wy E b1 dd Q N0 J I O U Y aa ab ac ae ah ai aj ak al ao aq au N:=
  @YA ⟨some dd⟩ prog sh 53 [] noQ N0 _ uA 400 _ _ _ mixed (by kernel_rfl) h
theorem A7 N O I J(Q:QT [.bool,.str,.i])(h:∀ E:Env,
∀ a,N<=a->ACalls prog 163 [.str,.bool] [.str I,.str O] a (λs b c=>a<=c->yg E [.var [.str b0,.j 0]]/\uP c (Q b s
 J))):jB 104 [.pb 0 0 0 0,.str O] [.var [.str I,.int .i64 J]] N Q:=
  bE H0 h
theorem s5 N I U Y J O(Q:QT [.ag 9,.bool,.str,.i])(h:∀ E:Env,
Bel N I->kI 165 [.dg 9 I] N (λn d=>∀ e,d<=e->BCalls prog 164 [.sl 9,.bool,.str,.i] [.pb 0 0 0 0,.j n,.str U,.str Y]
 [Bx.var [.str J,.j O]] e (λa b c d s f g=>e<=g->Bel g (D.sl a 9 b c)->yg E [.var [.str b0,.j 0]]/\uP g (Q (D.ag [(I.cell 0),
 (I.cell 1),(I.cell 2),(I.cell 3),(I.cell 4),(I.cell 5),(I.cell 6),(I.cell 7),D.sl a 9 b c]) d s f)))):jB 106 [.pb 0 0 0 0,.dg 9 I,.str U,.str Y] [.var [.str J,.int .i64 O]] N Q:=
  bE qo h
theorem sB N I J(Q:QT [.ag 9,.bool,.str,.i])(h:∀ E:Env,
∀ a,N<=a->BCalls prog 104 [.bool,.str,.i] [.pb 0 0 0 0,.str (bytes [33])] [Bx.var [.str I,.j J]] a (λb s n c=>a<=c ->
 Br b (∀ a,c<=a->BCalls prog 106 [.ag 9,.bool,.str,.i] [.pb 0 0 0 0,.dg 9 (D.ag [D.j 4,D.t (bytes [33]),D.t b0,D.j 0,D.j 0,jN,D.j
 0,jN,D.sl none 9 [] 0]),.str b0,.str (bytes [41])] [Bx.var [.str s,.j n]] a (λx b c d e=>a<=e->Bel e x->yg E [.var [.str
 b0,.j 0]]/\uP e (Q x b c d))) (∀ a,c<=a->BCalls prog 104 [.bool,.str,.i] [.pb 0 0 0 0,.str (bytes [105,102,32])] [Bx.var [.str s,.j n]] a
 (λb c d e=>a<=e->Br b (∀ a,e<=a->BCalls prog 106 [.ag 9,.bool,.str,.i] [.pb 0 0 0 0,.dg 9 (D.ag [D.j 5,D.t b0,D.t b0,D.j 0,D.j
 0,jN,D.j 0,jN,D.sl none 9 [] 0]),.str (bytes [32]),.str (bytes [41])] [Bx.var [.str c,.j d]] a (λb c d e f
 => a<=f->Bel f b->yg E [.var [.str b0,.j 0]]/\uP f (Q b c d e))) (∀ a,e<=a->BCalls prog 104 [.bool,.str,.i] [.pb 0 0 0 0,.str
 (bytes [114,117,110,32])] [Bx.var [.str c,.j d]] a (λb c d e=>a<=e->Br b (∀ a,e<=a->BCalls prog 106 [.ag 9,.bool,.str,
 .i] [.pb 0 0 0 0,.dg 9 (D.ag [D.j 12,D.t b0,D.t b0,D.j 0,D.j 0,jN,D.j 0,jN,D.sl none 9 [] 0]),.str b0,.str (bytes [41])]
 [Bx.var [.str c,.j d]] a (λb c d e f=>a<=f->Bel f b->yg E [.var [.str b0,.j 0]]/\uP f (Q b c d e))) (∀ a,e <=
 a->BCalls prog 104 [.bool,.str,.i] [.pb 0 0 0 0,.str (bytes [108,105,102,116,32])] [Bx.var [.str c,.j d]] a (λb c d e=>a<=e ->
 Br b (∀ a,e<=a->BCalls prog 106 [.ag 9,.bool,.str,.i] [.pb 0 0 0 0,.dg 9 (D.ag [D.j 13,D.t b0,D.t b0,D.j 0,D.j 0,jN,D.j 0,
 jN,D.sl none 9 [] 0]),.str b0,.str (bytes [41])] [Bx.var [.str c,.j d]] a (λb c d e f=>a<=f->Bel f b->yg E
 [.var [.str b0,.j 0]]/\uP f (Q b c d e))) (∀ a,e<=a->BCalls prog 104 [.bool,.str,.i] [.pb 0 0 0 0,.str (bytes [108,101,116,32])]
 [Bx.var [.str c,.j d]] a (λb c d e=>a<=e->Br b (∀ a,e<=a->BCalls prog 108 [.str,.str,.i] [.pb 0 0 0 0] [Bx.var [.str c,
 .j d]] a (λb c d e=>a<=e->∀ a,e<=a->BCalls prog 104 [.bool,.str,.i] [.pb 0 0 0 0,.str (bytes [61])] [Bx.var [.str c,.j
 d]] a (λc d e f=>a<=f->Br (!c) (yg E [.var [.str b0,.j 0]]/\∀ a,f<=a->Q (D.ag [D.j 0,D.t b0,D.t b0,D.j 0,D.j 0,D.sl
 none 2 [] 0,D.j 0,jN,D.sl none 9 [] 0]) false d e a) (∀ a,f<=a->BCalls prog 106 [.ag 9,.bool,.str,.i] [.pb 0 0 0 0,.dg 9
 (D.ag [D.j 8,D.t b,D.t b0,D.j 0,D.j 0,jN,D.j 0,jN,D.sl none 9 [] 0]),.str (bytes [32]),.str (bytes [41])] [Bx.var [.str
 d,.j e]] a (λb c d e f=>a<=f->Bel f b->yg E [.var [.str b0,.j 0]]/\uP f (Q b c d e)))))) (∀ a,e <=
 a->BCalls prog 104 [.bool,.str,.i] [.pb 0 0 0 0,.str (bytes [92])] [Bx.var [.str c,.j d]] a (λb c d e=>a<=e->Br b (∀ a,
 e<=a->BCalls prog 108 [.str,.str,.i] [.pb 0 0 0 0] [Bx.var [.str c,.j d]] a (λb c d e=>a<=e->∀ a,e<=a->BCalls
 prog 166 [.ag 9,.bool,.str,.i] [.pb 0 0 0 0,.dg 9 (D.ag [D.j 6,D.t b,D.t b0,D.j 0,D.j 0,jN,D.j 0,jN,D.sl none 9 []
 0])] [Bx.var [.str c,.j d]] a (λb c d e f=>a<=f->Bel f b->yg E [.var [.str b0,.j 0]]/\uP f (Q b c d e))))
 (∀ a,e<=a->BCalls prog 104 [.bool,.str,.i] [.pb 0 0 0 0,.str (bytes [114,101,99,32])] [Bx.var [.str c,.j d]] a (λb c d e
 => a<=e->Br b (∀ a,e<=a->BCalls prog 108 [.str,.str,.i] [.pb 0 0 0 0] [Bx.var [.str c,.j d]] a (λb c d e=>a<=e
 -> ∀ a,e<=a->BCalls prog 104 [.bool,.str,.i] [.pb 0 0 0 0,.str (bytes [32])] [Bx.var [.str c,.j d]] a (λc d e f=>a<=f ->
 Br (!c) (yg E [.var [.str b0,.j 0]]/\∀ a,f<=a->Q (D.ag [D.j 0,D.t b0,D.t b0,D.j 0,D.j 0,jN,D.j 0,jN,D.sl
 none 9 [] 0]) false d e a) (∀ a,f<=a->BCalls prog 108 [.str,.str,.i] [.pb 0 0 0 0] [Bx.var [.str d,.j e]] a (λc d e f
 => a<=f->∀ a,f<=a->BCalls prog 166 [.ag 9,.bool,.str,.i] [.pb 0 0 0 0,.dg 9 (D.ag [D.j 9,D.t b,D.t c,D.j 0,D.j 0,jN,
 D.j 0,jN,D.sl none 9 [] 0])] [Bx.var [.str d,.j e]] a (λb c d e f=>a<=f->Bel f b->yg E [.var [.str b0,
 .j 0]]/\uP f (Q b c d e))))))) (∀ a,e<=a->BCalls prog 167 [.ag 9,.bool,.str,.i] [.pb 0 0 0 0] [Bx.var [.str c,.j d]] a (fun
 b c d e f=>a<=f->Bel f b->yg E [.var [.str b0,.j 0]]/\uP f (Q b c d e))))))))))))))))):jB 107 [.pb 0 0 0 0] [.var [.str I,.int .i64 J]] N Q:=
  bE H0 h
theorem s6 N I J(Q:QT [.str,.str,.i])(h:∀ E:Env,
zM E Q N 0 I J N):jB 108 [.pb 0 0 0 0] [.var [.str I,.int .i64 J]] N Q:=
 bE v8 h
theorem sE N n1 O U I J(Q:QT [.sl 9,.bool,.str,.i])(h:∀ E:Env,
zX E Q N n1 O U 0 0 n1 0 I J [] 0 N):jB 164 [.pb 0 0 0 0,.int .i64 n1,.str O,.str U] [.var [.str I,.int .i64 J]] N Q:=
 bE vE h
theorem xf N I J O(Q:QT [.ag 9,.bool,.str,.i])(h:∀ E:Env,
Bel N I->∀ a,N<=a->BCalls prog 104 [.bool,.str,.i] [.pb 0 0 0 0,.str (bytes [58])] [Bx.var [.str J,.j O]] a (λb s n c=>
 a<=c->Br b (∀ a,c<=a->BCalls prog 215 [.ag 2,.bool,.str,.i] [.pb 0 0 0 0,.j 8] [Bx.var [.str s,.j n]] a (λx b c d e=>a<=e->Bel
 e x->Br b (∃ a:Int,(I.cell 0)=D.j a/\Br (a==9) (∀ a,e<=a->BCalls prog 104 [.bool,.str,.i] [.pb 0 0 0 0,.str (bytes [62])] [Bx.var
 [.str c,.j d]] a (λb c d e=>a<=e->Br b (∀ a,e<=a->BCalls prog 215 [.ag 2,.bool,.str,.i] [.pb 0 0 0 0,.j 8] [Bx.var [.str c,
 .j d]] a (λb c d e f=>a<=f->Bel f b->Br (!c) (yg E [.var [.str b0,.j 0]]/\∀ a,f<=a->Q (D.ag [D.j 0,D.t b0,D.t b0,D.j 0,
 D.j 0,jN,D.j 0,jN,D.sl none 9 [] 0]) false d e a) (∀ a,f<=a->BCalls prog 104 [.bool,.str,.i] [.pb 0 0 0 0,.str
 (bytes [46])] [Bx.var [.str d,.j e]] a (λc d e f=>a<=f->Br (!c) (yg E [.var [.str b0,.j 0]]/\∀ a,f<=a->Q (D.ag [D.j 0,
 D.t b0,D.t b0,D.j 0,D.j 0,jN,D.j 0,jN,D.sl none 9 [] 0]) false d e a) (∀ a,f<=a->BCalls prog 106 [.ag 9,
 .bool,.str,.i] [.pb 0 0 0 0,.dg 9 (D.ag [(I.cell 0),(I.cell 1),(I.cell 2),(I.cell 3),(x.cell 0),(x.cell 1),(b.cell 0),(b.cell 1),(I.cell
 8)]),.str b0,.str (bytes [41])] [Bx.var [.str d,.j e]] a (λb c d e f=>a<=f->Bel f b->yg E [.var [.str b0,.j 0]]/\uP f
 (Q b c d e))))))) (Br (!b) (yg E [.var [.str b0,.j 0]]/\∀ a,e<=a->Q (D.ag [D.j 0,D.t b0,D.t b0,D.j 0,D.j 0,jN,D.j 0,
 jN,D.sl none 9 [] 0]) false c d a) (∀ a,e<=a->BCalls prog 104 [.bool,.str,.i] [.pb 0 0 0 0,.str (bytes [46])] [Bx.var [.str c,
 .j d]] a (λb c d e=>a<=e->Br (!b) (yg E [.var [.str b0,.j 0]]/\∀ a,e<=a->Q (D.ag [D.j 0,D.t b0,D.t b0,D.j 0,D.j 0,
 jN,D.j 0,jN,D.sl none 9 [] 0]) false c d a) (∀ a,e<=a->BCalls prog 106 [.ag 9,.bool,.str,.i] [.pb 0 0 0 0,.dg
 9 (D.ag [(I.cell 0),(I.cell 1),(I.cell 2),(I.cell 3),(x.cell 0),(x.cell 1),(I.cell 6),(I.cell 7),(I.cell 8)]),.str b0,.str (bytes [41])]
 [Bx.var [.str c,.j d]] a (λb c d e f=>a<=f->Bel f b->yg E [.var [.str b0,.j 0]]/\uP f (Q b c d e)))))))) (Br
 (!b) (yg E [.var [.str b0,.j 0]]/\∀ a,e<=a->Q (D.ag [D.j 0,D.t b0,D.t b0,D.j 0,D.j 0,jN,D.j 0,jN,D.sl none 9
 [] 0]) false c d a) (∀ a,e<=a->BCalls prog 104 [.bool,.str,.i] [.pb 0 0 0 0,.str (bytes [46])] [Bx.var [.str c,.j d]] a (λb c d
 e=>a<=e->Br (!b) (yg E [.var [.str b0,.j 0]]/\∀ a,e<=a->Q (D.ag [D.j 0,D.t b0,D.t b0,D.j 0,D.j 0,jN,D.j 0,D.sl
 none 2 [] 0,D.sl none 9 [] 0]) false c d a) (∀ a,e<=a->BCalls prog 106 [.ag 9,.bool,.str,.i] [.pb 0 0 0 0,.dg 9 (D.ag [(I.cell 0),(I.cell
 1),(I.cell 2),(I.cell 3),(x.cell 0),(x.cell 1),(I.cell 6),(I.cell 7),(I.cell 8)]),.str b0,.str (bytes [41])] [Bx.var [.str c,.j d]] a (fun
 b c d e f=>a<=f->Bel f b->yg E [.var [.str b0,.j 0]]/\uP f (Q b c d e))))))) (Br (!b) (yg E [.var [.str b0,.j 0]] /\
 ∀ a,e<=a->Q (D.ag [D.j 0,D.t b0,D.t b0,D.j 0,D.j 0,jN,D.j 0,jN,D.sl none 9 [] 0]) false c d a) (∀ a,e <=
 a->BCalls prog 104 [.bool,.str,.i] [.pb 0 0 0 0,.str (bytes [46])] [Bx.var [.str c,.j d]] a (λb c d e=>a<=e->Br (!b) (yg
 E [.var [.str b0,.j 0]]/\∀ a,e<=a->Q (D.ag [D.j 0,D.t b0,D.t b0,D.j 0,D.j 0,jN,D.j 0,jN,D.sl none 9 [] 0]) false
 c d a) (∀ a,e<=a->BCalls prog 106 [.ag 9,.bool,.str,.i] [.pb 0 0 0 0,.dg 9 (D.ag [(I.cell 0),(I.cell 1),(I.cell 2),(I.cell 3),
 (x.cell 0),(x.cell 1),(I.cell 6),(I.cell 7),(I.cell 8)]),.str b0,.str (bytes [41])] [Bx.var [.str c,.j d]] a (λb c d e f=>
 a<=f->Bel f b->yg E [.var [.str b0,.j 0]]/\uP f (Q b c d e)))))))) (Br b (∃ a:Int,(I.cell 0)=D.j a/\Br (a==9) (∀
 a,c<=a->BCalls prog 104 [.bool,.str,.i] [.pb 0 0 0 0,.str (bytes [62])] [Bx.var [.str s,.j n]] a (λb c d e=>a<=e->Br b (∀
 a,e<=a->BCalls prog 215 [.ag 2,.bool,.str,.i] [.pb 0 0 0 0,.j 8] [Bx.var [.str c,.j d]] a (λb c d e f=>a<=f->Bel
 f b->Br (!c) (yg E [.var [.str b0,.j 0]]/\∀ a,f<=a->Q (D.ag [D.j 0,D.t b0,D.t b0,D.j 0,D.j 0,jN,D.j 0,D.sl none 2 []
 0,D.sl none 9 [] 0]) false d e a) (∀ a,f<=a->BCalls prog 104 [.bool,.str,.i] [.pb 0 0 0 0,.str (bytes [46])] [Bx.var [.str d,.j e]]
 a (λc d e f=>a<=f->Br (!c) (yg E [.var [.str b0,.j 0]]/\∀ a,f<=a->Q (D.ag [D.j 0,D.t b0,D.t b0,D.j 0,D.j 0,D.sl
 none 2 [] 0,D.j 0,jN,D.sl none 9 [] 0]) false d e a) (∀ a,f<=a->BCalls prog 106 [.ag 9,.bool,.str,.i] [.pb 0 0 0 0,.dg 9
 (D.ag [(I.cell 0),(I.cell 1),(I.cell 2),(I.cell 3),(I.cell 4),(I.cell 5),(b.cell 0),(b.cell 1),(I.cell 8)]),.str b0,.str (bytes [41])]
 [Bx.var [.str d,.j e]] a (λb c d e f=>a<=f->Bel f b->yg E [.var [.str b0,.j 0]]/\uP f (Q b c d e)))))))
 (Br (!b) (yg E [.var [.str b0,.j 0]]/\∀ a,e<=a->Q (D.ag [D.j 0,D.t b0,D.t b0,D.j 0,D.j 0,jN,D.j 0,jN,D.sl
 none 9 [] 0]) false c d a) (∀ a,e<=a->BCalls prog 104 [.bool,.str,.i] [.pb 0 0 0 0,.str (bytes [46])] [Bx.var [.str c,.j d]] a (fun
 b c d e=>a<=e->Br (!b) (yg E [.var [.str b0,.j 0]]/\∀ a,e<=a->Q (D.ag [D.j 0,D.t b0,D.t b0,D.j 0,D.j 0,jN,
 D.j 0,jN,D.sl none 9 [] 0]) false c d a) (∀ a,e<=a->BCalls prog 106 [.ag 9,.bool,.str,.i] [.pb 0 0 0 0,.dg 9 I,.str b0,
 .str (bytes [41])] [Bx.var [.str c,.j d]] a (λb c d e f=>a<=f->Bel f b->yg E [.var [.str b0,.j 0]]/\uP f (Q b c
 d e)))))))) (Br (!b) (yg E [.var [.str b0,.j 0]]/\∀ a,c<=a->Q (D.ag [D.j 0,D.t b0,D.t b0,D.j 0,D.j 0,jN,D.j 0,D.sl none 2
 [] 0,D.sl none 9 [] 0]) false s n a) (∀ a,c<=a->BCalls prog 104 [.bool,.str,.i] [.pb 0 0 0 0,.str (bytes [46])] [Bx.var [.str s,.j n]] a (fun
 b c d e=>a<=e->Br (!b) (yg E [.var [.str b0,.j 0]]/\∀ a,e<=a->Q (D.ag [D.j 0,D.t b0,D.t b0,D.j 0,D.j 0,jN,
 D.j 0,jN,D.sl none 9 [] 0]) false c d a) (∀ a,e<=a->BCalls prog 106 [.ag 9,.bool,.str,.i] [.pb 0 0 0 0,.dg 9 I,.str b0,
 .str (bytes [41])] [Bx.var [.str c,.j d]] a (λb c d e f=>a<=f->Bel f b->yg E [.var [.str b0,.j 0]]/\uP f (Q b c
 d e))))))) (Br (!b) (yg E [.var [.str b0,.j 0]]/\∀ a,c<=a->Q (D.ag [D.j 0,D.t b0,D.t b0,D.j 0,D.j 0,jN,D.j 0,D.sl none 2
 [] 0,D.sl none 9 [] 0]) false s n a) (∀ a,c<=a->BCalls prog 104 [.bool,.str,.i] [.pb 0 0 0 0,.str (bytes [46])] [Bx.var [.str s,.j n]] a (fun
 b c d e=>a<=e->Br (!b) (yg E [.var [.str b0,.j 0]]/\∀ a,e<=a->Q (D.ag [D.j 0,D.t b0,D.t b0,D.j 0,D.j 0,jN,
 D.j 0,jN,D.sl none 9 [] 0]) false c d a) (∀ a,e<=a->BCalls prog 106 [.ag 9,.bool,.str,.i] [.pb 0 0 0 0,.dg 9 I,.str b0,
 .str (bytes [41])] [Bx.var [.str c,.j d]] a (λb c d e f=>a<=f->Bel f b->yg E [.var [.str b0,.j 0]]/\uP f (Q b
 c d e))))))))):jB 166 [.pb 0 0 0 0,.dg 9 I] [.var [.str J,.int .i64 O]] N Q:=
  bE H0 h
theorem s8 N I J(Q:QT [.ag 9,.bool,.str,.i])(h:∀ E:Env,
∀ c,N<=c->BCalls prog 53 [.ag 9,.bool,.str,.i] [.pb 0 0 0 0] [Bx.var [.str I,.j J]] c (λx b s n d=>c<=d->Bel d x ->
 Br (!b) (yg E [.var [.str b0,.j 0]]/\∀ a,d<=a->Q (D.ag [D.j 0,D.t b0,D.t b0,D.j 0,D.j 0,jN,D.j 0,jN,D.sl none 9 []
 0]) false s n a) (Br (jE s b0) (yg E [.var [.str b0,.j 0]]/\∀ a,d<=a->Q (D.ag [D.j 0,D.t b0,D.t b0,D.j 0,D.j 0,
 jN,D.j 0,jN,D.sl none 9 [] 0]) false s n a) (((0:Int)<=(0:Int)/\(0:Int)<=(1:Int)/\1<=(s.size:Int))/\Br
 (!(jE (ByteArray.extract s 0 1) (bytes [32]))) (((0:Int)<=(1:Int)/\1<=(s.size:Int)/\(s.size:Int)<=(s.size:Int))
 /\ ∀ b,d<=b->BCalls prog 53 [.ag 9,.bool,.str,.i] [.pb 0 0 0 0] [Bx.var [.str (ByteArray.extract s 1 ((s.size:Int)).toNat),.j n]] b (λc d e
 f g=>b<=g->Bel g c->Br d (∀ b,g<=b->BCalls prog 104 [.bool,.str,.i] [.pb 0 0 0 0,.str (bytes [41])] [Bx.var [.str e,.j f]] b (fun
 d e f g=>b<=g->w4 (2=([x,c]).length/\2=2) (∀ a b,g<=b->Fresh N b a [D.ag [x,c],jN,jN]->yg E
 [.var [.str b0,.j 0]]/\∀ g,b<=g->Q (D.ag [D.j 4,D.t (ByteArray.extract s 0 1),D.t b0,D.j 0,D.j 0,jN,D.j 0,jN,D.sl
 a 9 [x,c] 2]) d e f g))) (w4 (2=([x,c]).length/\2=2) (∀ a b,g<=b->Fresh N b a [D.ag [x,c],jN,D.sl none 2 []
 0]->yg E [.var [.str b0,.j 0]]/\∀ d,b<=d->Q (D.ag [D.j 4,D.t (ByteArray.extract s 0 1),D.t b0,D.j 0,D.j 0,jN,D.j 0,D.sl none
 2 [] 0,D.sl a 9 [x,c] 2]) false e f d)))) (((0:Int)<=(1:Int)/\1<=(s.size:Int)/\(s.size:Int)<=(s.size:Int))/\∀ a,d<=a->BCalls
 prog 53 [.ag 9,.bool,.str,.i] [.pb 0 0 0 0] [Bx.var [.str (ByteArray.extract s 1 ((s.size:Int)).toNat),.j n]] a (λb c d e f=>a<=f ->
 Bel f b->Br c (∀ a,f<=a->BCalls prog 104 [.bool,.str,.i] [.pb 0 0 0 0,.str (bytes [41])] [Bx.var [.str d,.j e]] a (λc d e f
 => a<=f->w4 (2=([x,b]).length/\2=2) (∀ a g,f<=g->Fresh N g a [D.ag [x,b],jN,jN]->yg E [.var
 [.str b0,.j 0]]/\∀ f,g<=f->Q (D.ag [D.j 7,D.t b0,D.t b0,D.j 0,D.j 0,jN,D.j 0,jN,D.sl a 9 [x,b] 2]) c d
 e f))) (w4 (2=([x,b]).length/\2=2) (∀ a c,f<=c->Fresh N c a [D.ag [x,b],jN,jN]->yg E [.var [.str
 b0,.j 0]]/\∀ f,c<=f->Q (D.ag [D.j 7,D.t b0,D.t b0,D.j 0,D.j 0,jN,D.j 0,jN,D.sl a 9 [x,b] 2]) false d e
 f)))))))):jB 167 [.pb 0 0 0 0] [.var [.str I,.int .i64 J]] N Q:=
  bE qp h
theorem wz E(Q:QT [.str,.str,.i]) N0 J I O N(h :
Br (decide (J<(I.size:Int))) ((0<=J/\J<(I.size:Int))/\Br (decide ((UInt8.toNat (Array.getD (ByteArray.data I) J.toNat (OfNat.ofNat
 0)):Int)≥97)) ((0<=J/\J<(I.size:Int))/\Br (decide ((UInt8.toNat (Array.getD (ByteArray.data I) J.toNat (OfNat.ofNat 0)):Int)<=122))
 (zM E Q N0 (jW.wrap (J+1)) I O N) ((0<=J/\J<(I.size:Int))/\Br (decide ((UInt8.toNat (Array.getD
 (ByteArray.data I) J.toNat (OfNat.ofNat 0)):Int)≥48)) ((0<=J/\J<(I.size:Int))/\Br (decide ((UInt8.toNat (Array.getD (ByteArray.data I)
 J.toNat (OfNat.ofNat 0)):Int)<=57)) (zM E Q N0 (jW.wrap (J+1)) I O N) (((0:Int)<=(0:Int)/\0<=J/\J <=
 (I.size:Int))/\(0<=J/\J<=(I.size:Int)/\(I.size:Int)<=(I.size:Int))/\yg E [.var [.str b0,.j 0]]/\∀ a,N<=a->Q
 (ByteArray.extract I 0 J.toNat) (ByteArray.extract I J.toNat ((I.size:Int)).toNat) O a)) (((0:Int)<=(0:Int)/\0<=J/\J<=(I.size :
 Int))/\(0<=J/\J<=(I.size:Int)/\(I.size:Int)<=(I.size:Int))/\yg E [.var [.str b0,.j 0]]/\∀ a,N<=a->Q (ByteArray.extract I 0
 J.toNat) (ByteArray.extract I J.toNat ((I.size:Int)).toNat) O a))) ((0<=J/\J<(I.size:Int))/\Br (decide ((UInt8.toNat (Array.getD
 (ByteArray.data I) J.toNat (OfNat.ofNat 0)):Int)≥48)) ((0<=J/\J<(I.size:Int))/\Br (decide ((UInt8.toNat (Array.getD (ByteArray.data I)
 J.toNat (OfNat.ofNat 0)):Int)<=57)) (zM E Q N0 (jW.wrap (J+1)) I O N) (((0:Int)<=(0:Int)/\0<=J/\J <=
 (I.size:Int))/\(0<=J/\J<=(I.size:Int)/\(I.size:Int)<=(I.size:Int))/\yg E [.var [.str b0,.j 0]]/\∀ a,N<=a->Q
 (ByteArray.extract I 0 J.toNat) (ByteArray.extract I J.toNat ((I.size:Int)).toNat) O a)) (((0:Int)<=(0:Int)/\0<=J/\J<=(I.size :
 Int))/\(0<=J/\J<=(I.size:Int)/\(I.size:Int)<=(I.size:Int))/\yg E [.var [.str b0,.j 0]]/\∀ a,N<=a->Q (ByteArray.extract I 0
 J.toNat) (ByteArray.extract I J.toNat ((I.size:Int)).toNat) O a))) (((0:Int)<=(0:Int)/\0<=J/\J<=(I.size:Int))/\(0<=J/\J <=
 (I.size:Int)/\(I.size:Int)<=(I.size:Int))/\yg E [.var [.str b0,.j 0]]/\∀ a,N<=a->Q (ByteArray.extract I 0 J.toNat)
 (ByteArray.extract I J.toNat ((I.size:Int)).toNat) O a)):zM E Q N0 J I O N:=
  hE v8 h
theorem wT E(Q:QT [.sl 9,.bool,.str,.i]) N0 n1 s2 s3 U Y aa I J O r1 q1 N(h :
Br (decide (I<aa)) (∀ a,N<=a->BCalls prog 53 [.ag 9,.bool,.str,.i] [.pb 0 0 0 0] [Bx.var [.str J,.j O]] a (λx b s n d=>a<=d ->
 Bel d x->Br (!b) (yg E [.var [.str b0,.j 0]]/\uP d (Q none [] 0 false s n)) (Br (decide (I<jW.wrap (n1 - 1))) (∀ a,d<=a->BCalls prog
 104 [.bool,.str,.i] [.pb 0 0 0 0,.str s2] [Bx.var [.str s,.j n]] a (λb d e f=>a<=f->Br (!b) (yg E [.var [.str b0,.j 0]]/\uP f (Q
 none [] 0 false d e)) ((U=r1.length/\Y=q1)/\zB r1 [x] 136/\∀(c:Nat),zX E Q N0 n1 s2 s3 (r1++[x]).length c aa
 (jW.wrap (I+1)) d e (r1++[x]) c f))) ((U=r1.length/\Y=q1)/\zB r1 [x] 136/\∀(a:Nat),zX E Q N0 n1
 s2 s3 (r1++[x]).length a aa (jW.wrap (I+1)) s n (r1++[x]) a d)))) (∀ b,N<=b->BCalls prog 104 [.bool,.str,.i] [.pb 0 0 0 0,.str
 s3] [Bx.var [.str J,.j O]] b (λc d e f=>b<=f->w3 (U=r1.length/\Y=q1) (∀ a b,f<=b->Fresh N0 b a [D.ag r1]->yg E [.var
 [.str b0,.j 0]]/\uP b (Q a r1 q1 c d e))))):zX E Q N0 n1 s2 s3 U Y aa I J O r1 q1 N:=
  hE vE h
theorem we N n1 I J(Q:QT [.ag 2,.bool,.str,.i])(h:∀ E:Env,
Br (n1==0) (yg E [.var [.str b0,.j 0]]/\uP N (Q (D.ag [D.j 0,jN]) false I J)) (∀ a,N<=a->BCalls prog 104
 [.bool,.str,.i] [.pb 0 0 0 0,.str (bytes [73])] [Bx.var [.str I,.j J]] a (λb s n c=>a<=c->Br b (kA 2 179 [] c (λx a=>yg E [.var
 [.str b0,.j 0]]/\uP a (Q x true s n))) (∀ a,c<=a->BCalls prog 104 [.bool,.str,.i] [.pb 0 0 0 0,.str (bytes [66])] [Bx.var [.str s,.j n]] a (fun
 b c d e=>a<=e->Br b (kA 2 180 [] e (λa b=>yg E [.var [.str b0,.j 0]]/\uP b (Q a true c d))) (∀ a,e<=a->BCalls prog
 104 [.bool,.str,.i] [.pb 0 0 0 0,.str (bytes [40])] [Bx.var [.str c,.j d]] a (λb c d e=>a<=e->Br b (∀ a,e<=a->BCalls
 prog 215 [.ag 2,.bool,.str,.i] [.pb 0 0 0 0,.j (jW.wrap (n1 - 1))] [Bx.var [.str c,.j d]] a (λb c d e f=>a<=f->Bel f
 b->Br (!c) (yg E [.var [.str b0,.j 0]]/\uP f (Q (D.ag [D.j 0,jN]) false d e)) (∀ a,f<=a->BCalls prog 104 [.bool,.str,
 .i] [.pb 0 0 0 0,.str (bytes [62])] [Bx.var [.str d,.j e]] a (λc d e f=>a<=f->Br (!c) (yg E [.var [.str b0,.j 0]]/\uP f (Q
 (D.ag [D.j 0,jN]) false d e)) (∀ a,f<=a->BCalls prog 215 [.ag 2,.bool,.str,.i] [.pb 0 0 0 0,.j (jW.wrap (n1 - 1))]
 [Bx.var [.str d,.j e]] a (λc d e f g=>a<=g->Bel g c->kA 2 184 [.dg 2 b,.dg 2 c] g (λa b=>Br d (∀ c,b <=
 c->BCalls prog 104 [.bool,.str,.i] [.pb 0 0 0 0,.str (bytes [41])] [Bx.var [.str e,.j f]] c (λb d e f=>c<=f->yg E [.var [.str
 b0,.j 0]]/\uP f (Q a b d e))) (yg E [.var [.str b0,.j 0]]/\uP b (Q a false e f))))))))) (∀ a,e<=a->BCalls prog 104 [.bool,
 .str,.i] [.pb 0 0 0 0,.str (bytes [60])] [Bx.var [.str c,.j d]] a (λb c d e=>a<=e->Br b (∀ a,e<=a->BCalls prog 215 [.ag
 2,.bool,.str,.i] [.pb 0 0 0 0,.j (jW.wrap (n1 - 1))] [Bx.var [.str c,.j d]] a (λb c d e f=>a<=f->Bel f b->kA 2 225
 [.dg 2 b] f (λa b=>Br c (∀ c,b<=c->BCalls prog 104 [.bool,.str,.i] [.pb 0 0 0 0,.str (bytes [62])] [Bx.var [.str d,.j e]] c
 (λb d e f=>c<=f->yg E [.var [.str b0,.j 0]]/\uP f (Q a b d e))) (yg E [.var [.str b0,.j 0]]/\uP b (Q a false d
 e))))) (yg E [.var [.str b0,.j 0]]/\uP e (Q (D.ag [D.j 0,jN]) false c d))))))))))):jB 215 [.pb 0 0 0 0,.int .i64 n1] [.var [.str I,.int .i64 J]] N Q:=
  bE qq h
end Go.Proofs.YtlaniepnglheoaaGreatDoor
set_option maxRecDepth 100000
namespace Go.Proofs.YtlaniepnglheoaaGreatDoor
open Go Go.Proofs Go.Proofs.Tryz
def FK:Hint:=⟨[],[],[(8,hs 10 [ec 1 [12],ec 7 [18]])]⟩
def CM:Hint:=⟨[hc 4 [1,2,5]],[],[(6,[en 0,en 1,en 2,en 3,en 4,en 5,en 6,ec 7 [25],ec 8 [24],en 9])]⟩
def qz:Hint:=⟨[hc 6 [1,2,4,5,6],hc 12 [1,2,4,5,9]],[],[(8,hs 7 [ec 5 [37]]),(9,hs 9 [ec 2 [41]]),(17,[en 0,en 1,en 2,en 3,en 4,en 5,en 6,en 7,eh 8,en 9,en 10,en 11,en 12,en 13])]⟩
def MG:Hint:=⟨[],[],[(1,hs 12 [ec 5 [13]]),(4,hs 7 [ec 3 [21,23]])]⟩
def IU:Hint:=⟨[],[],[(1,hs 4 [ec 1 [8]])]⟩
def CD:Hint:=⟨[hc 3 [1,2,4,5]],[],[(5,hs 7 [ec 5 [20]]),(6,hs 9 [ec 2 [24]]),(10,[en 0,en 1,en 2,en 3,en 4,en 5,en 6,en 7,en 8,en 9,ec 10 [38,44],eh 11,en 12]),(12,[en 0,en 1,en 2,en 3,en 4,en 5,en 6,en 8,en 9,en 10,en 11,en 12,en 13,ec 7 [51,54],ec 14 [55,61],eh 15,en 16])]⟩
def BH:Hint:=⟨[hc 10 [1,2,4,10]],[],[(3,hs 3 [ec 1 [25]]),(4,hs 8 [ec 1 [29]]),(7,hs 8 [ec 4 [41]]),(12,[en 0,en 1,en 2,en 3,en 4,en 5,en 6,en 13,ec 7 [57],ec 8 [56],en 9,en 10,en 11,en 12,eh 14,en 15,en 16]),(14,hs 8 [ec 3 [65,67]])]⟩
def KG:Hint:=⟨[],[],[(2,hs 3 [ec 1 [11]]),(3,hs 8 [ec 1 [15]]),(6,hs 10 [ec 7 [36]]),(8,[en 0,en 1,en 2,en 3,en 4,en 5,en 6,ec 7 [45,48],eh 8,en 9]),(10,hs 7 [ec 4 [62]])]⟩
def IT:Hint:=⟨[],[],[(1,hs 2 [ec 1 [13]]),(5,hs 8 [ec 1 [21]]),(8,hs 8 [ec 1 [30]]),(11,hs 13 [ec 4 [42]]),(12,hs 6 [ec 2 [47,48]]),(17,hs 8 [ec 1 [57]])]⟩
def xR (Q:QT [.bool]) N0 n1 I J N:=jT 91 4 Q N0 (an 1 (.j n1::.pb 0 0 0 0::an 2 (.j I::an 24 []))) [.vd J 9] N
def yX (Q:QT [.ag 9,.i]) N0 n4 m5 c5 n6 y0 I J O U Y aa ab ac ae ah ai aj ak al ao r2 q2 N:=jT 92 6 Q N0 (an 1 (.pb 0 0 0 0::.pb 1 0 0 0::an 1 (.j n4::.sb 2 0 0 m5 c5::.j n6::an 95 []))) [.vd y0 9,jV I J O U Y aa ab ac ae ah ai aj ak al ao,.arr 3 0 r2 q2] N
def vO (Q:QT [.ag 9,.i]) N0 n5 y0 I J O U Y aa ab ac ae ah ai aj ak al ao y2 N:=jT 93 3 Q N0 (an 1 (.pb 0 0 0 0::.pb 1 0 0 0::an 1 (.pb 2 0 0 0::.j n5::an 58 []))) [.vd y0 9,jV I J O U Y aa ab ac ae ah ai aj ak al ao,.vd y2 9] N
def yY (Q:QT [.ag 9,.i,.bool]) N0 n1 aq y0 I J O U Y aa ab ac ae ah ai aj ak al ao N:=jT 94 10 Q N0 (an 1 (.j n1::.pb 0 0 0 0::an 1 (.pb 1 0 0 0::an 5 (.j aq::an 60 [])))) [.vd y0 9,jV I J O U Y aa ab ac ae ah ai aj ak al ao] N
def xQ (Q:QT [.ag 9,.i]) N0 n4 m5 c5 n9 y0 I J O U Y aa ab ac ae ah ai aj ak al ao r2 q2 N:=jT 92 12 Q N0 (an 1 (.pb 0 0 0 0::.pb 1 0 0 0::an 1 (.j n4::.sb 2 0 0 m5 c5::an 3 (.j n9::an 92 [])))) [.vd y0 9,jV I J O U Y aa ab ac ae ah ai aj ak al ao,.arr 3 0 r2 q2] N
theorem Fq N I(Q:QT [.bool])(h :
Bel N I->∃ n:Int,(I.cell 0)=D.j n/\Br (n==2) (uP N (Q true)) (Br (n==3) (uP N (Q true)) (Br (n==6) (uP N (Q true)) (Br (n==9) (uP N (Q
 true)) (Br (n==10) (kB 88 [.dg 9 I,.j 0] N (λb d=>Br b (∃ a b,∃ c:Nat,(I.cell 8)=D.sl a 9 b c/\jL 0 b/\kB 91 [.dg 9 (b.getD 0 jD),.j 1] d (λa b=>uP b (Q a))) (uP d (Q false)))) (uP N (Q false))))))):jC 47 [.dg 9 I] N Q:=
  eE FK h
theorem Lz N I n1(Q:QT [.bool])(h :
Bel N I->∃ n:Int,(I.cell 0)=D.j n/\Br (n==11) (Br (n1==1) (uP N (Q false)) (xR Q N n1 0 I N)) (xR Q N n1 0 I N)):jC 91 [.dg 9 I,.j n1] N Q:=
 eE CM h
theorem Ns N I(Q:QT [.ag 9,.i])(h :
Bel N I->∃ s,(I.cell 1)=D.t s/\Br (jE s (bytes [38])) (yX Q N 3 2 2 0 I 0 b0 b0 0 0 none [] 0 0 none
 [] 0 none [] 0 [D.j 0,D.j 0] 2 N) (∃ a,(I.cell 1)=D.t a/\Br (jE a (bytes [124])) (yX Q N 3 2 2 0 I 0
 b0 b0 0 0 none [] 0 0 none [] 0 none [] 0 [D.j 0,D.j 0] 2 N) (∃ a,(I.cell 1)=D.t a/\Br (jE a (bytes [33]))
 (yX Q N 3 2 2 0 I 0 b0 b0 0 0 none [] 0 0 none [] 0 none [] 0 [D.j 0,D.j 0] 2 N) (yX Q N 2 2 2 0 I 0 b0 b0 0 0 none [] 0 0 none [] 0
 none [] 0 [D.j 0,D.j 0] 2 N)))):jC 92 [.dg 9 I] N Q:=
  eE qz h
theorem Nr N I n1(Q:QT [.ag 9,.i])(h :
Bel N I->∃ a b,∃ c:Nat,(I.cell 8)=D.sl a 9 b c/\jL n1 b/\∀ a,N<=a->ACalls prog 48 [.ag 9,.i] [.dg 9 (b.getD n1.toNat jD)] a (λx n b=>a<=b->Bel b x->Br (n==0) (uP b (Q I n)) (kA 9 95 [.dg 9 I,.j n1,.dg 9 x] b (λa b=>uP b (Q a
 n))))):jC 156 [.dg 9 I,.j n1] N Q:=
  eE MG h
theorem JF N J n1 I(Q:QT [.ag 9])(h :
Bel N J->Bel N I->∀ b,N<=b->ACalls prog 45 [.pk,.i,.str,.str,.i,.dc,.dc,.dc,.dc,.row 35 9] [.dg 9 J] b (λn s c d x e f g
 h i j=>b<=j->Bel j (D.ag h)->(0<=n1/\n1<(h.length:Int)/\(0+n1.toNat:Nat)<h.length)/\(0+n1.toNat:Nat)<h.length/\w5 (h.length
 = (List.set h (0+n1.toNat:Nat) I).length/\i=i) (∀ a b,j<=b->Fresh N b a [D.ag (List.set h (0+n1.toNat:Nat) I),x,e,f,g]->∀ j,
 b<=j->Q (D.ag [D.j n,D.t s,D.t c,D.j d,x,e,f,g,D.sl a 9 (List.set h (0+n1.toNat:Nat) I) i]) j))):jC 95 [.dg 9 J,.j n1,.dg 9 I] N Q:=
  eE IU h
theorem Ln N I(Q:QT [.ag 9,.i])(h :
Bel N I->∃ a b,∃ c:Nat,(I.cell 8)=D.sl a 9 b c/\jL 0 b/\vO Q N 0 I 0 b0 b0 0 0 none []
 0 0 none [] 0 none [] 0 (b.getD 0 jD) N):jC 93 [.dg 9 I] N Q:=
  eE CD h
theorem JD N I n1(Q:QT [.ag 9,.i,.bool])(h :
Bel N I->∃ n:Int,(I.cell 0)=D.j n/\Br (n==11) (Br (n1==1) (∃ a d,∃ c:Nat,(I.cell 8)=D.sl a 9 d c/\jL 0 d/\kB 47 [.dg 9 (d.getD 0 jD)] N (λb a=>Br (!b) (∀ b,a<=b->ACalls prog 156 [.ag 9,.i] [.dg 9 I,.j 0] b (λx a
 c=>b<=c->Bel c x->uP c (Q x a true))) (∃ b:Int,D.cell (d.getD 0 jD) 0=D.j b/\Br (b==10) (∃ b c,∃ e:Nat,D.cell
 (d.getD 0 jD) 8=D.sl b 9 c e/\jL 0 c/\∀ b,a<=b->ACalls prog 45 [.pk,.i,.str,.str,.i,
 .dc,.dc,.dc,.dc,.row 35 9] [.dg 9 (c.getD 0 jD)] b (λa s c d e f g h i j k=>b<=k->Bel k (D.ag i)->w2
 (i.length=i.length/\j=j) (∀ b l,k<=l->Fresh N l b [D.ag i,e,f,g,h]->uP l (Q (D.ag [D.j a,D.t s,D.t c,D.j d,
 e,f,g,h,D.sl b 9 i j]) 6 true)))) (uP a (Q I 0 true))))) (yY Q N n1 0 I 0 b0 b0 0 0 none [] 0 0 none [] 0 none [] 0 N))
 (yY Q N n1 0 I 0 b0 b0 0 0 none [] 0 0 none [] 0 none [] 0 N)):jC 94 [.dg 9 I,.j n1] N Q:=
  eE BH h
theorem Lo N I(Q:QT [.ag 9,.i])(h :
Bel N I->∃ a d,∃ c:Nat,(I.cell 8)=D.sl a 9 d c/\jL 0 d/\kB 47 [.dg 9 (d.getD 0 jD)] N (fun
 b a=>Br (!b) (∀ b,a<=b->ACalls prog 156 [.ag 9,.i] [.dg 9 I,.j 0] b (λx n a=>b<=a->Bel a x->uP a (Q x n))) (∃ b:Int,(I.cell 0) =
 D.j b/\Br (b==5) (∃ b:Int,D.cell (d.getD 0 jD) 0=D.j b/\Br (b==3) (∃ b c,∃ e:Nat,(I.cell 8)=D.sl b 9 c e /\
 ∃ b:Int,D.cell (d.getD 0 jD) 3=D.j b/\(0<=jW.wrap (2 - b)/\jW.wrap (2 - b)<(c.length:Int))/\∀ d,a<=d ->
 ACalls prog 45 [.pk,.i,.str,.str,.i,.dc,.dc,.dc,.dc,.row 35 9] [.dg 9 (List.getD c (jW.wrap (2 - b)).toNat default)] d (λa s b
 c e f g h i j k=>d<=k->Bel k (D.ag i)->w2 (i.length=i.length/\j=j) (∀ d l,k<=l->Fresh N l d [D.ag i,
 e,f,g,h]->uP l (Q (D.ag [D.j a,D.t s,D.t b,D.j c,e,f,g,h,D.sl d 9 i j]) 2)))) (∃ b:Int,(I.cell 0)=D.j b/\Br
 (b==8) (∃ b c,∃ e:Nat,(I.cell 8)=D.sl b 9 c e/\jL 1 c/\∃ b,(I.cell 1)=D.t b/\kA 9
 158 [.dg 9 (c.getD 1 jD),.str b,.dg 9 (d.getD 0 jD)] a (λa b=>uP b (Q a 5))) (∃ b:Int,(I.cell 0)=D.j b/\Br
 (b==12) (∃ b:Int,D.cell (d.getD 0 jD) 0=D.j b/\Br (b==10) (∃ b c,∃ e:Nat,D.cell (d.getD 0 jD) 8=D.sl b 9
 c e/\jL 0 c/\∀ b,a<=b->ACalls prog 45 [.pk,.i,.str,.str,.i,.dc,.dc,.dc,.dc,.row 35 9] [.dg 9
 (c.getD 0 jD)] b (λa c d e f g h i j k l=>b<=l->Bel l (D.ag j)->w2 (j.length=j.length/\k =
 k) (∀ b m,l<=m->Fresh N m b [D.ag j,f,g,h,i]->uP m (Q (D.ag [D.j a,D.t c,D.t d,D.j e,f,g,h,i,D.sl
 b 9 j k]) 7)))) (∃ b:Int,(I.cell 0)=D.j b/\Br (b==13) (∃ b:Int,D.cell (d.getD 0 jD) 0=D.j b/\Br (b==2) ((1
 = ([d.getD 0 jD]).length/\1=1)/\∀ b,ApA b [d.getD 0 jD]->∀ c,a<=c->xj c [b]->ACalls prog 141 [.ag 9] [.j 10,.sv
 b 9 [d.getD 0 jD] 1] c (λa d=>c<=d->Off [b] a/\(Bel d a->uP d (Q a 8)))) (∃ b:Int,D.cell (d.getD 0 jD) 0=D.j b/\Br (b==3) ((1=([d.getD 0 jD]).length/\1=1)/\∀ b,ApA b [d.getD 0 jD]->∀ c,a<=c->xj c
 [b]->ACalls prog 141 [.ag 9] [.j 10,.sv b 9 [d.getD 0 jD] 1] c (λa d=>c<=d->Off [b] a/\(Bel d a->uP d (Q a
 8)))) (uP a (Q I 0)))) (uP a (Q I 0)))) (∃ b:Int,(I.cell 0)=D.j b/\Br (b==13) (∃ b:Int,D.cell (d.getD 0 jD) 0=D.j b
 /\ Br (b==2) ((1=([d.getD 0 jD]).length/\1=1)/\∀ b,ApA b [d.getD 0 jD]->∀ c,a<=c->xj c [b]->ACalls prog 141
 [.ag 9] [.j 10,.sv b 9 [d.getD 0 jD] 1] c (λa d=>c<=d->Off [b] a/\(Bel d a->uP d (Q a 8)))) (∃ b:Int,
 D.cell (d.getD 0 jD) 0=D.j b/\Br (b==3) ((1=([d.getD 0 jD]).length/\1=1)/\∀ b,ApA b [d.getD 0 jD]->∀
 c,a<=c->xj c [b]->ACalls prog 141 [.ag 9] [.j 10,.sv b 9 [d.getD 0 jD] 1] c (λa d=>c<=d->Off [b] a/\(Bel
 d a->uP d (Q a 8)))) (uP a (Q I 0)))) (uP a (Q I 0)))))) (∃ b:Int,(I.cell 0)=D.j b/\Br (b==8) (∃ b c,∃ e:Nat,
 (I.cell 8)=D.sl b 9 c e/\jL 1 c/\∃ b,(I.cell 1)=D.t b/\kA 9 158 [.dg 9 (c.getD 1 jD),.str b,.dg 9 (d.getD 0 jD)] a (λa b=>uP b (Q a 5))) (∃ b:Int,(I.cell 0)=D.j b/\Br (b==12) (∃ b :
 Int,D.cell (d.getD 0 jD) 0=D.j b/\Br (b==10) (∃ b c,∃ e:Nat,D.cell (d.getD 0 jD) 8=D.sl b 9 c e/\jL 0 c/\∀ b,a<=b->ACalls prog 45 [.pk,.i,.str,.str,.i,.dc,.dc,.dc,.dc,.row 35 9] [.dg 9 (c.getD 0 jD)] b (λa c d e f g h i j k l=>b<=l->Bel l (D.ag j)->w2 (j.length=j.length/\k=k) (∀ b
 m,l<=m->Fresh N m b [D.ag j,f,g,h,i]->uP m (Q (D.ag [D.j a,D.t c,D.t d,D.j e,f,g,h,i,D.sl b
 9 j k]) 7)))) (∃ b:Int,(I.cell 0)=D.j b/\Br (b==13) (∃ b:Int,D.cell (d.getD 0 jD) 0=D.j b/\Br (b==2) ((1 =
 ([d.getD 0 jD]).length/\1=1)/\∀ b,ApA b [d.getD 0 jD]->∀ c,a<=c->xj c [b]->ACalls prog 141 [.ag 9] [.j 10,.sv
 b 9 [d.getD 0 jD] 1] c (λa d=>c<=d->Off [b] a/\(Bel d a->uP d (Q a 8)))) (∃ b:Int,D.cell (d.getD 0 jD) 0=D.j b/\Br (b==3) ((1=([d.getD 0 jD]).length/\1=1)/\∀ b,ApA b [d.getD 0 jD]->∀ c,a<=c->xj c
 [b]->ACalls prog 141 [.ag 9] [.j 10,.sv b 9 [d.getD 0 jD] 1] c (λa d=>c<=d->Off [b] a/\(Bel d a->uP d (Q
 a 8)))) (uP a (Q I 0)))) (uP a (Q I 0)))) (∃ b:Int,(I.cell 0)=D.j b/\Br (b==13) (∃ b:Int,D.cell (d.getD 0 jD) 0=D.j
 b/\Br (b==2) ((1=([d.getD 0 jD]).length/\1=1)/\∀ b,ApA b [d.getD 0 jD]->∀ c,a<=c->xj c [b]->ACalls
 prog 141 [.ag 9] [.j 10,.sv b 9 [d.getD 0 jD] 1] c (λa d=>c<=d->Off [b] a/\(Bel d a->uP d (Q a 8)))) (∃ b
 : Int,D.cell (d.getD 0 jD) 0=D.j b/\Br (b==3) ((1=([d.getD 0 jD]).length/\1=1)/\∀ b,ApA b [d.getD 0 jD]->∀ c,a<=c->xj c [b]->ACalls prog 141 [.ag 9] [.j 10,.sv b 9 [d.getD 0 jD] 1] c (λa d=>c<=d->Off
 [b] a/\(Bel d a->uP d (Q a 8)))) (uP a (Q I 0)))) (uP a (Q I 0)))))))):jC 96 [.dg 9 I] N Q:=
  eE KG h
theorem JE N I(Q:QT [.ag 9,.i])(h :
Bel N I->kB 47 [.dg 9 I] N (λb d=>Br b (uP d (Q I 0)) (∃ n:Int,(I.cell 0)=D.j n/\Br (n==4) (∀ a,d<=a->ACalls prog 92 [.ag 9,.i]
 [.dg 9 I] a (λx b c=>a<=c->Bel c x->uP c (Q x b))) (Br (n==7) (∀ a,d<=a->ACalls prog 93 [.ag 9,.i] [.dg 9 I] a (λb c d=>
 a<=d->Bel d b->uP d (Q b c))) (Br (n==10) (∃ a b,∃ c:Nat,(I.cell 8)=D.sl a 9 b c/\jL 0 b/\∀
 a,d<=a->ACalls prog 94 [.ag 9,.i,.bool] [.dg 9 (b.getD 0 jD),.j 1] a (λb c _ d=>a<=d->Bel d b->kA 9 95 [.dg 9
 I,.j 0,.dg 9 b] d (λa b=>uP b (Q a c)))) (Br (n==5) (∀ a,d<=a->ACalls prog 96 [.ag 9,.i] [.dg 9 I] a (λb c d=>a
 <= d->Bel d b->uP d (Q b c))) (Br (n==8) (∀ a,d<=a->ACalls prog 96 [.ag 9,.i] [.dg 9 I] a (λb c d=>a<=d->Bel d b
 -> uP d (Q b c))) (Br (n==12) (∀ a,d<=a->ACalls prog 96 [.ag 9,.i] [.dg 9 I] a (λb c d=>a<=d->Bel d b->uP d (Q b
 c))) (Br (n==13) (∀ a,d<=a->ACalls prog 96 [.ag 9,.i] [.dg 9 I] a (λb c d=>a<=d->Bel d b->uP d (Q b c))) (uP d (Q
 I 0))))))))))):jC 48 [.dg 9 I] N Q:=
  eE IT h
theorem sk N n0(Q:QT [.ag 9])(h :
∀ a,N<=a->Q (D.ag [D.j 2,D.t b0,D.t b0,D.j n0,D.j 0,jN,D.j 0,jN,D.sl none 9 [] 0]) a):jC 149 [.j n0] N Q:=
  eE H0 h
theorem tI N n0(Q:QT [.ag 9])(h :
∀ a,N<=a->Q (D.ag [D.j 3,D.t b0,D.t b0,D.j n0,D.j 0,jN,D.j 0,jN,D.sl none 9 [] 0]) a):jC 80 [.j n0] N Q:=
  eE H0 h
theorem I6 N I n1 n2(Q:QT [.i,.bool])(h :
kB 44 [.j n1,.j 0,.j 10006] N (λb a=>Br (!b) (uP a (Q 0 false)) (kB 44 [.j n2,.j 0,.j 10006] a (λa b=>Br (!a) (uP b (Q 0 false)) (Br
 (jE I (bytes [43])) (kI 207 [.j (jW.wrap (n1+n2))] b (λn a=>uP a (Q n true))) (Br (jE I (bytes [45])) (kI 207 [.j (jW.wrap (n1 - n2))] b (λa b=>uP b (Q a true))) (Br (jE I (bytes [42])) (kI 207 [.j (jW.wrap (n1*n2))] b (λa b=>uP b (Q a true))) (Br (jE I (bytes [61])) (kI
 208 [.bool (n1==n2)] b (λa b=>uP b (Q a true))) (Br (jE I (bytes [60])) (kI 208 [.bool (decide (n1<n2))] b
 (λa b=>uP b (Q a true))) (Br (jE I (bytes [38])) (Br (n1==1) (kI 208 [.bool (n2==1)] b (λa b=>uP
 b (Q a true))) (kI 208 [.bool false] b (λa b=>uP b (Q a true)))) (Br (jE I (bytes [124])) (Br (n1==1) (kI
 208 [.bool true] b (λa b=>uP b (Q a true))) (kI 208 [.bool (n2==1)] b (λa b=>uP b (Q a true)))) (Br (jE I (bytes [33])) (kI 208 [.bool (n1==0)] b (λa b=>uP b (Q a true))) (uP b (Q 0 false)))))))))))))):jC 157 [.str I,.j n1,.j n2] N Q:=
  eE H0 h
theorem Lk N n0(Q:QT [.i])(h :
(10007:Int)≠(0:Int)/\Br (decide (Int.tmod n0 10007<0)) (uP N (Q (jW.wrap (Int.tmod n0 10007+10007)))) (uP N (Q (Int.tmod n0 10007)))):jC 207 [.j n0] N Q:=
 eE H0 h
theorem Nt N b0(Q:QT [.i])(h :
Br b0 (uP N (Q 1)) (uP N (Q 0))):jC 208 [.bool b0] N Q:=
 eE H0 h
theorem pu {Q:QT [.bool]}{N0 n1 I J N}(h :
∃ a d,∃ c:Nat,(J.cell 8)=D.sl a 9 d c/\Br (decide (I<(d.length:Int))) (∃ a c,∃ d:Nat,(J.cell 8)=D.sl a 9 c d/\jL I c/\kI 151 [.dg 9 J,.j n1] N (λn a=>kB 91 [.dg 9 (c.getD I.toNat jD),.j n] a (λb a=>Br (!b) (uP a (Q
 false)) (xR Q N0 n1 (jW.wrap (I+1)) J a)))) (uP N (Q true))):xR Q N0 n1 I J N:=
  hE CM h
theorem BS {Q:QT [.ag 9,.i]}{N0 n4 m5 c5 n6 y0 I J O U Y aa ab ac ae ah ai aj ak al ao r2 q2 N}(h :
∃ a d,∃ c:Nat,(y0.cell 8)=D.sl a 9 d c/\Br (decide (n6<(d.length:Int))) (∃ a c,∃ d:Nat,(y0.cell 8)=D.sl a 9 c d/\jL n6 c/\kB 47 [.dg 9 (c.getD n6.toNat jD)] N (λb a=>Br (!b) (∀ b,a<=b->ACalls prog 156 [.ag 9,.i] [.dg 9 y0,.j
 n6] b (λx n a=>b<=a->Bel a x->uP a (Q x n))) (yX Q N0 n4 m5 c5 (jW.wrap (n6+1)) y0 I J O U Y aa ab ac
 ae ah ai aj ak al ao r2 q2 a))) (xQ Q N0 n4 m5 c5 0 y0 I J O U Y aa ab ac ae ah ai aj ak al ao r2
 q2 N)):yX Q N0 n4 m5 c5 n6 y0 I J O U Y aa ab ac ae ah ai aj ak al ao r2 q2 N:=
  hE qz h
theorem pV {Q:QT [.ag 9,.i]}{N0 n5 y0 J O U Y aa ab ac ae ah ai aj ak al ao aq I N}(h :
Br (decide (n5<2)) (∃ a d,∃ c:Nat,(y0.cell 8)=D.sl a 9 d c/\jL n5 d/\kB 47 [.dg 9 (d.getD n5.toNat jD)] N
 (λb a=>Br (!b) (∀ b,a<=b->ACalls prog 156 [.ag 9,.i] [.dg 9 y0,.j n5] b (λx n a=>b<=a->Bel a x->uP a (Q x n))) (vO Q N0
 (jW.wrap (n5+1)) y0 J O U Y aa ab ac ae ah ai aj ak al ao aq I a))) (∃ a:Int,(I.cell 0)=D.j a/\Br (a
 == 6) (∃ a b,∃ c:Nat,(I.cell 8)=D.sl a 9 b c/\jL 0 b/\∃ s,(I.cell 1)=D.t s/\∃ a c,∃
 d:Nat,(y0.cell 8)=D.sl a 9 c d/\jL 1 c/\kA 9 158 [.dg 9 (b.getD 0 jD),.str s,.dg 9
 (c.getD 1 jD)] N (λa b=>uP b (Q a 3))) (Br (a==9) (∃ a b,∃ c:Nat,(I.cell 8)=D.sl a 9 b c/\jL 0 b/\∃ a,(I.cell 1)=D.t a/\∃ c,(I.cell 2)=D.t c/\∃ d e,∃ f:Nat,(y0.cell 8)=D.sl d 9 e f/\jL 1 e/\kA 9 158 [.dg 9 (b.getD 0 jD),.str a,.dg 9 I] N (λa b=>kA 9 158 [.dg 9 a,.str c,
 .dg 9 (e.getD 1 jD)] b (λa b=>uP b (Q a 4)))) (uP N (Q y0 0))))):vO Q N0 n5 y0 J O U Y aa ab ac ae ah ai aj ak al ao aq I N:=
  hE CD h
theorem rT {Q:QT [.ag 9,.i,.bool]}{N0 n1 I y0 J O U Y aa ab ac ae ah ai aj ak al ao aq N}(h :
∃ a d,∃ c:Nat,(y0.cell 8)=D.sl a 9 d c/\Br (decide (I<(d.length:Int))) (∃ a c,∃ d:Nat,(y0.cell 8)=D.sl a 9 c d/\jL I c/\kI 151 [.dg 9 y0,.j n1] N (λn a=>∀ d,a<=d->ACalls prog 94 [.ag 9,.i,.bool] [.dg 9 (c.getD I.toNat jD),.j n] d (λx a b c=>d<=c->Bel c x->Br b (kA 9 95 [.dg 9 y0,.j I,.dg 9 x] c (λb c=>uP c (Q b a true)))
 (yY Q N0 n1 (jW.wrap (I+1)) y0 J O U Y aa ab ac ae ah ai aj ak al ao aq c)))) (uP N (Q y0 0
 false))):yY Q N0 n1 I y0 J O U Y aa ab ac ae ah ai aj ak al ao aq N:=
  hE BH h
theorem pW {Q:QT [.ag 9,.i]}{N0 n4}{m5 c5:Nat}{I J U Y aa ab ac ae ah ai aj ak al ao aq au aw O q2 N}(h :
∃ a d,∃ c:Nat,(J.cell 8)=D.sl a 9 d c/\Br (decide (I<(d.length:Int))) (∃ a b,∃ c:Nat,(J.cell 8)=D.sl a 9 b c/\jL I b/\∃ n:Int,(if 0=0 then D.cell (b.getD I.toNat jD) 0 else D.sub (b.getD I.toNat jD) 0 0)=D.j n /\
 Br (bne n n4) (uP N (Q J 0)) (∃ a b,∃ c:Nat,(J.cell 8)=D.sl a 9 b c/\jL I b/\∃ a:Int,(if 0=0 then
 D.cell (b.getD I.toNat jD) 3 else D.sub (b.getD I.toNat jD) 3 0)=D.j a/\(0<=I/\I<(m5:Int)/\(0+I.toNat:Nat) <
 O.length)/\(0+I.toNat:Nat)<O.length/\xQ Q N0 n4 m5 c5 (jW.wrap (I+1)) J U Y aa ab ac ae ah ai aj ak
 al ao aq au aw (List.set O (0+I.toNat:Nat) (D.j a)) q2 N)) (∃ s,(J.cell 1)=D.t s/\((0:Int)<=(0:Int)/\0<(m5:Int)/\0 <
 O.length)/\0<O.length/\∃ a:Int,O.getD 0 jD=D.j a/\((0:Int)<=(1:Int)/\1<(m5:Int)/\1<O.length)/\1<O.length/\∃ c :
 Int,O.getD 1 jD=D.j c/\kIB 157 [.str s,.j a,.j c] N (λa _ b=>∃ c,(J.cell 1)=D.t c/\Br (jE c (bytes [43])) (kA 9 149 [.j a] b (λx a=>uP a (Q x 1))) (∃ c,(J.cell 1)=D.t c/\Br (jE c (bytes [45])) (kA 9 149 [.j a] b (λa b=>uP b (Q a 1))) (∃ c,(J.cell 1)=D.t c/\Br (jE c (bytes [42]))
 (kA 9 149 [.j a] b (λa b=>uP b (Q a 1))) (kA 9 80 [.j a] b (λa b=>uP b (Q a 1)))))))):xQ Q N0 n4 m5 c5 I J U Y aa ab ac ae ah ai aj ak al ao aq au aw O q2 N:=
  hE qz h
end Go.Proofs.YtlaniepnglheoaaGreatDoor
