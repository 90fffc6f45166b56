/- Printed by gen.py: what the functions come to. -/
import Derived.Test.YtfajiphkncipoaaGreatDoorJh
set_option linter.unusedVariables false
set_option maxRecDepth 100000
namespace Go.Proofs.YtfajiphkncipoaaGreatDoor
open Go Go.Proofs Go.Proofs.Tryz
def shB:FuncId->List Sh:=λf=>match zLL f [(126,[.row 0 1000007,.ag 9]),(88,[.row 0 1000007,.ag 9]),(89,[.row 0 1000007,.ag 9]),(51,[.row 0 1000007,.ag 9]),(86,[.row 0 1000007,.bool]),(50,[.row 0 1000007,.ag 9]),(85,[.row 0 1000007,.ag 9])] with
 | []=>sh f
 | l=>l
theorem zOU {f:FuncId} {rs:List Sh} {Q:QT rs} {N:Nat} (H:Hint) {args:List PV} {F:Prop} (h:F) (hc:xG prog f=true:=by kernel_rfl) (I:F=zGj prog shB f rs Q N H 400 args:=by kernel_rfl):ACalls prog f rs args N Q:=zNI mixed hc I h
theorem zJu {f:FuncId} {full:List Sh} {Q:QT full} {N:Nat} (H:Hint) {args:List PV} {bx:List Bx} {F:Env->Prop} (h:∀ E,F E) (hc:xG prog f=true:=by kernel_rfl) (I:∀ E,F E=zF6 prog shB f full Q N H 400 args bx E:=by intro E;kernel_rfl):BCalls prog f full args bx N Q:=zKM mixed hc I h
theorem zMo {f:FuncId} {rs:List Sh} {Q:QT rs} {N0:Nat} {M:Mode} (H:Hint) {I:List Item} {st:St} {F:Prop} (h:F) (J:F=zBn st λst=>W prog shB f rs Q N0 M H 400 true I st:=by kernel_rfl):AT prog f rs Q N0 M I st:=zRy mixed J h
def zF0:Hint:=⟨[],[],[(1,hs 8 [ec 1 [9]]),(4,hs 6 [ec 2 [22],ec 3 [23]]),(7,[en 0,en 2,en 3,en 4,en 5,ec 1 [30],eh 6,en 7,en 8])]⟩
def zFq:Hint:=⟨[],[],[(1,hs 8 [ec 1 [9]]),(4,hs 6 [ec 2 [22],ec 3 [23]]),(7,[en 0,en 2,en 3,en 4,en 5,ec 1 [30],eh 6,en 7,en 8])]⟩
def tH:Hint:=⟨[hc 4 [1,2,4,19,20,21]],[],[(6,[en 0,en 1,en 2,en 8,ec 3 [27],ec 4 [26],en 5,en 6,en 7,eh 9,en 10]),(10,hs 5 [ec 2 [37]])]⟩
def pG:Hint:=⟨[hc 12 [0,3,4,6,7,8]],[],[(1,hs 8 [ec 6 [14]]),(4,hs 10 [ec 5 [25]]),(5,hs 13 [ec 7 [35]]),(7,hs 4 [ec 1 [42]]),(14,[en 0,en 1,en 2,en 3,en 4,en 5,en 6,en 7,en 8,ec 9 [82],en 10,eh 11]),(15,hs 4 [ec 2 [86]])]⟩
def wL:Hint:=⟨[hc 1 [0,3,4],hc 6 [0,3,4,5,28,29]],[],[(1,hs 10 [ec 7 [15]]),(3,hs 4 [ec 2 [23]]),(4,hs 4 [ec 1 [25]]),(5,hs 3 [ec 1 [27]]),(8,[en 0,en 1,en 2,en 3,en 4,en 5,en 6,en 7,en 8,ec 9 [40],en 10,eh 11]),(12,hs 8 [ec 1 [50]]),(13,hs 5 [ec 3 [55]])]⟩
def pI:Hint:=⟨[hc 11 [0,2,4,6,8,9]],[],[(4,hs 8 [ec 5 [26]]),(8,hs 7 [ec 5 [45]]),(9,hs 4 [ec 1 [47]]),(13,[en 0,en 1,en 2,en 3,en 4,en 5,en 6,en 7,en 8,en 9,en 10,ec 11 [65],ec 12 [64],en 13,eh 14])]⟩
def zFy:Hint:=⟨[],[],[(2,[en 0,en 1,en 2,en 3,en 4,en 5,en 6,en 7,en 8,en 9,en 10,en 11,en 12,en 13,en 14,en 15,en 16,en 17,ec 18 [30],en 19,en 20,en 21,en 22,eh 23])]⟩
def zD5:Hint:=⟨[],[],[(3,hs 8 [ec 1 [14]]),(7,hs 5 [ec 2 [25]]),(10,hs 4 [ec 2 [33]])]⟩
def sM:Hint:=⟨[],[],[(1,hs 11 [ec 4 [16]]),(5,hs 8 [ec 5 [30]]),(6,hs 8 [ec 1 [33]]),(10,hs 5 [ec 3 [46]]),(13,hs 6 [ec 4 [58]]),(14,hs 8 [ec 2 [62]]),(15,hs 7 [ec 1 [69]]),(16,hs 5 [ec 3 [74]])]⟩
def qh:Hint:=⟨[],[],[(1,hs 14 [ec 11 [17]])]⟩
def sV:Hint:=⟨[hc 11 [1,2,3,6,54,55,56]],[],[(3,hs 3 [ec 1 [31]]),(4,hs 9 [ec 2 [36]]),(5,hs 8 [ec 3 [40]]),(6,hs 8 [ec 1 [46]]),(13,[en 0,en 1,en 2,en 4,en 10,ec 3 [63],ec 5 [62],en 6,en 7,en 8,en 9,eh 11,en 12,en 13]),(15,hs 4 [ec 1 [72]])]⟩
def zk (Q:QT [.ag 9,.bool]) (N0:Nat) (n1:Int) (ao:Option Addr) (aq:List D) (au:Nat) (aw ax:Int) (y0:D) (I:Int) (J O:ByteArray) (U Y:Int) (aa:Option Addr) (ab:List D) (ac:Nat) (ae:Int) (ah:Option Addr) (ai:List D) (aj:Nat) (ak:Option Addr) (al:List D) (am:Nat) (N:Nat):Prop:=AT prog 124 [.ag 9,.bool] Q N0 .ord (zD prog 124 4) ⟨an 1 (.int .i64 n1::.pb 0 0 0 0::an 1 (.pb 1 0 0 0::an 14 (.sv ao 9 aq au::.int .i64 aw::.int .i64 ax::an 17 []))),[.vd y0 9,.var [.int .i64 I,.str J,.str O,.int .i64 U,.int .i64 Y,.sv aa 2 ab ac,.int .i64 ae,.sv ah 2 ai aj,.sv ak 9 al am]],N,none⟩
def zw (E:Env) (Q:QT [.ag 9,.i,.i,.bool]) (N0:Nat) (n7 n8 I J:Int) (O:Bool) (y1:D) (U:Int) (Y aa:ByteArray) (ab ac:Int) (ae:Option Addr) (ah:List D) (ai:Nat) (aj:Int) (ak:Option Addr) (al:List D) (am:Nat) (ao:Option Addr) (aq:List D) (au:Nat) (aw:Int) (ax ay:ByteArray) (az:Int) (a1 a6 a7 a8:D) (ba bb:Nat) (r4:List D) (q4:Nat) (N:Nat):Prop:=AT prog 51 [.ag 9,.i,.i,.bool] Q N0 (.io E [.var [.int .i64 0,.int .i64 0,.bool false]]) (zD prog 51 12) ⟨.pb 0 0 0 0::an 2 (.pb 1 0 0 0::.pb 2 0 0 0::an 1 (.pb 3 0 0 0::.int .i64 n7::.int .i64 n8::an 79 [])),[.var [.int .i64 I,.int .i64 J,.bool O],.vd y1 9,.var [.int .i64 U,.str Y,.str aa,.int .i64 ab,.int .i64 ac,.sv ae 2 ah ai,.int .i64 aj,.sv ak 2 al am,.sv ao 9 aq au],.var [.int .i64 aw,.str ax,.str ay,.int .i64 az,.dc a1,.dc a6,.dc a7,.dc a8,.sb 4 9 0 ba bb],.arr 29 9 r4 q4],N,some (yr E 0 [.var [.int .i64 0,.int .i64 0,.bool false]],[])⟩
def zZ (E:Env) (Q:QT [.ag 9,.i,.i,.bool]) (N0:Nat) (I J:Int) (O:Bool) (y1:D) (U:Int) (Y aa:ByteArray) (ab ac:Int) (ae:Option Addr) (ah:List D) (ai:Nat) (aj:Int) (ak:Option Addr) (al:List D) (am:Nat) (ao:Option Addr) (aq:List D) (au:Nat) (N:Nat):Prop:=AT prog 50 [.ag 9,.i,.i,.bool] Q N0 (.io E [.var [.int .i64 0,.int .i64 0,.bool false]]) (zD prog 50 1) ⟨.pb 0 0 0 0::an 2 (.pb 1 0 0 0::.pb 2 0 0 0::an 57 []),[.var [.int .i64 I,.int .i64 J,.bool O],.vd y1 9,.var [.int .i64 U,.str Y,.str aa,.int .i64 ab,.int .i64 ac,.sv ae 2 ah ai,.int .i64 aj,.sv ak 2 al am,.sv ao 9 aq au]],N,some (yr E 0 [.var [.int .i64 0,.int .i64 0,.bool false]],[])⟩
def zu (E:Env) (Q:QT [.ag 9,.i,.i,.bool]) (N0:Nat) (n2 n9 I J:Int) (O:Bool) (y1:D) (U:Int) (Y aa:ByteArray) (ab ac:Int) (ae:Option Addr) (ah:List D) (ai:Nat) (aj:Int) (ak:Option Addr) (al:List D) (am:Nat) (ao:Option Addr) (aq:List D) (au:Nat) (aw:Int) (ax ay:ByteArray) (az:Int) (a1 a6 a7 a8:D) (ba bb:Nat) (r4:List D) (q4:Nat) (N:Nat):Prop:=AT prog 88 [.ag 9,.i,.i,.bool] Q N0 (.io E [.var [.int .i64 0,.int .i64 0,.bool false]]) (zD prog 88 11) ⟨.pb 0 0 0 0::an 1 (.int .i64 n2::an 1 (.pb 1 0 0 0::an 1 (.pb 2 0 0 0::an 1 (.pb 3 0 0 0::.int .i64 n9::an 61 [])))),[.var [.int .i64 I,.int .i64 J,.bool O],.vd y1 9,.var [.int .i64 U,.str Y,.str aa,.int .i64 ab,.int .i64 ac,.sv ae 2 ah ai,.int .i64 aj,.sv ak 2 al am,.sv ao 9 aq au],.var [.int .i64 aw,.str ax,.str ay,.int .i64 az,.dc a1,.dc a6,.dc a7,.dc a8,.sb 4 9 0 ba bb],.arr 29 9 r4 q4],N,some (yr E 0 [.var [.int .i64 0,.int .i64 0,.bool false]],[])⟩
def yf (E:Env) (Q:QT [.ag 9,.i,.i,.bool]) (N0:Nat) (bc bd I J:Int) (O:Bool) (y1:D) (U:Int) (Y aa:ByteArray) (ab ac:Int) (ae:Option Addr) (ah:List D) (ai:Nat) (aj:Int) (ak:Option Addr) (al:List D) (am:Nat) (ao:Option Addr) (aq:List D) (au:Nat) (aw:Int) (ax ay:ByteArray) (az:Int) (a1 a6 a7 a8:D) (ba bb:Nat) (r4:List D) (q4:Nat) (N:Nat):Prop:=AT prog 50 [.ag 9,.i,.i,.bool] Q N0 (.io E [.var [.int .i64 0,.int .i64 0,.bool false]]) (zD prog 50 6) ⟨.pb 0 0 0 0::an 2 (.pb 1 0 0 0::.pb 2 0 0 0::.pb 3 0 0 0::an 22 (.int .i64 bc::.int .i64 bd::an 32 [])),[.var [.int .i64 I,.int .i64 J,.bool O],.vd y1 9,.var [.int .i64 U,.str Y,.str aa,.int .i64 ab,.int .i64 ac,.sv ae 2 ah ai,.int .i64 aj,.sv ak 2 al am,.sv ao 9 aq au],.var [.int .i64 aw,.str ax,.str ay,.int .i64 az,.dc a1,.dc a6,.dc a7,.dc a8,.sb 4 9 0 ba bb],.arr 29 9 r4 q4],N,some (yr E 0 [.var [.int .i64 0,.int .i64 0,.bool false]],[])⟩
def yN (Q:QT [.ag 9,.int .i64,.bool]) (N0:Nat) (n1:Int) (J:Addr) (I:D) (au:Option Addr) (aw:List D) (ax:Nat) (ay az:Int) (y0:D) (O:Int) (U Y:ByteArray) (aa ab:Int) (ac:Option Addr) (ae:List D) (ah:Nat) (ai:Int) (aj:Option Addr) (ak:List D) (al:Nat) (am:Option Addr) (ao:List D) (aq:Nat) (N:Nat):Prop:=AT prog 63 [.ag 9,.int .i64,.bool] Q N0 .ord (zD prog 63 11) ⟨an 1 (.int .i64 n1::.fn 125 [.pd J 9 I]::.pb 0 0 0 0::an 2 (.pb 1 0 0 0::an 47 (.sv au 9 aw ax::.int .i64 ay::.int .i64 az::an 26 []))),[.vd y0 9,.var [.int .i64 O,.str U,.str Y,.int .i64 aa,.int .i64 ab,.sv ac 2 ae ah,.int .i64 ai,.sv aj 2 ak al,.sv am 9 ao aq]],N,none⟩
theorem zFs (N:Nat) (I:D) (n1:Int) (Q:QT [.ag 9,.int .i64,.bool]) (h :
Bel N I->kB 36 [.dg 9 I,.j 0] N (λb d=>Br (!b) (∀ a,d<=a->Q (D.ag [D.j 0,D.t b0,D.t b0,D.j 0,D.j 0,D.sl none 2 [] 0,D.j 0,D.sl none
 2 [] 0,D.sl none 9 [] 0]) 0 false a) (kB 44 [.j n1,.j 0,.j 200] d (λb d=>Br (!b) (∀ a,d<=a->Q (D.ag [D.j 0,D.t b0,D.t b0,D.j 0,D.j 0,
 D.sl none 2 [] 0,D.j 0,D.sl none 2 [] 0,D.sl none 9 [] 0]) 0 false a) (∀ b,d<=b->ACalls prog 40 [.pk,.i,.str,.str,.i,.dc,.dc,.dc,.dc,.row 29
 9] [.dg 9 I] b (λn s c d x e f g h i j=>b<=j->Bel j (D.ag h)->(h.length=h.length/\i=i)/\∀ a b,j<=b->Fresh N b a [D.ag
 h]->∀ j,b<=j->BCalls prog 51 [.ag 9,.i,.i,.bool] [.pb 0 0 0 0,.dg 9 (D.ag [D.j n,D.t s,D.t c,D.j d,x,e,f,g,D.sl a 9 h i])]
 [Bx.var [.j n1,.j 0,.bool false]] j (λa _ b c d=>j<=d->Bel d a->Br c (∀ a,d<=a->Q (D.ag [D.j 0,D.t b0,D.t b0,D.j 0,
 D.j 0,D.sl none 2 [] 0,D.j 0,D.sl none 2 [] 0,D.sl none 9 [] 0]) 0 false a) (∀ c,d<=c->ACalls prog 40 [.pk,.i,.str,.str,.i,.dc,.dc,.dc,
 .dc,.row 29 9] [.dg 9 a] c (λa d e f g h i j k l m=>c<=m->Bel m (D.ag k)->w2 (k.length=k.length/\l =
 l) (∀ c n,m<=n->Fresh N n c [D.ag k,g,h,i,j]->uP n (Q (D.ag [D.j a,D.t d,D.t e,D.j f,g,h,i,j,D.sl c
 9 k l]) b true))))))))))):ACalls prog 24 [.ag 9,.int .i64,.bool] [PV.dg 9 I,PV.int .i64 n1] N Q:=
  zOU zF0 h
theorem zFr (N:Nat) (I:D) (n1:Int) (Q:QT [.ag 9,.int .i64,.bool]) (h :
Bel N I->kB 32 [.dg 9 I,.j 0] N (λb d=>Br (!b) (∀ a,d<=a->Q (D.ag [D.j 0,D.t b0,D.t b0,D.j 0,D.j 0,D.sl none 2 [] 0,D.j 0,D.sl none
 2 [] 0,D.sl none 9 [] 0]) 0 false a) (kB 43 [.j n1,.j 0,.j 200] d (λb d=>Br (!b) (∀ a,d<=a->Q (D.ag [D.j 0,D.t b0,D.t b0,D.j 0,D.j 0,
 D.sl none 2 [] 0,D.j 0,D.sl none 2 [] 0,D.sl none 9 [] 0]) 0 false a) (∀ b,d<=b->ACalls prog 33 [.pk,.i,.str,.str,.i,.dc,.dc,.dc,.dc,.row 29
 9] [.dg 9 I] b (λn s c d x e f g h i j=>b<=j->Bel j (D.ag h)->(h.length=h.length/\i=i)/\∀ a b,j<=b->Fresh N b a [D.ag
 h]->∀ j,b<=j->BCalls prog 50 [.ag 9,.i,.i,.bool] [.pb 0 0 0 0,.dg 9 (D.ag [D.j n,D.t s,D.t c,D.j d,x,e,f,g,D.sl a 9 h i])]
 [Bx.var [.j n1,.j 0,.bool false]] j (λa _ b c d=>j<=d->Bel d a->Br c (∀ a,d<=a->Q (D.ag [D.j 0,D.t b0,D.t b0,D.j 0,
 D.j 0,D.sl none 2 [] 0,D.j 0,D.sl none 2 [] 0,D.sl none 9 [] 0]) 0 false a) (∀ c,d<=c->ACalls prog 33 [.pk,.i,.str,.str,.i,.dc,.dc,.dc,
 .dc,.row 29 9] [.dg 9 a] c (λa d e f g h i j k l m=>c<=m->Bel m (D.ag k)->w2 (k.length=k.length/\l =
 l) (∀ c n,m<=n->Fresh N n c [D.ag k,g,h,i,j]->uP n (Q (D.ag [D.j a,D.t d,D.t e,D.j f,g,h,i,j,D.sl c
 9 k l]) b true))))))))))):ACalls prog 23 [.ag 9,.int .i64,.bool] [PV.dg 9 I,PV.int .i64 n1] N Q:=
  zOU zFq h
theorem zAa (N:Nat) (I:D) (n1:Int) (Q:QT [.ag 9,.bool]) (h :
Bel N I->∃ n:Int,(I.cell 0)=D.j n/\Br (n==11) (Br (n1==1) (uP N (Q I true)) (∃ a b,∃ c:Nat,(I.cell 8)=D.sl a 9 b c /\
 zk Q N n1 a b c (b.length:Int) 0 I 0 b0 b0 0 0 none [] 0 0 none [] 0 none [] 0 N)) (∃ a b,∃ c:Nat,(I.cell 8)=D.sl a 9
 b c/\zk Q N n1 a b c (b.length:Int) 0 I 0 b0 b0 0 0 none [] 0 0 none [] 0 none [] 0 N)):ACalls prog 124 [.ag 9,.bool] [PV.dg 9 I,PV.int .i64 n1] N Q:=
  zOU tH h
theorem zBV (N:Nat) (U:D) (J O:Int) (I:Bool) (Q:QT [(Sh.ag 9),(Sh.int IntKind.i64),(Sh.int IntKind.i64),Sh.bool]) (h:∀ E:Env,
Bel N U->Br I (zO E [.var [.j 0,.j 0,.bool false]]/\uP N (Q U J O I)) (kB 39 [.dg 9 U] N (λb d=>Br b (zO E
 [.var [.j 0,.j 0,.bool false]]/\uP d (Q U J O I)) (∃ n:Int,(U.cell 0)=D.j n/\Br (n==10) (∃ a b,∃ c:Nat,(U.cell 8)=D.sl a 9 b
 c/\((0:Int)<=(0:Int)/\0<(b.length:Int))/\∀ a,d<=a->BCalls prog 88 [.ag 9,.i,.i,.bool] [.pb 0 0 0 0,.dg 9 (List.getD b 0 default),.j 1]
 [Bx.var [.j J,.j O,.bool I]] a (λx b c d e=>a<=e->Bel e x->(1=([x]).length/\1=1)/\∀ a,ApA a [x]->∀ f,e<=f ->
 xX f [a]->ACalls prog 87 [.ag 9] [.j 10,.sv a 9 [x] 1] f (λe g=>f<=g->Off [a] e/\(Bel g e->Br d (zO E [.var [.j 0,.j 0,
 .bool false]]/\uP g (Q e b c true)) (kB 39 [.dg 9 e] g (λa d=>zO E [.var [.j 0,.j 0,.bool false]]/\uP d (Q e b c (!a))))))))
 (∀ a,d<=a->ACalls prog 40 [.pk,.i,.str,.str,.i,.dc,.dc,.dc,.dc,.row 29 9] [.dg 9 U] a (λb s c d e f g h i j k=>a
 <= k->Bel k (D.ag i)->∃ a:Int,(U.cell 0)=D.j a/\Br (a==4) (∃ a l,∃ m:Nat,(U.cell 8)=D.sl a 9 l m/\zw
 E Q N (l.length:Int) 0 J O I U 0 b0 b0 0 0 none [] 0 0 none [] 0 none [] 0 b s c d e f g h i.length j i j k) (∃ a
 : Int,(U.cell 0)=D.j a/\Br (a==7) (∃ a l,∃ m:Nat,(U.cell 8)=D.sl a 9 l m/\zw E Q N (l.length:Int) 0 J
 O I U 0 b0 b0 0 0 none [] 0 0 none [] 0 none [] 0 b s c d e f g h i.length j i j k) (zw E Q N 1 0 J O
 I U 0 b0 b0 0 0 none [] 0 0 none [] 0 none [] 0 b s c d e f g h i.length j i j k)))))))):BCalls prog 51 [(Sh.ag 9),(Sh.int IntKind.i64),(Sh.int IntKind.i64),Sh.bool] [.pb 0 0 0 0,.dg 9 U] [.var [.int .i64 J,.int .i64 O,.bool I]] N Q:=
  zJu pG h
theorem s8 (N:Nat) (U:D) (I J:Int) (O:Bool) (Q:QT [(Sh.ag 9),(Sh.int IntKind.i64),(Sh.int IntKind.i64),Sh.bool]) (h:∀ E:Env,
Bel N U->zZ E Q N I J O U 0 b0 b0 0 0 none [] 0 0 none [] 0 none [] 0 N):BCalls prog 50 [(Sh.ag 9),(Sh.int IntKind.i64),(Sh.int IntKind.i64),Sh.bool] [.pb 0 0 0 0,.dg 9 U] [.var [.int .i64 I,.int .i64 J,.bool O]] N Q:=
 zJu wL h
theorem vv (Q:QT [.ag 9,.bool]) (N0:Nat) (n1:Int) (aw:Option Addr) (J:List D) (ax:Nat) (au I:Int) (y0:D) (O:Int) (U Y:ByteArray) (aa ab:Int) (ac:Option Addr) (ae:List D) (ah:Nat) (ai:Int) (aj:Option Addr) (ak:List D) (al:Nat) (am:Option Addr) (ao:List D) (aq:Nat) (N:Nat) (h :
Br (decide (I<au)) ((0<=I/\I<(J.length:Int))/\kI 100 [.dg 9 y0,.j n1] N (λn a=>kAB 9 124 [.dg 9 (List.getD J I.toNat default),
 .j n] a (λx b a=>Br b (uP a (Q x true)) (zk Q N0 n1 aw J ax au (IntKind.i64.wrap (I+1)) y0 O U Y aa ab ac ae
 ah ai aj ak al am ao aq a)))) ((1=1/\1=1)/\∀ a b,N<=b->Fresh N0 b a [D.ag [D.ag [D.j 0,D.t b0,D.t b0,D.j 0,D.j 0,D.sl none 2
 [] 0,D.j 0,D.sl none 2 [] 0,D.sl none 9 [] 0]]]->kA 9 150 [.j 11,.sv a 9 [D.ag [D.j 0,D.t b0,D.t b0,D.j 0,D.j 0,D.sl none 2 [] 0,D.j 0,D.sl none 2
 [] 0,D.sl none 9 [] 0]] 1] b (λa b=>uP b (Q a false)))):zk Q N0 n1 aw J ax au I y0 O U Y aa ab ac ae ah ai aj ak al am ao aq N:=
  zMo tH h
theorem tZ (N:Nat) (U:D) (Y J O:Int) (I:Bool) (Q:QT [(Sh.ag 9),(Sh.int IntKind.i64),(Sh.int IntKind.i64),Sh.bool]) (h:∀ E:Env,
Bel N U->Br I (zO E [.var [.j 0,.j 0,.bool false]]/\uP N (Q U J O I)) (∃ n:Int,(U.cell 0)=D.j n/\Br (n==11) (Br
 (Y==1) (∃ a d,∃ c:Nat,(U.cell 8)=D.sl a 9 d c/\((0:Int)<=(0:Int)/\0<(d.length:Int))/\∀ a,N<=a->BCalls prog 51 [.ag 9,.i,.i,
 .bool] [.pb 0 0 0 0,.dg 9 (List.getD d 0 default)] [Bx.var [.j J,.j O,.bool I]] a (λx b c d e=>a<=e->Bel e x->Br d (zO E
 [.var [.j 0,.j 0,.bool false]]/\uP e (Q U b c true)) (∃ a:Int,(x.cell 0)=D.j a/\Br (bne a 10) (zO E [.var [.j 0,.j 0,.bool false]]/\uP
 e (Q U b c true)) (∃ a f,∃ g:Nat,(x.cell 8)=D.sl a 9 f g/\((0:Int)<=(0:Int)/\0<(f.length:Int))/\∀ a,e<=a->BCalls
 prog 126 [.ag 9,.i,.i,.bool] [.pb 0 0 0 0,.dg 9 (List.getD f 0 default)] [Bx.var [.j b,.j c,.bool d]] a (λb c d e f=>a<=f->Bel
 f b->zO E [.var [.j 0,.j 0,.bool false]]/\uP f (Q b c d e)))))) (∀ a,N<=a->ACalls prog 40 [.pk,.i,.str,.str,.i,.dc,.dc,.dc,.dc,
 .row 29 9] [.dg 9 U] a (λb s c d e f g h i j k=>a<=k->Bel k (D.ag i)->zu E Q N Y 0 J O I U 0
 b0 b0 0 0 none [] 0 0 none [] 0 none [] 0 b s c d e f g h i.length j i j k))) (∀ a,N<=a->ACalls prog 40 [.pk,.i,.str,.str,
 .i,.dc,.dc,.dc,.dc,.row 29 9] [.dg 9 U] a (λb c d e f g h i j k l=>a<=l->Bel l (D.ag j)->zu E Q N
 Y 0 J O I U 0 b0 b0 0 0 none [] 0 0 none [] 0 none [] 0 b c d e f g h i j.length k j k l)))):BCalls prog 88 [(Sh.ag 9),(Sh.int IntKind.i64),(Sh.int IntKind.i64),Sh.bool] [.pb 0 0 0 0,.dg 9 U,.int .i64 Y] [.var [.int .i64 J,.int .i64 O,.bool I]] N Q:=
  zJu pI h
theorem xj (E:Env) (Q:QT [(Sh.ag 9),(Sh.int IntKind.i64),(Sh.int IntKind.i64),Sh.bool]) (N0:Nat) (n7 n8 O U:Int) (I:Bool) (y1:D) (al:Int) (am ao:ByteArray) (aq au:Int) (aw:Option Addr) (ax:List D) (ay:Nat) (az:Int) (a1:Option Addr) (a6:List D) (a7:Nat) (a8:Option Addr) (ba:List D) (bb:Nat) (Y:Int) (aa ab:ByteArray) (ac:Int) (ae ah ai aj:D) (J ak:Nat) (r4:List D) (q4:Nat) (N:Nat) (h :
Br (decide (n8<n7)) (∃ a d,∃ c:Nat,(y1.cell 8)=D.sl a 9 d c/\Br (decide (n8<(d.length:Int))) (Br (!I) (∃ a c,∃ d:Nat,(y1.cell
 8)=D.sl a 9 c d/\(0<=n8/\n8<(c.length:Int))/\∀ a,N<=a->BCalls prog 51 [.ag 9,.i,.i,.bool] [.pb 0 0 0 0,.dg 9 (List.getD c
 n8.toNat default)] [Bx.var [.j O,.j U,.bool I]] a (λx n b c d=>a<=d->Bel d x->(0<=n8/\n8<(J:Int)/\(0+n8.toNat:Nat) <
 r4.length)/\(0+n8.toNat:Nat)<r4.length/\zw E Q N0 n7 (IntKind.i64.wrap (n8+1)) n b c y1 al am ao aq au aw ax ay az
 a1 a6 a7 a8 ba bb Y aa ab ac ae ah ai aj J ak (List.set r4 (0+n8.toNat:Nat) x) q4 d)) (w2 (J=r4.length/\ak=q4)
 (∀ a b,N<=b->Fresh N0 b a [D.ag r4]->∀ c,b<=c->BCalls prog 89 [.ag 9,.i,.i,.bool] [.pb 0 0 0 0,.dg 9 (D.ag [D.j Y,D.t aa,D.t ab,
 D.j ac,ae,ah,ai,aj,D.sl a 9 r4 q4])] [Bx.var [.j O,.j U,.bool I]] c (λa b d e f=>c<=f->Bel f a->zO E [.var
 [.j 0,.j 0,.bool false]]/\uP f (Q a b d e))))) (w2 (J=r4.length/\ak=q4) (∀ a b,N<=b->Fresh N0 b a [D.ag r4]->∀ c,b<=c ->
 BCalls prog 89 [.ag 9,.i,.i,.bool] [.pb 0 0 0 0,.dg 9 (D.ag [D.j Y,D.t aa,D.t ab,D.j ac,ae,ah,ai,aj,D.sl a 9 r4 q4])] [Bx.var [.j
 O,.j U,.bool I]] c (λa b d e f=>c<=f->Bel f a->zO E [.var [.j 0,.j 0,.bool false]]/\uP f (Q a b d e))))) (w2
 (J=r4.length/\ak=q4) (∀ a b,N<=b->Fresh N0 b a [D.ag r4]->∀ c,b<=c->BCalls prog 89 [.ag 9,.i,.i,.bool] [.pb 0 0 0 0,.dg 9
 (D.ag [D.j Y,D.t aa,D.t ab,D.j ac,ae,ah,ai,aj,D.sl a 9 r4 q4])] [Bx.var [.j O,.j U,.bool I]] c (λa b d e f
 => c<=f->Bel f a->zO E [.var [.j 0,.j 0,.bool false]]/\uP f (Q a b d e))))):zw E Q N0 n7 n8 O U I y1 al am ao aq au aw ax ay az a1 a6 a7 a8 ba bb Y aa ab ac ae ah ai aj J ak r4 q4 N:=
  zMo pG h
theorem vk (E:Env) (Q:QT [(Sh.ag 9),(Sh.int IntKind.i64),(Sh.int IntKind.i64),Sh.bool]) (N0:Nat) (J O:Int) (I:Bool) (y1:D) (U:Int) (Y aa:ByteArray) (ab ac:Int) (ae:Option Addr) (ah:List D) (ai:Nat) (aj:Int) (ak:Option Addr) (al:List D) (am:Nat) (ao:Option Addr) (aq:List D) (au:Nat) (N:Nat) (h :
Br (!I) (kB 62 [.dg 9 y1] N (λb a=>Br (!b) (∃ n:Int,(y1.cell 0)=D.j n/\Br (n==10) (∀ b,a<=b->BCalls prog 85 [.ag 9,.i,.i,.bool]
 [.pb 0 0 0 0,.dg 9 y1] [Bx.var [.j J,.j O,.bool I]] b (λx a c d e=>b<=e->Bel e x->zZ E Q N0 a c d x U
 Y aa ab ac ae ah ai aj ak al am ao aq au e)) (∀ b,a<=b->ACalls prog 33 [.pk,.i,.str,.str,.i,.dc,.dc,.dc,.dc,.row 29
 9] [.dg 9 y1] b (λa s c d e f g h i j k=>b<=k->Bel k (D.ag i)->kI 65 [.dg 9 y1] k (λb k=>yf E Q N0 b
 0 J O I y1 U Y aa ab ac ae ah ai aj ak al am ao aq au a s c d e f g h i.length j i j k)))) (zO E
 [.var [.j 0,.j 0,.bool false]]/\uP a (Q y1 J O I)))) (zO E [.var [.j 0,.j 0,.bool false]]/\uP N (Q y1 J O I))):zZ E Q N0 J O I y1 U Y aa ab ac ae ah ai aj ak al am ao aq au N:=
  zMo wL h
theorem zBo (N:Nat) (U:D) (I J:Int) (O:Bool) (Q:QT [(Sh.ag 9),(Sh.int IntKind.i64),(Sh.int IntKind.i64),Sh.bool]) (h:∀ E:Env,
Bel N U->Br O (zO E [.var [.j 0,.j 0,.bool false]]/\uP N (Q U I (IntKind.i64.wrap (J+1)) true)) (Br (decide
 (IntKind.i64.wrap (J+1)>I)) (zO E [.var [.j 0,.j 0,.bool false]]/\uP N (Q U I (IntKind.i64.wrap (J+1)) true)) (∀ a,N<=a->ACalls
 prog 48 [.i] [.dg 9 U] a (λn b=>a<=b->zO E [.var [.j 0,.j 0,.bool false]]/\uP b (Q U I (IntKind.i64.wrap (J+1)) (decide (n >
 400))))))):BCalls prog 126 [(Sh.ag 9),(Sh.int IntKind.i64),(Sh.int IntKind.i64),Sh.bool] [.pb 0 0 0 0,.dg 9 U] [.var [.int .i64 I,.int .i64 J,.bool O]] N Q:=
  zJu zFy h
theorem xo (E:Env) (Q:QT [(Sh.ag 9),(Sh.int IntKind.i64),(Sh.int IntKind.i64),Sh.bool]) (N0:Nat) (n2 n9 aa ab:Int) (ac:Bool) (y1:D) (al:Int) (am ao:ByteArray) (aq au:Int) (aw:Option Addr) (ax:List D) (ay:Nat) (az:Int) (a1:Option Addr) (a6:List D) (a7:Nat) (a8:Option Addr) (ba:List D) (bb:Nat) (ae:Int) (ah ai:ByteArray) (aj:Int) (I J O U:D) (Y ak:Nat) (r4:List D) (q4:Nat) (N:Nat) (h :
∃ a d,∃ c:Nat,(y1.cell 8)=D.sl a 9 d c/\Br (decide (n9<(d.length:Int))) (∃ a c,∃ d:Nat,(y1.cell 8)=D.sl a 9 c d/\(0<=n9
 /\ n9<(c.length:Int))/\kI 110 [.dg 9 y1,.j n2] N (λn a=>∀ d,a<=d->BCalls prog 88 [.ag 9,.i,.i,.bool] [.pb 0 0 0 0,.dg 9 (List.getD c
 n9.toNat default),.j n] [Bx.var [.j aa,.j ab,.bool ac]] d (λx a b c e=>d<=e->Bel e x->(0<=n9/\n9<(Y:Int)/\(0+n9.toNat :
 Nat)<r4.length)/\(0+n9.toNat:Nat)<r4.length/\zu E Q N0 n2 (IntKind.i64.wrap (n9+1)) a b c y1 al am ao aq au aw ax
 ay az a1 a6 a7 a8 ba bb ae ah ai aj I J O U Y ak (List.set r4 (0+n9.toNat:Nat) x) q4 e))) (w3 (Y=r4.length /\
 ak=q4) (∀ a b,N<=b->Fresh N0 b a [D.ag r4,I,J,O,U]->zO E [.var [.j 0,.j 0,.bool false]]/\uP b (Q (D.ag [D.j ae,D.t ah,
 D.t ai,D.j aj,I,J,O,U,D.sl a 9 r4 q4]) aa ab ac)))):zu E Q N0 n2 n9 aa ab ac y1 al am ao aq au aw ax ay az a1 a6 a7 a8 ba bb ae ah ai aj I J O U Y ak r4 q4 N:=
  zMo pI h
theorem uy (N:Nat) (U:D) (I J:Int) (O:Bool) (Q:QT [(Sh.ag 9),(Sh.int IntKind.i64),(Sh.int IntKind.i64),Sh.bool]) (h:∀ E:Env,
Bel N U->Br O (zO E [.var [.j 0,.j 0,.bool false]]/\uP N (Q U I J O)) (∀ a,N<=a->ACalls prog 41 [.ag 9,.i] [.dg 9
 U] a (λx n c=>a<=c->Bel c x->Br (n==0) (zO E [.var [.j 0,.j 0,.bool false]]/\uP c (Q U I J true)) (∀ a,c<=a->BCalls prog
 126 [.ag 9,.i,.i,.bool] [.pb 0 0 0 0,.dg 9 x] [Bx.var [.j I,.j J,.bool O]] a (λb c d e f=>a<=f->Bel f b->Br e (zO E
 [.var [.j 0,.j 0,.bool false]]/\uP f (Q U c d e)) (∀ a,f<=a->BCalls prog 51 [.ag 9,.i,.i,.bool] [.pb 0 0 0 0,.dg 9 b] [Bx.var [.j c,.j
 d,.bool e]] a (λb c d e f=>a<=f->Bel f b->zO E [.var [.j 0,.j 0,.bool false]]/\uP f (Q b c d e)))))))):BCalls prog 89 [(Sh.ag 9),(Sh.int IntKind.i64),(Sh.int IntKind.i64),Sh.bool] [.pb 0 0 0 0,.dg 9 U] [.var [.int .i64 I,.int .i64 J,.bool O]] N Q:=
  zJu zD5 h
theorem ur (N:Nat) (I:D) (J O:Int) (U:Bool) (Q:QT [(Sh.ag 9),(Sh.int IntKind.i64),(Sh.int IntKind.i64),Sh.bool]) (h:∀ E:Env,
Bel N I->∃ a d,∃ c:Nat,(I.cell 8)=D.sl a 9 d c/\((0:Int)<=(0:Int)/\0<(d.length:Int))/\kAB 9 124 [.dg 9 (List.getD d 0
 default),.j 1] N (λx b a=>Br (!b) (zO E [.var [.j 0,.j 0,.bool false]]/\uP a (Q I J O true)) (∃ b c,∃ d:Nat,(x.cell 8)=D.sl
 b 9 c d/\((0:Int)<=(0:Int)/\0<(c.length:Int))/\∀ b,a<=b->BCalls prog 50 [.ag 9,.i,.i,.bool] [.pb 0 0 0 0,.dg 9 (List.getD c 0
 default)] [Bx.var [.j J,.j O,.bool U]] b (λa n c d e=>b<=e->Bel e a->kAB 9 102 [.dg 9 a] e (λb e f=>Br e (Br
 (!d) (∀ e,f<=e->BCalls prog 86 [.bool,.i,.i,.bool] [.pb 0 0 0 0,.dg 9 b,.j 6] [Bx.var [.j n,.j c,.bool d]] e (λb c d f g=>e
 <= g->Br (!b) (zO E [.var [.j 0,.j 0,.bool false]]/\uP g (Q I c d f)) (∃ b e,∃ h:Nat,(I.cell 8)=D.sl b 9 e h/\((0:Int) <=
 (0:Int)/\0<(e.length:Int))/\∃ b h,∃ i:Nat,(x.cell 8)=D.sl b 9 h i/\((0:Int)<=(0:Int)/\0<(h.length:Int))/\kB 62
 [.dg 9 (List.getD h 0 default)] g (λb g=>Br (!b) (∀ b,ApA (Option.some b) [a]->Off [Option.some b] (List.getD e 0 default)->∀ h,g
 <= h->xX h [Option.some b]->ACalls prog 63 [.ag 9,.i,.bool] [.dg 9 (List.getD e 0 default),.j 1,.fn 125 [.pd b 9 a]] h (λa _ _ e
 => h<=e->Off [Option.some b] a/\(Bel e a->∀ b,e<=b->ACalls prog 63 [.ag 9,.i,.bool] [.dg 9 a,.j 1,.fn 34 []] b (λa _ _
 e=>b<=e->Bel e a->(1=([a]).length/\1=1)/\∀ b,ApA b [a]->Off [b] I->∀ g,e<=g->xX g [b]->ACalls prog 64 [.pk,
 .i,.str,.str,.i,.dc,.dc,.dc,.dc,Sh.bk 1] [.dg 9 I,.sv b 9 [a] 1] g (λe s h i j k l m n o=>g<=o->n=D.sl b 9
 [a] 1/\Off [b] j/\Off [b] k/\Off [b] l/\Off [b] m/\w3 (1=([a]).length/\1=1) (∀ b g,o<=g->Fresh N g b [D.ag [a],
 j,k,l,m]->zO E [.var [.j 0,.j 0,.bool false]]/\uP g (Q (D.ag [D.j e,D.t s,D.t h,D.j i,j,k,l,m,D.sl b 9 [a] 1]) c
 d f))))))) (∀ a,g<=a->ACalls prog 63 [.ag 9,.i,.bool] [.dg 9 (List.getD e 0 default),.j 1,.fn 34 []] a (λb _ _ e=>a<=e
 -> Bel e b->(1=([b]).length/\1=1)/\∀ a,ApA a [b]->Off [a] I->∀ g,e<=g->xX g [a]->ACalls prog 64 [.pk,.i,.str,.str,
 .i,.dc,.dc,.dc,.dc,Sh.bk 1] [.dg 9 I,.sv a 9 [b] 1] g (λe h i j k l m n o p=>g<=p->o=D.sl a 9 [b] 1
 /\ Off [a] k/\Off [a] l/\Off [a] m/\Off [a] n/\w3 (1=([b]).length/\1=1) (∀ a g,p<=g->Fresh N g a [D.ag [b],
 k,l,m,n]->zO E [.var [.j 0,.j 0,.bool false]]/\uP g (Q (D.ag [D.j e,D.t h,D.t i,D.j j,k,l,m,n,D.sl a 9
 [b] 1]) c d f))))))))) (∀ e,f<=e->BCalls prog 86 [.bool,.i,.i,.bool] [.pb 0 0 0 0,.dg 9 b,.j 0] [Bx.var [.j n,.j c,.bool d]] e
 (λb c d f g=>e<=g->Br (!b) (zO E [.var [.j 0,.j 0,.bool false]]/\uP g (Q I c d f)) (∃ b e,∃ h:Nat,(I.cell
 8)=D.sl b 9 e h/\((0:Int)<=(0:Int)/\0<(e.length:Int))/\∃ b h,∃ i:Nat,(x.cell 8)=D.sl b 9 h i/\((0:Int)<=(0 :
 Int)/\0<(h.length:Int))/\kB 62 [.dg 9 (List.getD h 0 default)] g (λb g=>Br (!b) (∀ b,ApA (Option.some b) [a]->Off
 [Option.some b] (List.getD e 0 default)->∀ h,g<=h->xX h [Option.some b]->ACalls prog 63 [.ag 9,.i,.bool] [.dg 9 (List.getD e 0
 default),.j 1,.fn 125 [.pd b 9 a]] h (λa _ _ e=>h<=e->Off [Option.some b] a/\(Bel e a->∀ b,e<=b->ACalls
 prog 63 [.ag 9,.i,.bool] [.dg 9 a,.j 1,.fn 34 []] b (λa _ _ e=>b<=e->Bel e a->(1=([a]).length/\1=1)/\∀ b,ApA
 b [a]->Off [b] I->∀ g,e<=g->xX g [b]->ACalls prog 64 [.pk,.i,.str,.str,.i,.dc,.dc,.dc,.dc,Sh.bk 1] [.dg 9 I,.sv b 9
 [a] 1] g (λe h i j k l m n o p=>g<=p->o=D.sl b 9 [a] 1/\Off [b] k/\Off [b] l/\Off [b]
 m/\Off [b] n/\w3 (1=([a]).length/\1=1) (∀ b g,p<=g->Fresh N g b [D.ag [a],k,l,m,n]->zO E [.var [.j 0,
 .j 0,.bool false]]/\uP g (Q (D.ag [D.j e,D.t h,D.t i,D.j j,k,l,m,n,D.sl b 9 [a] 1]) c d f))))))) (∀ a,g <=
 a->ACalls prog 63 [.ag 9,.i,.bool] [.dg 9 (List.getD e 0 default),.j 1,.fn 34 []] a (λb _ _ e=>a<=e->Bel e b->(1 =
 ([b]).length/\1=1)/\∀ a,ApA a [b]->Off [a] I->∀ g,e<=g->xX g [a]->ACalls prog 64 [.pk,.i,.str,.str,.i,.dc,.dc,
 .dc,.dc,Sh.bk 1] [.dg 9 I,.sv a 9 [b] 1] g (λe h i j k l m n o p=>g<=p->o=D.sl a 9 [b] 1/\Off
 [a] k/\Off [a] l/\Off [a] m/\Off [a] n/\w3 (1=([b]).length/\1=1) (∀ a g,p<=g->Fresh N g a [D.ag [b],
 k,l,m,n]->zO E [.var [.j 0,.j 0,.bool false]]/\uP g (Q (D.ag [D.j e,D.t h,D.t i,D.j j,k,l,m,n,D.sl a 9
 [b] 1]) c d f)))))))))) (∀ e,f<=e->BCalls prog 86 [.bool,.i,.i,.bool] [.pb 0 0 0 0,.dg 9 b,.j 0] [Bx.var [.j n,.j c,.bool d]]
 e (λb c d f g=>e<=g->Br (!b) (zO E [.var [.j 0,.j 0,.bool false]]/\uP g (Q I c d f)) (∃ b e,∃ h:Nat,
 (I.cell 8)=D.sl b 9 e h/\((0:Int)<=(0:Int)/\0<(e.length:Int))/\∃ b h,∃ i:Nat,(x.cell 8)=D.sl b 9 h i/\((0 :
 Int)<=(0:Int)/\0<(h.length:Int))/\kB 62 [.dg 9 (List.getD h 0 default)] g (λb g=>Br (!b) (∀ b,ApA (Option.some b) [a] ->
 Off [Option.some b] (List.getD e 0 default)->∀ h,g<=h->xX h [Option.some b]->ACalls prog 63 [.ag 9,.i,.bool] [.dg 9 (List.getD e 0
 default),.j 1,.fn 125 [.pd b 9 a]] h (λa _ _ e=>h<=e->Off [Option.some b] a/\(Bel e a->∀ b,e<=b->ACalls
 prog 63 [.ag 9,.i,.bool] [.dg 9 a,.j 1,.fn 34 []] b (λa _ _ e=>b<=e->Bel e a->(1=([a]).length/\1=1)/\∀ b,ApA
 b [a]->Off [b] I->∀ g,e<=g->xX g [b]->ACalls prog 64 [.pk,.i,.str,.str,.i,.dc,.dc,.dc,.dc,Sh.bk 1] [.dg 9 I,.sv b 9
 [a] 1] g (λe h i j k l m n o p=>g<=p->o=D.sl b 9 [a] 1/\Off [b] k/\Off [b] l/\Off [b]
 m/\Off [b] n/\w3 (1=([a]).length/\1=1) (∀ b g,p<=g->Fresh N g b [D.ag [a],k,l,m,n]->zO E [.var [.j 0,
 .j 0,.bool false]]/\uP g (Q (D.ag [D.j e,D.t h,D.t i,D.j j,k,l,m,n,D.sl b 9 [a] 1]) c d f))))))) (∀ a,g <=
 a->ACalls prog 63 [.ag 9,.i,.bool] [.dg 9 (List.getD e 0 default),.j 1,.fn 34 []] a (λb _ _ e=>a<=e->Bel e b->(1 =
 ([b]).length/\1=1)/\∀ a,ApA a [b]->Off [a] I->∀ g,e<=g->xX g [a]->ACalls prog 64 [.pk,.i,.str,.str,.i,.dc,.dc,
 .dc,.dc,Sh.bk 1] [.dg 9 I,.sv a 9 [b] 1] g (λe h i j k l m n o p=>g<=p->o=D.sl a 9 [b] 1/\Off
 [a] k/\Off [a] l/\Off [a] m/\Off [a] n/\w3 (1=([b]).length/\1=1) (∀ a g,p<=g->Fresh N g a [D.ag [b],
 k,l,m,n]->zO E [.var [.j 0,.j 0,.bool false]]/\uP g (Q (D.ag [D.j e,D.t h,D.t i,D.j j,k,l,m,n,D.sl a 9
 [b] 1]) c d f)))))))))))))):BCalls prog 85 [(Sh.ag 9),(Sh.int IntKind.i64),(Sh.int IntKind.i64),Sh.bool] [.pb 0 0 0 0,.dg 9 I] [.var [.int .i64 J,.int .i64 O,.bool U]] N Q:=
  zJu sM h
theorem vl (E:Env) (Q:QT [(Sh.ag 9),(Sh.int IntKind.i64),(Sh.int IntKind.i64),Sh.bool]) (N0:Nat) (bd I O U:Int) (Y:Bool) (y1:D) (aa:Int) (ab ac:ByteArray) (ae ah:Int) (ai:Option Addr) (aj:List D) (ak:Nat) (al:Int) (am:Option Addr) (ao:List D) (aq:Nat) (au:Option Addr) (aw:List D) (ax:Nat) (ay:Int) (az a1:ByteArray) (a6:Int) (a7 a8 ba bb:D) (J bc:Nat) (r4:List D) (q4:Nat) (N:Nat) (h :
Br (decide (I<bd)) ((0<=I/\I<(J:Int)/\(0+I.toNat:Nat)<r4.length)/\(0+I.toNat:Nat)<r4.length/\∀ a,N<=a->BCalls
 prog 50 [.ag 9,.i,.i,.bool] [.pb 0 0 0 0,.dg 9 (List.getD r4 (0+I.toNat:Nat) default)] [Bx.var [.j O,.j U,.bool Y]] a (λx n b c d=>
 a<=d->Bel d x->(0<=I/\I<(J:Int)/\(0+I.toNat:Nat)<r4.length)/\(0+I.toNat:Nat)<r4.length/\Br c (zO E [.var [.j 0,.j 0,
 .bool false]]/\uP d (Q y1 n b c)) (yf E Q N0 bd (IntKind.i64.wrap (I+1)) n b c y1 aa ab ac ae ah ai aj ak al
 am ao aq au aw ax ay az a1 a6 a7 a8 ba bb J bc (List.set r4 (0+I.toNat:Nat) x) q4 d))) (w2 (J=r4.length/\bc =
 q4) (∀ a b,N<=b->Fresh N0 b a [D.ag r4]->∀ c,b<=c->ACalls prog 66 [.ag 9,.i] [.dg 9 (D.ag [D.j ay,D.t az,D.t a1,D.j a6,a7,a8,
 ba,bb,D.sl a 9 r4 q4])] c (λa b d=>c<=d->Bel d a->∀ c,d<=c->BCalls prog 86 [.bool,.i,.i,.bool] [.pb 0 0 0 0,.dg 9 a,.j
 b] [Bx.var [.j O,.j U,.bool Y]] c (λb d e f g=>c<=g->Br (!b) (zO E [.var [.j 0,.j 0,.bool false]]/\uP g (Q y1 d e
 f)) (zZ E Q N0 d e f a aa ab ac ae ah ai aj ak al am ao aq au aw ax g)))))):yf E Q N0 bd I O U Y y1 aa ab ac ae ah ai aj ak al am ao aq au aw ax ay az a1 a6 a7 a8 ba bb J bc r4 q4 N:=
  zMo wL h
theorem wc (N:Nat) (x1:D) (n2 nB0_0 nB0_1:Int) (bB0_2:Bool) (Q:QT [Sh.bool,(Sh.int IntKind.i64),(Sh.int IntKind.i64),Sh.bool]) (h:∀ E:Env,
Bel N x1->Br (n2==0) (zO E [.var [.j 0,.j 0,.bool false]]/\uP N (Q false nB0_0 nB0_1 true)) (Br (nB0_0==0) (zO E [.var [.j 0,.j 0,
 .bool false]]/\uP N (Q false nB0_0 nB0_1 true)) (∀ a,N<=a->ACalls prog 81 [.i] [.dg 9 x1] a (fun n b=>a<=b->Br (decide (n>400)) (zO E [.var
 [.j 0,.j 0,.bool false]]/\uP b (Q false nB0_0 nB0_1 true)) (zO E [.var [.j 0,.j 0,.bool false]]/\uP b (Q true (IntKind.i64.wrap (nB0_0 - 1))
 (IntKind.i64.wrap (nB0_1+1)) bB0_2)))))):BCalls prog 86 [Sh.bool,(Sh.int IntKind.i64),(Sh.int IntKind.i64),Sh.bool] [.pb 0 0 0 0,.dg 9 x1,.int .i64 n2] [.var [.int .i64 nB0_0,.int .i64 nB0_1,.bool bB0_2]] N Q:=
  zJu qh h
theorem zBv (N:Nat) (O:D) (n1:Int) (J:Addr) (I:D) (Q:QT [.ag 9,.int .i64,.bool]) (h :
Bel N O->∃ n:Int,(O.cell 0)=D.j n/\Br (n==11) (Br (n1==1) (∃ a d,∃ c:Nat,(O.cell 8)=D.sl a 9 d c/\((0:Int)<=(0:Int)/\0 <
 (d.length:Int))/\kB 62 [.dg 9 (List.getD d 0 default)] N (λb a=>Br (!b) (∀ b,a<=b->ACalls prog 125 [.ag 9,.i] [.dg 9 (List.getD d 0 default),
 .pd J 9 I] b (λx a c=>b<=c->Bel c x->(1=([x]).length/\1=1)/\∀ b,ApA b [x]->Off [b] O->∀ d,c<=d->xX d [b] ->
 ACalls prog 64 [.pk,.i,.str,.str,.i,.dc,.dc,.dc,.dc,Sh.bk 1] [.dg 9 O,.sv b 9 [x] 1] d (λc s e f g h i j k l=>d<=l->k
 = D.sl b 9 [x] 1/\Off [b] g/\Off [b] h/\Off [b] i/\Off [b] j/\w3 (1=([x]).length/\1=1) (∀ b d,l<=d->Fresh N d b [D.ag
 [x],g,h,i,j]->uP d (Q (D.ag [D.j c,D.t s,D.t e,D.j f,g,h,i,j,D.sl b 9 [x] 1]) a true))))) (kAB 9 102 [.dg 9 (List.getD
 d 0 default)] a (λa b c=>Br b (uP c (Q a 6 true)) (uP c (Q O 0 true)))))) (∃ a b,∃ c:Nat,(O.cell 8)=D.sl a 9 b c /\
 yN Q N n1 J I a b c (b.length:Int) 0 O 0 b0 b0 0 0 none [] 0 0 none [] 0 none [] 0 N)) (∃ a b,∃ c:Nat,(O.cell 8)
 = D.sl a 9 b c/\yN Q N n1 J I a b c (b.length:Int) 0 O 0 b0 b0 0 0 none [] 0 0 none [] 0 none [] 0 N)):ACalls prog 63 [.ag 9,.int .i64,.bool] [.dg 9 O,.int .i64 n1,.fn 125 [.pd J 9 I]] N Q:=
  zOU sV h
theorem uA (N:Nat) (J:D) (O:Addr) (I:D) (Q:QT [.ag 9,.int .i64]) (h :
Bel N J->uP N (Q I 0)):ACalls prog 125 [.ag 9,.int .i64] [.dg 9 J,.pd O 9 I] N Q:=
 zOU H0 h
theorem tX (Q:QT [.ag 9,.int .i64,.bool]) (N0:Nat) (n1:Int) (a2_0:Addr) (x2_0_:D) (a54:Option Addr) (e54:List D) (c54:Nat) (n55 n56:Int) (y0:D) (n1_0:Int) (s1_1 s1_2:ByteArray) (n1_3 n1_4:Int) (a1_5:Option Addr) (e1_5:List D) (c1_5:Nat) (n1_6:Int) (a1_7:Option Addr) (e1_7:List D) (c1_7:Nat) (a1_8:Option Addr) (e1_8:List D) (c1_8:Nat) (N:Nat) (h :
Br (decide (n56<n55)) ((0<=n56/\n56<(e54.length:Int))/\kI 100 [.dg 9 y0,.j n1] N (fun n d=>∀ e,d<=e->ACalls prog 63 [.ag 9,.i,.bool]
 [.dg 9 (List.getD e54 n56.toNat default),.j n,.fn 125 [.pd a2_0 9 x2_0_]] e (fun x b d f=>e<=f->Bel f x->Br d (∀ d,f<=d->ACalls prog 33
 [.pk,.i,.str,.str,.i,.dc,.dc,.dc,.dc,.row 29 9] [.dg 9 y0] d (fun c s e f g h i j k l m=>d<=m->Bel m (D.ag k)->(0<=n56/\n56
 < (k.length:Int)/\(0+n56.toNat:Nat)<k.length)/\(0+n56.toNat:Nat)<k.length/\w5 (k.length=(List.set k (0+n56.toNat:Nat) x).length/\l
 = l) (∀ a d,m<=d->Fresh N0 d a [D.ag (List.set k (0+n56.toNat:Nat) x),g,h,i,j]->∀ m,d<=m->Q (D.ag [D.j c,D.t s,D.t e,D.j
 f,g,h,i,j,D.sl a 9 (List.set k (0+n56.toNat:Nat) x) l]) b true m))) (yN Q N0 n1 a2_0 x2_0_ a54 e54 c54 n55
 (IntKind.i64.wrap (n56+1)) y0 n1_0 s1_1 s1_2 n1_3 n1_4 a1_5 e1_5 c1_5 n1_6 a1_7 e1_7 c1_7 a1_8 e1_8 c1_8 f)))) (uP N (Q y0 0 false))):yN Q N0 n1 a2_0 x2_0_ a54 e54 c54 n55 n56 y0 n1_0 s1_1 s1_2 n1_3 n1_4 a1_5 e1_5 c1_5 n1_6 a1_7 e1_7 c1_7 a1_8 e1_8 c1_8 N:=
  zMo sV h
end Go.Proofs.YtfajiphkncipoaaGreatDoor
