/- Printed by gen.py: what the functions come to. -/
import Derived.Test.YtnmnahkkcfghjaaGreatJh
set_option linter.unusedVariables false
set_option maxRecDepth 100000
namespace Go.Proofs.YtnmnahkkcfghjaaGreat
open Go Go.Proofs Go.Proofs.Tryz
def zBB:Hint:=⟨[hc 3 [0,3,4]],[],[]⟩
def zEr:Hint:=⟨[],[],[(2,[en 0,en 1,en 2,en 3,en 4,en 5,en 6,en 7,en 8,en 9,en 10,en 11,en 12]),(3,[en 0,en 1,en 2,en 3,en 4,en 5,en 6,en 7,en 8,en 9]),(4,[en 0,en 1,en 2,en 3,en 4,en 5,en 6,en 7,en 8,en 9,en 10,en 11,en 12,en 13,eh 14])]⟩
def qJ:Hint:=⟨[hc 3 [0,1,3,6,8,10,11] [(10,29,9)]],[],[(5,[en 0,en 1,en 2,en 3,en 4,en 5,en 6,en 7,en 8,en 9,en 10,en 11,en 12,en 13,ec 14 [31,32],en 15,en 16,en 17,en 18,en 19,en 20,en 21,en 22,en 24,eh 23,en 25,en 26])]⟩
def zDz:Hint:=⟨[],[],[(7,[en 0,en 1,en 2,en 3,en 4,en 5,en 6,en 7,en 8,en 9,eh 10,ec 11 [24,31],eh 12])]⟩
def zGR:Hint:=⟨[],[],[(3,hs 3 [ec 1 [13]]),(5,hs 4 [ec 2 [17,18]])]⟩
def zFe:Hint:=⟨[],[],[(2,hs 7 [ec 4 [9]])]⟩
def zHM:Hint:=⟨[],[],[(4,[en 0,en 1,en 3,en 4,en 5,en 7,en 8,en 9,en 10,en 11,en 12,en 14,en 15,en 16,en 17,en 18,en 19,eh 2,eh 6,eh 13,eh 20,en 21,eh 22,eh 23]),(7,[en 0,en 1,en 2,en 3,en 4,en 5,en 6,en 8,en 9,en 10,en 11,en 12,en 14,en 15,en 16,en 17,eh 7,ec 13 [60],eh 18,ec 19 [56,67],eh 20]),(10,[en 0,en 1,en 2,en 3,en 4,en 5,en 6,en 8,en 9,en 10,en 11,en 14,en 15,en 16,en 17,en 18,en 19,ec 7 [79],eh 12,ec 13 [75,86],eh 20,en 21,eh 22,eh 23]),(12,hs 5 [ec 2 [100]]),(13,[en 0,en 1,en 2,en 4,en 6,en 7,en 8,eh 3,ec 5 [108],eh 9,en 10,eh 11,eh 12]),(15,hs 12 [ec 3 [120]])]⟩
def zE3:Hint:=⟨[],[],[(4,[en 0,en 1,en 3,en 4,en 5,en 6,en 7,en 8,en 10,en 11,en 12,en 13,en 14,en 15,eh 2,eh 9,eh 16,en 17,eh 18,eh 19]),(9,[en 0,en 1,en 3,en 4,en 5,en 6,en 7,en 8,en 10,en 11,en 12,en 13,en 14,en 15,eh 2,eh 9,eh 16,en 17,eh 18,eh 19]),(10,[en 0,en 1,en 3,en 4,en 5,en 6,en 7,en 8,en 10,en 11,en 12,en 13,en 14,en 15,eh 2,eh 9,eh 16,en 17,eh 18,eh 19])]⟩
def s3:Hint:=⟨[],[hc 5 [0,1,3,4,7,10],hc 18 [0,1,3,4,7,10]],[(15,[en 0,en 1,en 2,en 3,en 4,en 5,en 6,en 7,en 8,en 9,en 10,en 11,en 12,en 14,en 15,en 16,en 17,en 18,en 19,en 20,ec 13 [68],eh 21,ec 22 [61,78],eh 23]),(16,hs 9 [ec 4 [83]])]⟩
def zC5:Hint:=⟨[],[],[(4,[en 0,en 2,en 4,en 5,en 8,en 9,en 11,en 14,en 15,en 18,en 22,eh 1,eh 3,eh 6,eh 7,eh 10,eh 12,eh 13,eh 16,en 17,eh 19,en 20,en 21,eh 23]),(5,[en 0,en 1,en 2,en 3,eh 4,en 5,ec 6 [33],eh 7])]⟩
def wr (Q:QT [.cu]) (N0:Nat) (a0:Option Addr) (e0:List D) (c0:Nat) (I J:Int) (N:Nat):Prop:=AT prog 23 [.cu] Q N0 .ord (zE prog 23 3) ⟨.sv a0 0 e0 c0::an 2 (.int .i64 I::.int .i64 J::an 27 []),[],N,none⟩
def xW (E:Env) (Q:QT [.ag 9,.sl 0,.i,.i]) (N0:Nat) (a1:Option Addr) (e1:List D) (c1:Nat) (n3 n4:Int) (I:Option Addr) (J:List D) (O:Nat) (U Y:Int) (y1:D) (aa:Int) (ab ac:ByteArray) (ae ah:Int) (ai:Option Addr) (aj:List D) (ak:Nat) (al:Int) (am:Option Addr) (ao:List D) (aq:Nat) (au:Option Addr) (aw:List D) (ax:Nat) (N:Nat):Prop:=AT prog 37 [.ag 9,.sl 0,.i,.i] Q N0 (.io E [.var [.sv none 0 [] 0,.int .i64 0,.int .i64 0]]) (rt prog 37 5) ⟨.pb 0 0 0 0::.sv a1 4 e1 c1::an 1 (.int .i64 n3::.int .i64 n4::an 2 (.pb 1 0 0 0::an 2 (.pb 2 0 0 0::an 103 []))),[.var [.sv I 0 J O,.int .i64 U,.int .i64 Y],.vd y1 2,.var [.int .i64 aa,.str ab,.str ac,.int .i64 ae,.int .i64 ah,.sv ai 2 aj ak,.int .i64 al,.sv am 2 ao aq,.sv au 9 aw ax]],N,some (yi E 0 [.var [.sv none 0 [] 0,.int .i64 0,.int .i64 0]],[])⟩
def zl (E:Env) (Q:QT [.ag 9,.bool,.sl 0,.i,.i]) (N0:Nat) (a1:Option Addr) (e1:List D) (c1:Nat) (n3:Int) (ay az:Nat) (a2:Int) (I:Option Addr) (J:List D) (O:Nat) (U Y:Int) (y1:D) (aa:Int) (ab ac:ByteArray) (ae ah:Int) (ai:Option Addr) (aj:List D) (ak:Nat) (al:Int) (am:Option Addr) (ao:List D) (aq:Nat) (au:Option Addr) (aw:List D) (ax:Nat) (r3:List D) (q3:Nat) (N:Nat):Prop:=AT prog 60 [.ag 9,.bool,.sl 0,.i,.i] Q N0 (.io E [.var [.sv none 0 [] 0,.int .i64 0,.int .i64 0]]) (zE prog 60 3) ⟨.pb 0 0 0 0::.sv a1 4 e1 c1::an 1 (.int .i64 n3::an 2 (.pb 1 0 0 0::an 1 (.pb 2 0 0 0::an 1 (.sb 3 9 0 ay az::.int .i64 a2::an 54 [])))),[.var [.sv I 0 J O,.int .i64 U,.int .i64 Y],.vd y1 2,.var [.int .i64 aa,.str ab,.str ac,.int .i64 ae,.int .i64 ah,.sv ai 2 aj ak,.int .i64 al,.sv am 2 ao aq,.sv au 9 aw ax],.arr 29 9 r3 q3],N,some (yi E 0 [.var [.sv none 0 [] 0,.int .i64 0,.int .i64 0]],[])⟩
def wI (E:Env) (Q:QT [.ag 9,.sl 0,.i,.i]) (N0:Nat) (a1:Option Addr) (e1:List D) (c1:Nat) (n3 n4:Int) (I:Option Addr) (J:List D) (O:Nat) (U Y:Int) (y1:D) (aa:Int) (ab ac:ByteArray) (ae ah:Int) (ai:Option Addr) (aj:List D) (ak:Nat) (al:Int) (am:Option Addr) (ao:List D) (aq:Nat) (au:Option Addr) (aw:List D) (ax:Nat) (N:Nat):Prop:=AT prog 37 [.ag 9,.sl 0,.i,.i] Q N0 (.io E [.var [.sv none 0 [] 0,.int .i64 0,.int .i64 0]]) (rt prog 37 18) ⟨.pb 0 0 0 0::.sv a1 4 e1 c1::an 1 (.int .i64 n3::.int .i64 n4::an 2 (.pb 1 0 0 0::an 2 (.pb 2 0 0 0::an 103 []))),[.var [.sv I 0 J O,.int .i64 U,.int .i64 Y],.vd y1 2,.var [.int .i64 aa,.str ab,.str ac,.int .i64 ae,.int .i64 ah,.sv ai 2 aj ak,.int .i64 al,.sv am 2 ao aq,.sv au 9 aw ax]],N,some (yi E 0 [.var [.sv none 0 [] 0,.int .i64 0,.int .i64 0]],[])⟩
theorem zGZ (N:Nat) (a0:Option Addr) (e0:List D) (c0:Nat) (Q:QT [.cu]) (h :
Bel N (D.sl a0 0 e0 c0)->wr Q N a0 e0 c0 (IntKind.i64.wrap (26583+(e0.length:Int))) 0 N):ACalls prog 23 [.cu] [PV.sv a0 0 e0 c0] N Q:=
 eE zBB h
theorem zH4 (N:Nat) (s0:ByteArray) (a1:Option Addr) (e1:List D) (c1:Nat) (Q:QT [.ag 9]) (h :
Bel N (D.sl a1 9 e1 c1)->kA 9 67 [.j 4,.sv a1 9 e1 c1] N (fun x a=>uP a (Q (D.ag [(x.cell 0),D.t s0,(x.cell 2),(x.cell 3),(x.cell 4),(x.cell 5),
 (x.cell 6),(x.cell 7),(x.cell 8)])))):ACalls prog 90 [.ag 9] [PV.str s0,PV.sv a1 9 e1 c1] N Q:=
  eE H0 h
theorem pp (N:Nat) (I:D) (Q:QT [.int .i64]) (h :
Bel N I->∃ n:Int,(I.cell 0)=D.j n/\Br (n==4) (∃ a b,∃ c:Nat,(I.cell 1)=D.sl a 2 b c/\((0:Int)<=(0:Int)/\0<(b.length:Int)) /\
 kI 88 [.dg 2 (List.getD b 0 default)] N (λa b=>uP b (Q (IntKind.i64.wrap (1+a))))) (uP N (Q 0))):ACalls prog 88 [.int .i64] [PV.dg 2 I] N Q:=
  eE zFe h
theorem sE (N:Nat) (a0:Option Addr) (e0:List D) (c0:Nat) (Q:QT [.ag 9]) (h :
Bel N (D.sl a0 0 e0 c0)->∀ d,N<=d->ACalls prog 23 [.cu] [.sv a0 0 e0 c0] d (λa c e n f g=>d<=g->cB 24 [.j 3] a c e n f g (λb a
 c d e f g=>Br b (cA 9 25 [] a c d e f g (λx _ _ _ _ _ a=>uP a (Q x))) (cA 9 26 [] a c d e f g (λa _
 _ _ _ _ b=>uP b (Q a)))))):ACalls prog 5 [.ag 9] [PV.sv a0 0 e0 c0] N Q:=
  eE H0 h
theorem qH (Q:QT [.cu]) (N0:Nat) (a0:Option Addr) (e0:List D) (c0:Nat) (n3 n4:Int) (N:Nat) (h :
Br (decide (n4<(e0.length:Int))) (Br (decide (n4<4000)) ((0<=n4/\n4<(e0.length:Int))/\∃ n:Int,List.getD e0 n4.toNat default=D.lit (.int
 IntKind.u8 n)/\wr Q N0 a0 e0 c0 (IntKind.i64.wrap (BitVec.toNat (HAnd.hAnd (BitVec.ofInt 64 (IntKind.i64.wrap (IntKind.i64.wrap (IntKind.i64.wrap
 (n3*131)+IntKind.i64.wrap n)+7))) (BitVec.ofInt 64 1073741823)):Int)) (IntKind.i64.wrap (n4+1)) N) (uP N (Q a0 e0 c0 0 n3))) (uP N (Q a0 e0 c0 0 n3))):wr Q N0 a0 e0 c0 n3 n4 N:=
  hE zBB h
theorem zBR (N:Nat) (n1:Int) (I:Option Addr) (J:List D) (O:Nat) (U Y:Int) (Q:QT [Sh.bool,(Sh.sl 0),(Sh.int IntKind.i64),(Sh.int IntKind.i64)]) (h:∀ E:Env,
Bel N (D.sl I 0 J O)->∀ b,N<=b->BCalls prog 35 [.i,.sl 0,.i,.i] [.pb 0 0 0 0,.j n1] [Bx.var [.sv I 0 J O,.j
 U,.j Y]] b (λn a c d e f g=>b<=g->Bel g (D.sl a 0 c d)->zR E [.var [.sv none 0 [] 0,.j 0,.j 0]]/\uP g (Q (n==0) a c d e
 f))):BCalls prog 24 [Sh.bool,(Sh.sl 0),(Sh.int IntKind.i64),(Sh.int IntKind.i64)] [.pb 0 0 0 0,.int .i64 n1] [.var [.sv I 0 J O,.int .i64 U,.int .i64 Y]] N Q:=
  bE H0 h
theorem pO (N:Nat) (I:Option Addr) (J:List D) (O:Nat) (U Y:Int) (Q:QT [(Sh.ag 9),(Sh.sl 0),(Sh.int IntKind.i64),(Sh.int IntKind.i64)]) (h:∀ E:Env,
Bel N (D.sl I 0 J O)->cB 24 [.j 4] I J O U Y N (λb a c d n e f=>Br b (cA 9 51 [] a c d n e f (fun
 x a b c d e f=>zR E [.var [.sv none 0 [] 0,.j 0,.j 0]]/\uP f (Q x a b c d e))) (kA 2 52 [] f (λb f=>kA 2 53 [] f (fun
 f g=>kA 2 54 [.dg 2 b] g (λg h=>kA 2 55 [.dg 2 b,.dg 2 b] h (λh i=>kA 2 54 [.dg 2 h] i (λh i=>kA 2 55 [.dg 2 b,
 .dg 2 b] i (λi j=>kA 2 54 [.dg 2 b] j (λj k=>kA 2 54 [.dg 2 j] k (λj k=>kA 2 54 [.dg 2 b] k (λk l=>∀ m,
 l<=m->BCalls prog 35 [.i,.sl 0,.i,.i] [.pb 0 0 0 0,.j 8] [Bx.var [.sv a 0 c d,.j n,.j e]] m (λa c d e l n o=>m<=o ->
 Bel o (D.sl c 0 d e)->(0<=a/\a<8/\(0+a.toNat:Nat)<([b,f,g,h,i,j,b,k]).length)/\(0+a.toNat:Nat)<([b,
 f,g,h,i,j,b,k]).length/\∀ m,o<=m->BCalls prog 35 [.i,.sl 0,.i,.i] [.pb 0 0 0 0,.j 3] [Bx.var [.sv c 0 d e,.j l,.j
 n]] m (λc d e l n o p=>m<=p->Bel p (D.sl d 0 e l)->(0=0/\0=0)/\∀ m q,p<=q->Fresh N q m [D.ag []] ->
 cA 9 37 [.sv m 4 [] 0,.dg 2 (List.getD [b,f,g,h,i,j,b,k] (0+a.toNat:Nat) default),.j 0,.j (IntKind.i64.wrap (3+c))] d
 e l n o q (λa b c d e f g=>zR E [.var [.sv none 0 [] 0,.j 0,.j 0]]/\uP g (Q a b c d e f)))))))))))))))):BCalls prog 26 [(Sh.ag 9),(Sh.sl 0),(Sh.int IntKind.i64),(Sh.int IntKind.i64)] [.pb 0 0 0 0] [.var [.sv I 0 J O,.int .i64 U,.int .i64 Y]] N Q:=
  bE zC5 h
theorem zAv (N:Nat) (n1:Int) (aB0_0:Option Addr) (eB0_0:List D) (cB0_0:Nat) (nB0_1 nB0_2:Int) (Q:QT [(Sh.int IntKind.i64),(Sh.sl 0),(Sh.int IntKind.i64),(Sh.int IntKind.i64)]) (h:∀ E:Env,
Bel N (D.sl aB0_0 0 eB0_0 cB0_0)->Br (decide (n1<=0)) (zR E [.var [.sv none 0 [] 0,.j 0,.j 0]]/\uP N (Q 0 aB0_0 eB0_0 cB0_0 nB0_1 nB0_2))
 (Br (decide (n1<=256)) (cI 59 [] aB0_0 eB0_0 cB0_0 nB0_1 nB0_2 N (fun n a b c d e f=>n1≠0/\zR E [.var [.sv none 0 [] 0,.j 0,.j 0]]/\uP f (Q
 (Int.tmod n n1) a b c d e))) (cI 59 [] aB0_0 eB0_0 cB0_0 nB0_1 nB0_2 N (fun a b c d e f g=>cI 59 [] b c d e f g (fun b c
 d e f g h=>cI 59 [] c d e f g h (fun c d e f g h i=>cI 59 [] d e f g h i (fun d e f g h
 i j=>n1≠0/\zR E [.var [.sv none 0 [] 0,.j 0,.j 0]]/\∀ k,j<=k->Q (Int.tmod (IntKind.i64.wrap (IntKind.i64.wrap (IntKind.i64.wrap
 (IntKind.i64.wrap (a*16777216)+IntKind.i64.wrap (b*65536))+IntKind.i64.wrap (c*256))+d)) n1) e f g h i k))))))):BCalls prog 35 [(Sh.int IntKind.i64),(Sh.sl 0),(Sh.int IntKind.i64),(Sh.int IntKind.i64)] [.pb 0 0 0 0,.int .i64 n1] [.var [.sv aB0_0 0 eB0_0 cB0_0,.int .i64 nB0_1,.int .i64 nB0_2]] N Q:=
  bE H0 h
theorem pu (N:Nat) (I:Option Addr) (J:List D) (O:Nat) (U Y:Int) (Q:QT [(Sh.ag 9),(Sh.sl 0),(Sh.int IntKind.i64),(Sh.int IntKind.i64)]) (h:∀ E:Env,
Bel N (D.sl I 0 J O)->cP [D.t (bytes [60,40,92,120,58,73,46,126,40,40,114,101,99,32,112,32,110,58,73,62,60,73,
 62,46,40,105,102,32,40,110,61,48,41,32,60,49,62,32,60,40,120,42,126,40,112,32,40,110,45,49,41,41,41,62,41,41,32,51,41,41,
 62]),D.t (bytes [40,40,114,117,110,32,60,40,92,120,58,73,46,126,40,40,114,101,99,32,112,32,110,58,73,62,60,73,62,46,40,105,102,
 32,40,110,61,48,41,32,60,49,62,32,60,40,120,42,126,40,112,32,40,110,45,49,41,41,41,62,41,41,32,51,41,41,62,41,32,50,41]),
 D.t (bytes [40,108,101,116,32,99,61,60,40,49,43,50,41,62,32,60,40,126,99,42,126,99,41,62,41]),D.t (bytes [60,40,92,121,58,73,46,
 126,40,40,92,122,58,60,73,62,46,60,40,92,121,58,73,46,40,126,122,43,121,41,41,62,41,32,60,121,62,41,41,62]),D.t (bytes [40,
 114,117,110,32,60,40,114,117,110,32,60,53,62,41,62,41]),D.t (bytes [40,108,101,116,32,110,61,55,32,40,114,117,110,32,60,126,40,
 108,105,102,116,32,40,110,42,110,41,41,62,41,41]),D.t (bytes [40,40,114,101,99,32,102,32,120,58,73,62,73,46,40,105,102,32,40,
 120,60,49,41,32,48,32,40,120,43,40,102,32,40,120,45,49,41,41,41,41,41,32,52,41]),D.t (bytes [40,40,114,101,99,32,102,32,120,
 58,73,62,73,46,40,102,32,120,41,41,32,49,41]),D.t (bytes [60,60,126,40,108,105,102,116,32,51,41,62,62]),D.t (bytes [40,114,117,
 110,32,60,40,92,102,58,40,73,62,73,41,46,40,102,32,50,41,41,62,41]),D.t (bytes [60,40,108,101,116,32,103,61,40,92,120,58,73,
 46,120,41,32,126,40,105,102,32,35,116,32,60,40,103,32,49,41,62,32,60,50,62,41,41,62])] 48 9 11 I J O U Y N (λs a
 c d n e _ _ _ f=>kAB 9 82 [.str s] f (λx _ b=>zR E [.var [.sv none 0 [] 0,.j 0,.j 0]]/\uP b (Q x a c d n e)))):BCalls prog 51 [(Sh.ag 9),(Sh.sl 0),(Sh.int IntKind.i64),(Sh.int IntKind.i64)] [.pb 0 0 0 0] [.var [.sv I 0 J O,.int .i64 U,.int .i64 Y]] N Q:=
  bE H0 h
theorem sm (N:Nat) (a1:Option Addr) (e1:List D) (c1:Nat) (x2:D) (n3 n4:Int) (I:Option Addr) (J:List D) (O:Nat) (U Y:Int) (Q:QT [(Sh.ag 9),(Sh.sl 0),(Sh.int IntKind.i64),(Sh.int IntKind.i64)]) (h:∀ E:Env,
Bel N (D.sl a1 4 e1 c1)->Bel N x2->Bel N (D.sl I 0 J O)->cB 24 [.j 3] I J O U Y N (λb a c d n e f=>
 Br (!b) (∀ b,f<=b->BCalls prog 60 [.ag 9,.bool,.sl 0,.i,.i] [.pb 0 0 0 0,.sv a1 4 e1 c1,.dg 2 x2,.j n3] [Bx.var [.sv a 0 c d,.j n,.j e]] b
 (λx a c d e f g h=>b<=h->Bel h x->Bel h (D.sl c 0 d e)->Br a (zR E [.var [.sv none 0 [] 0,.j 0,.j 0]]/\uP h (Q x c
 d e f g)) (xW E Q N a1 e1 c1 n3 n4 c d e f g x2 0 b0 b0 0 0 none [] 0 0 none [] 0 none [] 0 h))) (xW E Q N a1 e1 c1
 n3 n4 a c d n e x2 0 b0 b0 0 0 none [] 0 0 none [] 0 none [] 0 f))):BCalls prog 37 [(Sh.ag 9),(Sh.sl 0),(Sh.int IntKind.i64),(Sh.int IntKind.i64)] [.pb 0 0 0 0,.sv a1 4 e1 c1,.dg 2 x2,.int .i64 n3,.int .i64 n4] [.var [.sv I 0 J O,.int .i64 U,.int .i64 Y]] N Q:=
  bE s3 h
theorem zBN (N:Nat) (U:Option Addr) (I:List D) (Y:Nat) (J O:Int) (Q:QT [(Sh.int IntKind.i64),(Sh.sl 0),(Sh.int IntKind.i64),(Sh.int IntKind.i64)]) (h:∀ E:Env,
Bel N (D.sl U 0 I Y)->(0:Int)<=(33:Int)/\(0:Int)<=(45:Int)/\Br (decide (J<(I.length:Int))) ((0<=J /\
 J<(I.length:Int))/\∃ n:Int,List.getD I J.toNat default=D.lit (.int IntKind.u8 n)/\zR E [.var [.sv none 0 [] 0,.j 0,.j 0]]/\∀ a,
 N<=a->Q (IntKind.i64.wrap (BitVec.toNat (HAnd.hAnd (BitVec.ofInt 64 (IntKind.i64.wrap (IntKind.i64.wrap (BitVec.toNat (HAnd.hAnd (BitVec.ofInt 64
 (IntKind.i64.wrap (BitVec.toNat (HXor.hXor (BitVec.ofInt 64 (Int.fdiv (IntKind.i64.wrap (IntKind.i64.wrap (O*6364136223846793005)+1442695040888963407))
 8589934592)) (BitVec.ofInt 64 (Int.fdiv (IntKind.i64.wrap (IntKind.i64.wrap (O*6364136223846793005)+1442695040888963407)) 35184372088832))):Int)))
 (BitVec.ofInt 64 255)):Int)+IntKind.i64.wrap n))) (BitVec.ofInt 64 255)):Int)) U I Y (IntKind.i64.wrap (J+1)) (IntKind.i64.wrap
 (IntKind.i64.wrap (O*6364136223846793005)+1442695040888963407)) a) (zR E [.var [.sv none 0 [] 0,.j 0,.j 0]]/\∀ a,N<=a->Q (IntKind.i64.wrap
 (BitVec.toNat (HAnd.hAnd (BitVec.ofInt 64 (IntKind.i64.wrap (BitVec.toNat (HXor.hXor (BitVec.ofInt 64 (Int.fdiv (IntKind.i64.wrap (IntKind.i64.wrap (O *
 6364136223846793005)+1442695040888963407)) 8589934592)) (BitVec.ofInt 64 (Int.fdiv (IntKind.i64.wrap (IntKind.i64.wrap (O*6364136223846793005) +
 1442695040888963407)) 35184372088832))):Int))) (BitVec.ofInt 64 255)):Int)) U I Y J (IntKind.i64.wrap (IntKind.i64.wrap (O *
 6364136223846793005)+1442695040888963407)) a)):BCalls prog 59 [(Sh.int IntKind.i64),(Sh.sl 0),(Sh.int IntKind.i64),(Sh.int IntKind.i64)] [.pb 0 0 0 0] [.var [.sv U 0 I Y,.int .i64 J,.int .i64 O]] N Q:=
  bE zEr h
theorem zBW (N:Nat) (m1 c1:Nat) (I:Option Addr) (J:List D) (O:Nat) (Y aa:Int) (U:List D) (ab:Nat) (Q:QT [Sh.str,(Sh.sl 0),(Sh.int IntKind.i64),(Sh.int IntKind.i64),(Sh.sl 0)]) (h:∀ E:Env,
Bel N (D.sl I 0 J O)->Bel N (D.sl none 0 U ab)->∀ b,N<=b->BCalls prog 35 [.i,.sl 0,.i,.i] [.pb 0 0 0 0,.j (m1:Int)]
 [Bx.var [.sv I 0 J O,.j Y,.j aa]] b (λn a c d e f g=>b<=g->Bel g (D.sl a 0 c d)->(0<=n/\n<(m1:Int)/\(0+n.toNat
 : Nat)<U.length)/\(0+n.toNat:Nat)<U.length/\∃ s,List.getD U (0+n.toNat:Nat) default=D.t s/\zR E [.var [.sv none 0 [] 0,.j 0,.j 0],
 .arr 9 0 [] 0]/\uP g (Q s a c d e f none U ab))):BCalls prog 48 [Sh.str,(Sh.sl 0),(Sh.int IntKind.i64),(Sh.int IntKind.i64),(Sh.sl 0)] [.pb 0 0 0 0,.sb 1 0 0 m1 c1] [.var [.sv I 0 J O,.int .i64 Y,.int .i64 aa],.arr 9 0 U ab] N Q:=
  bE H0 h
theorem zAu (N:Nat) (a1:Option Addr) (e1:List D) (c1:Nat) (x2:D) (n3:Int) (I:Option Addr) (J:List D) (O:Nat) (U Y:Int) (Q:QT [(Sh.ag 9),Sh.bool,(Sh.sl 0),(Sh.int IntKind.i64),(Sh.int IntKind.i64)]) (h:∀ E:Env,
Bel N (D.sl a1 4 e1 c1)->Bel N x2->Bel N (D.sl I 0 J O)->zl E Q N a1 e1 c1 n3 0 0 0 I J O U Y
 x2 0 b0 b0 0 0 none [] 0 0 none [] 0 none [] 0 [] 0 N):BCalls prog 60 [(Sh.ag 9),Sh.bool,(Sh.sl 0),(Sh.int IntKind.i64),(Sh.int IntKind.i64)] [.pb 0 0 0 0,.sv a1 4 e1 c1,.dg 2 x2,.int .i64 n3] [.var [.sv I 0 J O,.int .i64 U,.int .i64 Y]] N Q:=
  bE qJ h
theorem r6 (E:Env) (Q:QT [(Sh.ag 9),(Sh.sl 0),(Sh.int IntKind.i64),(Sh.int IntKind.i64)]) (N0:Nat) (a1:Option Addr) (e1:List D) (c1:Nat) (n3 n4:Int) (a0_0:Option Addr) (e0_0:List D) (c0_0:Nat) (n0_1 n0_2:Int) (y1:D) (n2_0:Int) (s2_1 s2_2:ByteArray) (n2_3 n2_4:Int) (a2_5:Option Addr) (e2_5:List D) (c2_5:Nat) (n2_6:Int) (a2_7:Option Addr) (e2_7:List D) (c2_7:Nat) (a2_8:Option Addr) (e2_8:List D) (c2_8:Nat) (N:Nat) (h :
Br (decide (n4<2)) (cA 9 61 [.dg 2 y1,.j n3] a0_0 e0_0 c0_0 n0_1 n0_2 N (fun x a b c n d e=>zR E [.var [.sv none 0 [] 0,.j 0,.j 0]]/\uP e (Q
 x a b c n d))) (cB 24 [.j 3] a0_0 e0_0 c0_0 n0_1 n0_2 N (fun b a c d e f g=>Br b (cA 9 62 [.sv a1 4 e1 c1,.dg 2 y1,.j n3,.j n4] a c d
 e f g (fun a b c d e f g=>zR E [.var [.sv none 0 [] 0,.j 0,.j 0]]/\uP g (Q a b c d e f))) (∃ b:Int,(y1.cell 0) =
 D.j b/\Br (b==1) (cA 9 63 [.sv a1 4 e1 c1,.dg 2 y1,.j n3,.j n4] a c d e f g (fun a b c d e f g=>zR E [.var [.sv none 0
 [] 0,.j 0,.j 0]]/\uP g (Q a b c d e f))) (Br (b==2) (cA 9 63 [.sv a1 4 e1 c1,.dg 2 y1,.j n3,.j n4] a c d e f g (fun a b
 c d e f g=>zR E [.var [.sv none 0 [] 0,.j 0,.j 0]]/\uP g (Q a b c d e f))) (Br (b==3) (cP [D.t (bytes [120]),D.t (bytes
 [121])] 48 9 2 a c d e f g (fun s a b c d e _ _ _ f=>∃ g h,∃ i:Nat,(y1.cell 1)=D.sl g 2 h i/\((0:Int)
 <= (0:Int)/\0<(h.length:Int))/\∃ g i,∃ j:Nat,(y1.cell 1)=D.sl g 2 i j/\((0:Int)<=(0:Int)/\0<(i.length:Int))/\∃ g
 j,∃ k:Nat,(y1.cell 1)=D.sl g 2 j k/\((0:Int)<=(1:Int)/\1<(j.length:Int))/\kL 4 65 [.sv a1 4 e1 c1,.str s,.dg 2 (List.getD
 i 0 default),.j n3] f (fun f g i k=>cA 9 37 [.sv f 4 g i,.dg 2 (List.getD j 1 default),.j n3,.j (IntKind.i64.wrap (n4 - 1))]
 a b c d e k (fun a b c d e f g=>kA 9 64 [.str s,.dg 2 (List.getD h 0 default),.dg 9 a] g (fun a g=>zR E
 [.var [.sv none 0 [] 0,.j 0,.j 0]]/\uP g (Q a b c d e f)))))) (∃ b h,∃ i:Nat,(y1.cell 1)=D.sl b 2 h i/\((0 :
 Int)<=(0:Int)/\0<(h.length:Int))/\kB 66 [.dg 2 (List.getD h 0 default)] g (fun b g=>Br b (cB 24 [.j 4] a c d e f g (fun
 a b c d e f g=>Br a (∃ a h,∃ i:Nat,(y1.cell 1)=D.sl a 2 h i/\((0:Int)<=(0:Int)/\0<(h.length :
 Int))/\cA 9 37 [.sv a1 4 e1 c1,.dg 2 (List.getD h 0 default),.j n3,.j (IntKind.i64.wrap (n4 - 1))] b c d e f g (fun a b c
 d e f g=>(1=([a]).length/\1=1)/\∀ h,ApA h [a]->∀ i,g<=i->ux i [h]->ACalls prog 67 [.ag 9] [.j 13,.sv h 9
 [a] 1] i (fun a g=>i<=g->Off [h] a/\(Bel g a->zR E [.var [.sv none 0 [] 0,.j 0,.j 0]]/\uP g (Q a b c d e
 f))))) (wI E Q N0 a1 e1 c1 n3 n4 b c d e f y1 n2_0 s2_1 s2_2 n2_3 n2_4 a2_5 e2_5 c2_5 n2_6 a2_7 e2_7 c2_7 a2_8 e2_8 c2_8 g)))
 (wI E Q N0 a1 e1 c1 n3 n4 a c d e f y1 n2_0 s2_1 s2_2 n2_3 n2_4 a2_5 e2_5 c2_5 n2_6 a2_7 e2_7 c2_7 a2_8 e2_8 c2_8 g))))))))):xW E Q N0 a1 e1 c1 n3 n4 a0_0 e0_0 c0_0 n0_1 n0_2 y1 n2_0 s2_1 s2_2 n2_3 n2_4 a2_5 e2_5 c2_5 n2_6 a2_7 e2_7 c2_7 a2_8 e2_8 c2_8 N:=
  hE s3 h
theorem sA (E:Env) (Q:QT [(Sh.ag 9),Sh.bool,(Sh.sl 0),(Sh.int IntKind.i64),(Sh.int IntKind.i64)]) (N0:Nat) (a1:Option Addr) (e1:List D) (c1:Nat) (n3:Int) (ab a2:Nat) (I:Int) (J:Option Addr) (O:List D) (U:Nat) (Y aa:Int) (y1:D) (ac:Int) (ae ah:ByteArray) (ai aj:Int) (ak:Option Addr) (al:List D) (am:Nat) (ao:Int) (aq:Option Addr) (au:List D) (aw:Nat) (ax:Option Addr) (ay:List D) (az:Nat) (r3:List D) (q3:Nat) (N:Nat) (h :
Br (decide (I<(e1.length:Int))) ((0<=I/\I<(e1.length:Int))/\∃ n:Int,(if 0=0 then D.cell (List.getD e1 I.toNat default) 3 else D.sub
 (List.getD e1 I.toNat default) 3 0)=D.j n/\Br (n==n3) ((0<=I/\I<(e1.length:Int))/\kB 19 [.dg 2 (if 2=0 then D.cell (List.getD e1 I.toNat
 default) 1 else D.sub (List.getD e1 I.toNat default) 1 2),.dg 2 y1] N (λb a=>Br b ((0<=I/\I<(e1.length:Int))/\∃ s,(if 0=0 then D.cell
 (List.getD e1 I.toNat default) 0 else D.sub (List.getD e1 I.toNat default) 0 0)=D.t s/\kI 84 [.sv a1 4 e1 c1,.str s] a (λa b=>Br (a==I)
 ((0<=I/\I<(e1.length:Int))/\∃ a,(if 0=0 then D.cell (List.getD e1 I.toNat default) 0 else D.sub (List.getD e1 I.toNat default) 0 0)=D.t
 a/\kA 9 49 [.str a] b (λx a=>(ab=r3.length/\a2=q3)/\zA r3 [x] 136/\∀ (c:Nat),zl E Q N0 a1 e1 c1 n3 (r3++[x]).length
 c (IntKind.i64.wrap (I+1)) J O U Y aa y1 ac ae ah ai aj ak al am ao aq au aw ax ay az (r3++[x]) c a))
 (zl E Q N0 a1 e1 c1 n3 ab a2 (IntKind.i64.wrap (I+1)) J O U Y aa y1 ac ae ah ai aj ak al am ao aq au
 aw ax ay az r3 q3 b))) (zl E Q N0 a1 e1 c1 n3 ab a2 (IntKind.i64.wrap (I+1)) J O U Y aa y1 ac ae ah ai aj
 ak al am ao aq au aw ax ay az r3 q3 a))) (zl E Q N0 a1 e1 c1 n3 ab a2 (IntKind.i64.wrap (I+1)) J O U Y aa
 y1 ac ae ah ai aj ak al am ao aq au aw ax ay az r3 q3 N)) (Br ((ab:Int)==0) (zR E [.var [.sv none 0 [] 0,.j 0,.j 0]]/\∀
 a,N<=a->Q (D.ag [D.j 0,D.t b0,D.t b0,D.j 0,D.j 0,D.sl none 2 [] 0,D.j 0,D.sl none 2 [] 0,D.sl none 9 [] 0]) false J O U Y aa a) (∀
 b,N<=b->BCalls prog 35 [.i,.sl 0,.i,.i] [.pb 0 0 0 0,.j (ab:Int)] [Bx.var [.sv J 0 O U,.j Y,.j aa]] b (λa c d e f g h
 => b<=h->Bel h (D.sl c 0 d e)->(0<=a/\a<(ab:Int)/\(0+a.toNat:Nat)<r3.length)/\(0+a.toNat:Nat)<r3.length/\zR E [.var
 [.sv none 0 [] 0,.j 0,.j 0]]/\uP h (Q (List.getD r3 (0+a.toNat:Nat) default) true c d e f g))))):zl E Q N0 a1 e1 c1 n3 ab a2 I J O U Y aa y1 ac ae ah ai aj ak al am ao aq au aw ax ay az r3 q3 N:=
  hE qJ h
theorem xR (N:Nat) (x1:D) (n2:Int) (I:Option Addr) (J:List D) (O:Nat) (U Y:Int) (Q:QT [(Sh.ag 9),(Sh.sl 0),(Sh.int IntKind.i64),(Sh.int IntKind.i64)]) (h:∀ E:Env,
Bel N x1->Bel N (D.sl I 0 J O)->∃ n:Int,(x1.cell 0)=D.j n/\Br (n==1) (∀ b,N<=b->BCalls prog 35 [.i,.sl 0,.i,.i]
 [.pb 0 0 0 0,.j 4] [Bx.var [.sv I 0 J O,.j U,.j Y]] b (λa c d e f g h=>b<=h->Bel h (D.sl c 0 d e)->kA 9 85 [.j a]
 h (λx a=>zR E [.var [.sv none 0 [] 0,.j 0,.j 0]]/\uP a (Q x c d e f g)))) (Br (n==2) (∀ a,N<=a->BCalls prog 35 [.i,.sl 0,.i,.i] [.pb
 0 0 0 0,.j 2] [Bx.var [.sv I 0 J O,.j U,.j Y]] a (λb c d e f g h=>a<=h->Bel h (D.sl c 0 d e)->kA 9 86
 [.j b] h (λa b=>zR E [.var [.sv none 0 [] 0,.j 0,.j 0]]/\uP b (Q a c d e f g)))) (Br (n==3) (∃ a b,∃ c:Nat,(x1.cell
 1)=D.sl a 2 b c/\((0:Int)<=(0:Int)/\0<(b.length:Int))/\∃ a c,∃ d:Nat,(x1.cell 1)=D.sl a 2 c d/\((0:Int)<=(1 :
 Int)/\1<(c.length:Int))/\cA 9 61 [.dg 2 (List.getD c 1 default),.j n2] I J O U Y N (λa c d e f g h=>kA 9 64
 [.str (bytes [119]),.dg 2 (List.getD b 0 default),.dg 9 a] h (λa b=>zR E [.var [.sv none 0 [] 0,.j 0,.j 0]]/\uP b (Q a c d e
 f g)))) (∃ a b,∃ c:Nat,(x1.cell 1)=D.sl a 2 b c/\((0:Int)<=(0:Int)/\0<(b.length:Int))/\cA 9 61 [.dg 2 (List.getD b 0
 default),.j (IntKind.i64.wrap (n2+1))] I J O U Y N (λa b c d e f g=>w3 (1=([a]).length/\1=1) (∀ h i,g
 <= i->Fresh N i h [D.ag [a],D.sl none 2 [] 0,D.sl none 2 [] 0]->zR E [.var [.sv none 0 [] 0,.j 0,.j 0]]/\∀ g,i<=g->Q (D.ag [D.j 10,D.t
 b0,D.t b0,D.j 0,D.j 0,D.sl none 2 [] 0,D.j 0,D.sl none 2 [] 0,D.sl h 9 [a] 1]) b c d e f g)))))):BCalls prog 61 [(Sh.ag 9),(Sh.sl 0),(Sh.int IntKind.i64),(Sh.int IntKind.i64)] [.pb 0 0 0 0,.dg 2 x1,.int .i64 n2] [.var [.sv I 0 J O,.int .i64 U,.int .i64 Y]] N Q:=
  bE zDz h
theorem zCk (N:Nat) (a1:Option Addr) (e1:List D) (c1:Nat) (Y:D) (I n4:Int) (J:Option Addr) (O:List D) (U:Nat) (aa ab:Int) (Q:QT [(Sh.ag 9),(Sh.sl 0),(Sh.int IntKind.i64),(Sh.int IntKind.i64)]) (h:∀ E:Env,
Bel N (D.sl a1 4 e1 c1)->Bel N Y->Bel N (D.sl J 0 O U)->cP [D.t (bytes [120]),D.t (bytes [121]),D.t (bytes [122])] 48 9 3
 J O U aa ab N (λs a b c n d _ _ _ e=>∀ f,e<=f->BCalls prog 35 [.i,.sl 0,.i,.i] [.pb 0 0 0 0,.j 5] [Bx.var [.sv a 0
 b c,.j n,.j d]] f (λa b c d e g h=>f<=h->Bel h (D.sl b 0 c d)->Br (a==0) (kA 2 53 [] h (λx a=>cA 9 37 [.sv a1 4
 e1 c1,.dg 2 x,.j I,.j (IntKind.i64.wrap (n4 - 1))] b c d e g a (λa b c d e f g=>cA 9 37 [.sv a1 4 e1 c1,.dg 2 Y,.j I,.j
 (IntKind.i64.wrap (n4 - 1))] b c d e f g (λb c d e f g h=>cA 9 37 [.sv a1 4 e1 c1,.dg 2 Y,.j I,.j (IntKind.i64.wrap (n4 -
 1))] c d e f g h (λc d e f g h i=>(3=([a,b,c]).length/\3=3)/\∀ j,ApA j [a,b,c]->∀ k,i<=k ->
 ux k [j]->ACalls prog 67 [.ag 9] [.j 5,.sv j 9 [a,b,c] 3] k (λa b=>k<=b->Off [j] a/\(Bel b a->zR E [.var [.sv
 none 0 [] 0,.j 0,.j 0]]/\uP b (Q a d e f g h)))))))) (Br (a==1) (cA 2 36 [.j I] b c d e g h (λa b c d e f
 g=>cA 9 37 [.sv a1 4 e1 c1,.dg 2 a,.j I,.j (IntKind.i64.wrap (n4 - 1))] b c d e f g (λb c d e f g h=>kL 4 65 [.sv
 a1 4 e1 c1,.str s,.dg 2 a,.j I] h (λa h i j=>cA 9 37 [.sv a 4 h i,.dg 2 Y,.j I,.j (IntKind.i64.wrap (n4 - 1))] c d e
 f g j (λa c d e f g h=>kA 9 87 [.str s,.dg 9 b,.dg 9 a] h (λa b=>zR E [.var [.sv none 0 [] 0,.j 0,.j 0]] /\
 uP b (Q a c d e f g))))))) (Br (a==2) (cA 2 36 [.j I] b c d e g h (λa b c d e f g=>kL 4 65 [.sv a1 4
 e1 c1,.str s,.dg 2 a,.j I] g (λg h i j=>cA 9 37 [.sv g 4 h i,.dg 2 Y,.j I,.j (IntKind.i64.wrap (n4 - 1))] b c
 d e f j (λb c d e f g h=>kA 9 64 [.str s,.dg 2 a,.dg 9 b] h (λb h=>cA 9 37 [.sv a1 4 e1 c1,.dg 2 a,
 .j I,.j (IntKind.i64.wrap (n4 - 1))] c d e f g h (λa c d e f g h=>(2=([b,a]).length/\2=2)/\∀ i,
 ApA i [b,a]->∀ j,h<=j->ux j [i]->ACalls prog 67 [.ag 9] [.j 7,.sv i 9 [b,a] 2] j (λa b=>j<=b->Off
 [i] a/\(Bel b a->zR E [.var [.sv none 0 [] 0,.j 0,.j 0]]/\uP b (Q a c d e f g))))))))) (Br (a==3) (kI 88 [.dg 2 Y]
 h (λa f=>Br (decide (IntKind.i64.wrap (I+a)<2)) (kL 4 89 [.sv a1 4 e1 c1,.j I] f (λa f h i=>kA 2 54 [.dg 2 Y] i (fun
 i j=>cA 9 37 [.sv a 4 f h,.dg 2 i,.j I,.j (IntKind.i64.wrap (n4 - 1))] b c d e g j (λa b c d e f g
 => (1=([a]).length/\1=1)/\∀ h,ApA h [a]->∀ i,g<=i->ux i [h]->ACalls prog 67 [.ag 9] [.j 12,.sv h 9 [a] 1] i (fun
 a g=>i<=g->Off [h] a/\(Bel g a->zR E [.var [.sv none 0 [] 0,.j 0,.j 0]]/\uP g (Q a b c d e f))))))) (Br
 (decide (I>0)) (kA 2 54 [.dg 2 Y] f (λa f=>cA 9 37 [.sv a1 4 e1 c1,.dg 2 a,.j (IntKind.i64.wrap (I - 1)),.j (IntKind.i64.wrap (n4 - 1))]
 b c d e g f (λa b c d e f g=>(1=([a]).length/\1=1)/\∀ h,ApA h [a]->∀ i,g<=i->ux i [h]
 -> ACalls prog 67 [.ag 9] [.j 11,.sv h 9 [a] 1] i (λa g=>i<=g->Off [h] a/\(Bel g a->zR E [.var [.sv none 0 [] 0,.j 0,.j
 0]]/\uP g (Q a b c d e f)))))) (cA 9 61 [.dg 2 Y,.j I] b c d e g f (λa b c d e f g=>zR E [.var
 [.sv none 0 [] 0,.j 0,.j 0]]/\uP g (Q a b c d e f)))))) (Br (decide (I>0)) (kA 2 54 [.dg 2 Y] h (λa f=>cA 9 37 [.sv a1 4
 e1 c1,.dg 2 a,.j (IntKind.i64.wrap (I - 1)),.j (IntKind.i64.wrap (n4 - 1))] b c d e g f (λa b c d e f g=>(1 =
 ([a]).length/\1=1)/\∀ h,ApA h [a]->∀ i,g<=i->ux i [h]->ACalls prog 67 [.ag 9] [.j 11,.sv h 9 [a] 1] i (λa g
 => i<=g->Off [h] a/\(Bel g a->zR E [.var [.sv none 0 [] 0,.j 0,.j 0]]/\uP g (Q a b c d e f)))))) (cA 9 61 [.dg 2
 Y,.j I] b c d e g h (λa b c d e f g=>zR E [.var [.sv none 0 [] 0,.j 0,.j 0]]/\uP g (Q a b c d e
 f)))))))))):BCalls prog 62 [(Sh.ag 9),(Sh.sl 0),(Sh.int IntKind.i64),(Sh.int IntKind.i64)] [.pb 0 0 0 0,.sv a1 4 e1 c1,.dg 2 Y,.int .i64 I,.int .i64 n4] [.var [.sv J 0 O U,.int .i64 aa,.int .i64 ab]] N Q:=
  bE zHM h
theorem zBh (N:Nat) (a1:Option Addr) (e1:List D) (c1:Nat) (x2:D) (n3 n4:Int) (I:Option Addr) (J:List D) (O:Nat) (U Y:Int) (Q:QT [(Sh.ag 9),(Sh.sl 0),(Sh.int IntKind.i64),(Sh.int IntKind.i64)]) (h:∀ E:Env,
Bel N (D.sl a1 4 e1 c1)->Bel N x2->Bel N (D.sl I 0 J O)->kA 2 52 [] N (λx b=>kA 2 53 [] b (λb d=>∃ n:Int,
 (x2.cell 0)=D.j n/\Br (n==1) (cP [D.t (bytes [43]),D.t (bytes [42]),D.t (bytes [45]),D.t (bytes [43])] 48 9 4 I J O U Y d (λs a
 b c d e _ _ _ f=>cA 9 37 [.sv a1 4 e1 c1,.dg 2 x,.j n3,.j (IntKind.i64.wrap (n4 - 1))] a b c d e f (λa b c d e f g=>
 cA 9 37 [.sv a1 4 e1 c1,.dg 2 x,.j n3,.j (IntKind.i64.wrap (n4 - 1))] b c d e f g (λb c d e f g h=>(2=([a,b]).length /\
 2=2)/\∀ i,ApA i [a,b]->∀ j,h<=j->ux j [i]->ACalls prog 90 [.ag 9] [.str s,.sv i 9 [a,b] 2] j (λa b=>j<=b ->
 Off [i] a/\(Bel b a->zR E [.var [.sv none 0 [] 0,.j 0,.j 0]]/\uP b (Q a c d e f g))))))) (∀ a,d<=a->BCalls prog 35 [.i,
 .sl 0,.i,.i] [.pb 0 0 0 0,.j 4] [Bx.var [.sv I 0 J O,.j U,.j Y]] a (λc d e f g h i=>a<=i->Bel i (D.sl d
 0 e f)->Br (c==0) (cA 9 37 [.sv a1 4 e1 c1,.dg 2 b,.j n3,.j (IntKind.i64.wrap (n4 - 1))] d e f g h i (λa b c d e f
 g=>(1=([a]).length/\1=1)/\∀ h,ApA h [a]->∀ i,g<=i->ux i [h]->ACalls prog 90 [.ag 9] [.str (bytes [33]),.sv h 9 [a] 1]
 i (λa g=>i<=g->Off [h] a/\(Bel g a->zR E [.var [.sv none 0 [] 0,.j 0,.j 0]]/\uP g (Q a b c d e f))))) (Br (c
 == 1) (cP [D.t (bytes [38]),D.t (bytes [124])] 48 9 2 d e f g h i (λa c d e f g _ _ _ h=>cA 9 37 [.sv a1 4 e1 c1,.dg
 2 b,.j n3,.j (IntKind.i64.wrap (n4 - 1))] c d e f g h (λc d e f g h i=>cA 9 37 [.sv a1 4 e1 c1,.dg 2 b,.j n3,.j
 (IntKind.i64.wrap (n4 - 1))] d e f g h i (λb d e f g h i=>(2=([c,b]).length/\2=2)/\∀ j,ApA j [c,b]
 -> ∀ k,i<=k->ux k [j]->ACalls prog 90 [.ag 9] [.str a,.sv j 9 [c,b] 2] k (λa b=>k<=b->Off [j] a/\(Bel b a
 -> zR E [.var [.sv none 0 [] 0,.j 0,.j 0]]/\uP b (Q a d e f g h))))))) (cP [D.t (bytes [61]),D.t (bytes [60])] 48 9 2 d e f g
 h i (λa b c d e f _ _ _ g=>cA 9 37 [.sv a1 4 e1 c1,.dg 2 x,.j n3,.j (IntKind.i64.wrap (n4 - 1))] b c d e
 f g (λb c d e f g h=>cA 9 37 [.sv a1 4 e1 c1,.dg 2 x,.j n3,.j (IntKind.i64.wrap (n4 - 1))] c d e f g h (fun
 c d e f g h i=>(2=([b,c]).length/\2=2)/\∀ j,ApA j [b,c]->∀ k,i<=k->ux k [j]->ACalls prog 90
 [.ag 9] [.str a,.sv j 9 [b,c] 2] k (λa b=>k<=b->Off [j] a/\(Bel b a->zR E [.var [.sv none 0 [] 0,.j 0,.j 0]] /\
 uP b (Q a d e f g h))))))))))))):BCalls prog 63 [(Sh.ag 9),(Sh.sl 0),(Sh.int IntKind.i64),(Sh.int IntKind.i64)] [.pb 0 0 0 0,.sv a1 4 e1 c1,.dg 2 x2,.int .i64 n3,.int .i64 n4] [.var [.sv I 0 J O,.int .i64 U,.int .i64 Y]] N Q:=
  bE zE3 h
theorem zCb (E:Env) (Q:QT [(Sh.ag 9),(Sh.sl 0),(Sh.int IntKind.i64),(Sh.int IntKind.i64)]) (N0:Nat) (a1:Option Addr) (e1:List D) (c1:Nat) (n3 n4:Int) (I:Option Addr) (J:List D) (O:Nat) (U Y:Int) (y1:D) (aa:Int) (ab ac:ByteArray) (ae ah:Int) (ai:Option Addr) (aj:List D) (ak:Nat) (al:Int) (am:Option Addr) (ao:List D) (aq:Nat) (au:Option Addr) (aw:List D) (ax:Nat) (N:Nat) (h :
∃ a b,∃ c:Nat,(y1.cell 1)=D.sl a 2 b c/\((0:Int)<=(0:Int)/\0<(b.length:Int))/\cA 9 37 [.sv a1 4 e1 c1,.dg 2 (List.getD b 0 default),
 .j (IntKind.i64.wrap (n3+1)),.j (IntKind.i64.wrap (n4 - 1))] I J O U Y N (λx a b c n d e=>(1=([x]).length/\1=1)/\∀ f,
 ApA f [x]->∀ g,e<=g->ux g [f]->ACalls prog 67 [.ag 9] [.j 10,.sv f 9 [x] 1] g (λe h=>g<=h->Off [f] e/\(Bel h e->zR E
 [.var [.sv none 0 [] 0,.j 0,.j 0]]/\uP h (Q e a b c n d))))):wI E Q N0 a1 e1 c1 n3 n4 I J O U Y y1 aa ab ac ae ah ai aj ak al am ao aq au aw ax N:=
  hE s3 h
theorem zBI (N:Nat) (n1:Int) (I:Option Addr) (J:List D) (O:Nat) (U Y:Int) (Q:QT [(Sh.ag 2),(Sh.sl 0),(Sh.int IntKind.i64),(Sh.int IntKind.i64)]) (h:∀ E:Env,
Bel N (D.sl I 0 J O)->kA 2 52 [] N (λx d=>Br (decide (n1<2)) (cB 24 [.j 2] I J O U Y d (λb a c d n
 e f=>Br b (kA 2 54 [.dg 2 x] f (λb f=>zR E [.var [.sv none 0 [] 0,.j 0,.j 0]]/\uP f (Q b a c d n e))) (cB 24 [.j 3] a c d n e f
 (λa b c d e f g=>Br a (kA 2 55 [.dg 2 x,.dg 2 x] g (λa g=>zR E [.var [.sv none 0 [] 0,.j 0,.j 0]]/\uP g (Q a b c
 d e f))) (zR E [.var [.sv none 0 [] 0,.j 0,.j 0]]/\uP g (Q x b c d e f)))))) (cB 24 [.j 3] I J O U Y d (λa b
 c d e f g=>Br a (kA 2 55 [.dg 2 x,.dg 2 x] g (λa g=>zR E [.var [.sv none 0 [] 0,.j 0,.j 0]]/\uP g (Q a b c d e
 f))) (zR E [.var [.sv none 0 [] 0,.j 0,.j 0]]/\uP g (Q x b c d e f))))) ):BCalls prog 36 [(Sh.ag 2),(Sh.sl 0),(Sh.int IntKind.i64),(Sh.int IntKind.i64)] [.pb 0 0 0 0,.int .i64 n1] [.var [.sv I 0 J O,.int .i64 U,.int .i64 Y]] N Q:=
  bE zGR h
end Go.Proofs.YtnmnahkkcfghjaaGreat
set_option maxRecDepth 100000
namespace Go.Proofs.YtnmnahkkcfghjaaGreat
open Go Go.Proofs Go.Proofs.Tryz
theorem zJq (N:Nat) (a0:Option Addr) (e0:List D) (c0:Nat) (Q:QT [.bool]) (h :
Bel N (D.sl a0 0 e0 c0)->∀ a,N<=a->Q (decide ((e0.length:Int)>1048576)) a):ACalls prog 4 [.bool] [PV.sv a0 0 e0 c0] N Q:=
 eE H0 h
end Go.Proofs.YtnmnahkkcfghjaaGreat
