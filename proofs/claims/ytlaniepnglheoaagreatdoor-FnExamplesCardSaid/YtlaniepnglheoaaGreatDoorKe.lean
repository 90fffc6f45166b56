/- Printed by gen.py: what the functions come to. -/
import Derived.Test.YtlaniepnglheoaaGreatDoorJh
set_option linter.unusedVariables false
set_option maxRecDepth 100000
namespace Go.Proofs.YtlaniepnglheoaaGreatDoor
open Go Go.Proofs Go.Proofs.Tryz
def Ep:Hint:=⟨[hc 3 [0,3,4]],[],[]⟩
def KH:Hint:=⟨[],[],[(2,[en 0,en 1,en 2,en 3,en 4,en 5,en 6,en 7,en 8,en 9,en 10,en 11,en 12]),(3,[en 0,en 1,en 2,en 3,en 4,en 5,en 6,en 7,en 8,en 9]),(4,[en 0,en 1,en 2,en 3,en 4,en 5,en 6,en 7,en 8,en 9,en 10,en 11,en 12,en 13,eh 14])]⟩
def BJ:Hint:=⟨[hc 3 [0,1,3,6,8,10,11] [(10,35,9)]],[],[(5,[en 0,en 1,en 2,en 3,en 4,en 5,en 6,en 7,en 8,en 9,en 10,en 11,en 12,en 13,ec 14 [31,32],en 15,en 16,en 17,en 18,en 19,en 20,en 21,en 22,en 24,eh 23,en 25,en 26])]⟩
def IV:Hint:=⟨[],[],[(7,[en 0,en 1,en 2,en 3,en 4,en 5,en 6,en 7,en 8,en 9,eh 10,ec 11 [24,31],eh 12])]⟩
def KW:Hint:=⟨[],[],[(3,hs 3 [ec 1 [13]]),(5,hs 4 [ec 2 [17,18]])]⟩
def KV:Hint:=⟨[],[],[(2,hs 7 [ec 4 [9]])]⟩
def MK:Hint:=⟨[],[],[(4,[en 0,en 1,en 3,en 4,en 5,en 7,en 8,en 9,en 10,en 11,en 12,en 14,en 15,en 16,en 17,en 18,en 19,eh 2,eh 6,eh 13,eh 20,en 21,eh 22,eh 23]),(7,[en 0,en 1,en 2,en 3,en 4,en 5,en 6,en 8,en 9,en 10,en 11,en 12,en 14,en 15,en 16,en 17,eh 7,ec 13 [60],eh 18,ec 19 [56,67],eh 20]),(10,[en 0,en 1,en 2,en 3,en 4,en 5,en 6,en 8,en 9,en 10,en 11,en 14,en 15,en 16,en 17,en 18,en 19,ec 7 [79],eh 12,ec 13 [75,86],eh 20,en 21,eh 22,eh 23]),(12,hs 5 [ec 2 [100]]),(13,[en 0,en 1,en 2,en 4,en 6,en 7,en 8,eh 3,ec 5 [108],eh 9,en 10,eh 11,eh 12]),(15,hs 12 [ec 3 [120]])]⟩
def KR:Hint:=⟨[],[],[(4,[en 0,en 1,en 3,en 4,en 5,en 6,en 7,en 8,en 10,en 11,en 12,en 13,en 14,en 15,eh 2,eh 9,eh 16,en 17,eh 18,eh 19]),(9,[en 0,en 1,en 3,en 4,en 5,en 6,en 7,en 8,en 10,en 11,en 12,en 13,en 14,en 15,eh 2,eh 9,eh 16,en 17,eh 18,eh 19]),(10,[en 0,en 1,en 3,en 4,en 5,en 6,en 7,en 8,en 10,en 11,en 12,en 13,en 14,en 15,eh 2,eh 9,eh 16,en 17,eh 18,eh 19])]⟩
def q8:Hint:=⟨[],[hc 5 [0,1,3,4,7,10],hc 18 [0,1,3,4,7,10]],[(15,[en 0,en 1,en 2,en 3,en 4,en 5,en 6,en 7,en 8,en 9,en 10,en 11,en 12,en 14,en 15,en 16,en 17,en 18,en 19,en 20,ec 13 [68],eh 21,ec 22 [61,78],eh 23]),(16,hs 9 [ec 4 [83]])]⟩
def Ga:Hint:=⟨[],[],[(4,[en 0,en 2,en 4,en 5,en 8,en 9,en 11,en 14,en 15,en 18,en 22,eh 1,eh 3,eh 6,eh 7,eh 10,eh 12,eh 13,eh 16,en 17,eh 19,en 20,en 21,eh 23]),(5,[en 0,en 1,en 2,en 3,eh 4,en 5,ec 6 [33],eh 7])]⟩
def GX:Hint:=⟨[],[],[(4,[en 0,en 1,en 2,en 3,en 4,en 7,en 8,en 9,eh 5,en 6,en 10,en 11])]⟩
def B7:Hint:=⟨[],[],[(3,hs 4 [ec 2 [9]]),(4,hs 7 [ec 3 [13]])]⟩
def uT (Q:QT [.cu]) N0 a0 e0 c0 I n4 N:=jT 32 3 Q N0 (.sv a0 0 e0 c0::an 2 (.j I::.j n4::an 27 [])) [] N
def wR E(Q:QT [.ag 9,.sl 0,.i,.i]) N0 a1 e1 c1 n3 n4 I J O U Y y1 aa ab ac ae ah ai aj ak al ao aq au aw ax ay N:=jP 73 5 E Q N0 (.pb 0 0 0 0::.sv a1 4 e1 c1::an 1 (.j n3::.j n4::an 2 (.pb 1 0 0 0::an 2 (.pb 2 0 0 0::an 103 [])))) [.var [.sv I 0 J O,.j U,.j Y],.vd y1 2,jV aa ab ac ae ah ai aj ak al ao aq au aw ax ay] N
def zt E(Q:QT [.ag 9,.bool,.sl 0,.i,.i]) N0 a1 e1 c1 n3 az a6 a7 I J O U Y y1 aa ab ac ae ah ai aj ak al ao aq au aw ax ay r3 q3 N:=jO 134 3 E Q N0 (.pb 0 0 0 0::.sv a1 4 e1 c1::an 1 (.j n3::an 2 (.pb 1 0 0 0::an 1 (.pb 2 0 0 0::an 1 (.sb 3 9 0 az a6::.j a7::an 54 []))))) [.var [.sv I 0 J O,.j U,.j Y],.vd y1 2,jV aa ab ac ae ah ai aj ak al ao aq au aw ax ay,.arr 35 9 r3 q3] N
def va E(Q:QT [.ag 9,.sl 0,.i,.i]) N0 a1 e1 c1 n3 n4 I J O U Y y1 aa ab ac ae ah ai aj ak al ao aq au aw ax ay N:=jP 73 18 E Q N0 (.pb 0 0 0 0::.sv a1 4 e1 c1::an 1 (.j n3::.j n4::an 2 (.pb 1 0 0 0::an 2 (.pb 2 0 0 0::an 103 [])))) [.var [.sv I 0 J O,.j U,.j Y],.vd y1 2,jV aa ab ac ae ah ai aj ak al ao aq au aw ax ay] N
theorem Nv N a0 e0 c0(Q:QT [.cu])(h :
Bel N (D.sl a0 0 e0 c0)->uT Q N a0 e0 c0 (jW.wrap (26583+(e0.length:Int))) 0 N):jC 32 [.sv a0 0 e0 c0] N Q:=
 eE Ep h
theorem PY N I a1 e1 c1(Q:QT [.ag 9])(h :
Bel N (D.sl a1 9 e1 c1)->kA 9 141 [.j 4,.sv a1 9 e1 c1] N (λx a=>uP a (Q (D.ag [(x.cell 0),D.t I,(x.cell 2),(x.cell 3),(x.cell 4),(x.cell
 5),(x.cell 6),(x.cell 7),(x.cell 8)])))):jC 204 [.str I,.sv a1 9 e1 c1] N Q:=
  eE H0 h
theorem Db N I(Q:QT [.i])(h :
Bel N I->∃ n:Int,(I.cell 0)=D.j n/\Br (n==4) (∃ a b,∃ c:Nat,(I.cell 1)=D.sl a 2 b c/\jL 0 b /\
 kI 202 [.dg 2 (b.getD 0 jD)] N (λa b=>uP b (Q (jW.wrap (1+a))))) (uP N (Q 0))):jC 202 [.dg 2 I] N Q:=
  eE KV h
theorem DP N a0 e0 c0(Q:QT [.str])(h :
Bel N (D.sl a0 0 e0 c0)->∀ d,N<=d->ACalls prog 32 [.cu] [.sv a0 0 e0 c0] d (λa c e n f g=>d<=g->cB 33 [.j 2] a c e n f g (λb a
 c d e f g=>Br b (cA 9 35 [] a c d e f g (λx _ _ _ _ _ a=>kS 34 [.dg 9 x] a (λs a=>uP a (Q s)))) (cA 9 37 [] a
 c d e f g (λa b c d e f g=>kS 34 [.dg 9 a] g (λa g=>∀ h,g<=h->BCalls prog 36 [.str,.sl 0,.i,.i,.sl 0]
 [.pb 0 0 0 0,.str a,.sb 1 0 0 6 6] [Bx.var [.sv b 0 c d,.j e,.j f],Bx.arr 9 0 [D.t (bytes [40]),D.t (bytes [32]),D.t (bytes [120]),D.t
 (bytes [60]),D.t (bytes [126]),D.t (bytes [43])] 6] h (λa b c d _ _ e f g i=>h<=i->Bel i (D.sl b 0 c d)->Bel i
 (D.sl e 0 f g)->uP i (Q a)))))))):jC 12 [.sv a0 0 e0 c0] N Q:=
  eE B7 h
theorem BT {Q:QT [.cu]}{N0 a0 e0 c0 I n4 N}(h :
Br (decide (n4<(e0.length:Int))) (Br (decide (n4<4000)) (jL n4 e0/\∃ n:Int,e0.getD n4.toNat jD=D.lit (.int
 IntKind.u8 n)/\uT Q N0 a0 e0 c0 (jW.wrap (BitVec.toNat (HAnd.hAnd (BitVec.ofInt 64 (jW.wrap (jW.wrap (jW.wrap
 (I*131)+jW.wrap n)+7))) (BitVec.ofInt 64 1073741823)):Int)) (jW.wrap (n4+1)) N) (uP N (Q a0 e0 c0 0 I))) (uP N (Q a0 e0 c0 0 I))):uT Q N0 a0 e0 c0 I n4 N:=
  hE Ep h
theorem Fs N n1 I J O U Y(Q:QT [.bool,.sl 0,.i,.i])(h:∀ E:Env,
Bel N (D.sl I 0 J O)->∀ b,N<=b->BCalls prog 31 [.i,.sl 0,.i,.i] [.pb 0 0 0 0,.j n1] [Bx.var [.sv I 0 J O,.j
 U,.j Y]] b (λn a c d e f g=>b<=g->Bel g (D.sl a 0 c d)->wZ E/\uP g (Q (n==0) a c d e
 f))):jB 33 [.pb 0 0 0 0,.int .i64 n1] [.var [.sv I 0 J O,.int .i64 U,.int .i64 Y]] N Q:=
  bE H0 h
theorem Da N I J O U Y(Q:QT [.ag 9,.sl 0,.i,.i])(h:∀ E:Env,
Bel N (D.sl I 0 J O)->cB 33 [.j 4] I J O U Y N (λb a c d n e f=>Br b (cA 9 68 [] a c d n e f (fun
 x a b c d e f=>wZ E/\uP f (Q x a b c d e))) (kA 2 69 [] f (λb f=>kA 2 70 [] f (fun
 f g=>kA 2 71 [.dg 2 b] g (λg h=>kA 2 72 [.dg 2 b,.dg 2 b] h (λh i=>kA 2 71 [.dg 2 h] i (λh i=>kA 2 72 [.dg 2 b,
 .dg 2 b] i (λi j=>kA 2 71 [.dg 2 b] j (λj k=>kA 2 71 [.dg 2 j] k (λj k=>kA 2 71 [.dg 2 b] k (λk l=>∀ m,
 l<=m->BCalls prog 31 [.i,.sl 0,.i,.i] [.pb 0 0 0 0,.j 8] [Bx.var [.sv a 0 c d,.j n,.j e]] m (λa c d e l n o=>m<=o ->
 Bel o (D.sl c 0 d e)->(0<=a/\a<8/\(0+a.toNat:Nat)<([b,f,g,h,i,j,b,k]).length)/\(0+a.toNat:Nat)<([b,
 f,g,h,i,j,b,k]).length/\∀ m,o<=m->BCalls prog 31 [.i,.sl 0,.i,.i] [.pb 0 0 0 0,.j 3] [Bx.var [.sv c 0 d e,.j l,.j
 n]] m (λc d e l n o p=>m<=p->Bel p (D.sl d 0 e l)->(0=0/\0=0)/\∀ m q,p<=q->Fresh N q m [D.ag []] ->
 cA 9 73 [.sv m 4 [] 0,.dg 2 (List.getD [b,f,g,h,i,j,b,k] (0+a.toNat:Nat) default),.j 0,.j (jW.wrap (3+c))] d
 e l n o q (λa b c d e f g=>wZ E/\uP g (Q a b c d e f)))))))))))))))):jB 35 [.pb 0 0 0 0] [.var [.sv I 0 J O,.int .i64 U,.int .i64 Y]] N Q:=
  bE Ga h
theorem DV N I m2 c2 J O U Y aa ab ac(Q:QT [.str,.sl 0,.i,.i,.sl 0])(h:∀ E:Env,
Bel N (D.sl J 0 O U)->Bel N (D.sl none 0 ab ac)->∀ b,N<=b->BCalls prog 31 [.i,.sl 0,.i,.i] [.pb 0 0 0 0,.j
 (jW.wrap ((I.size:Int)+1))] [Bx.var [.sv J 0 O U,.j Y,.j aa]] b (λn a c d e f g=>b<=g->Bel g (D.sl a 0 c d)
 -> ∀ b,g<=b->BCalls prog 31 [.i,.sl 0,.i,.i] [.pb 0 0 0 0,.j 6] [Bx.var [.sv a 0 c d,.j e,.j f]] b (λa c d e f g h=>b<=h
 -> Bel h (D.sl c 0 d e)->Br (a==0) (((0:Int)<=(0:Int)/\0<=n/\n<=(I.size:Int))/\(0<=n/\n<=(I.size:Int)/\(I.size:Int) <=
 (I.size:Int))/\∀ a,h<=a->BCalls prog 74 [.str,.sl 0,.i,.i,.sl 0] [.pb 0 0 0 0,.sb 1 0 0 m2 c2] [Bx.var [.sv c 0 d e,.j f,.j g],
 Bx.arr 9 0 ab ac] a (λs b c d e f g h i j=>a<=j->Bel j (D.sl b 0 c d)->Bel j (D.sl g 0 h i)->jX (ByteArray.size
 (ByteArray.extract I 0 n.toNat)+s.size)/\jX (ByteArray.size (ByteArray.extract I 0 n.toNat++s)+ByteArray.size
 (ByteArray.extract I n.toNat ((I.size:Int)).toNat))/\yg E [.var [.sv none 0 [] 0,.j 0,.j 0],.arr 9 0 [] 0]/\∀ a,j<=a
 -> Q (ByteArray.extract I 0 n.toNat++s++ByteArray.extract I n.toNat ((I.size:Int)).toNat) b c d e f none h i a)) (Br (a==1) (((0 :
 Int)<=(0:Int)/\0<=n/\n<=(I.size:Int))/\yg E [.var [.sv none 0 [] 0,.j 0,.j 0],.arr 9 0 [] 0]/\uP h (Q (ByteArray.extract I 0 n.toNat) c
 d e f g none ab ac)) (yg E [.var [.sv none 0 [] 0,.j 0,.j 0],.arr 9 0 [] 0]/\uP h (Q I c d e f g none ab ac)))))):jB 36 [.pb 0 0 0 0,.str I,.sb 1 0 0 m2 c2] [.var [.sv J 0 O U,.int .i64 Y,.int .i64 aa],.arr 9 0 ab ac] N Q:=
  bE GX h
theorem El N n1 I J O U Y(Q:QT [.i,.sl 0,.i,.i])(h:∀ E:Env,
Bel N (D.sl I 0 J O)->Br (decide (n1<=0)) (wZ E/\uP N (Q 0 I J O U Y))
 (Br (decide (n1<=256)) (cI 67 [] I J O U Y N (λn a b c d e f=>n1≠0/\wZ E/\uP f (Q
 (Int.tmod n n1) a b c d e))) (cI 67 [] I J O U Y N (λa b c d e f g=>cI 67 [] b c d e f g (λb c
 d e f g h=>cI 67 [] c d e f g h (λc d e f g h i=>cI 67 [] d e f g h i (λd e f g h
 i j=>n1≠0/\wZ E/\∀ k,j<=k->Q (Int.tmod (jW.wrap (jW.wrap (jW.wrap
 (jW.wrap (a*16777216)+jW.wrap (b*65536))+jW.wrap (c*256))+d)) n1) e f g h i k))))))):jB 31 [.pb 0 0 0 0,.int .i64 n1] [.var [.sv I 0 J O,.int .i64 U,.int .i64 Y]] N Q:=
  bE H0 h
theorem Dc N I J O U Y(Q:QT [.ag 9,.sl 0,.i,.i])(h:∀ E:Env,
Bel N (D.sl I 0 J O)->cP [D.t (bytes [60,40,92,120,58,73,46,126,40,40,114,101,99,32,112,32,110,58,73,62,60,73,
 62,46,40,105,102,32,40,110,61,48,41,32,60,49,62,32,60,40,120,42,126,40,112,32,40,110,45,49,41,41,41,62,41,41,32,51,41,41,
 62]),D.t (bytes [40,40,114,117,110,32,60,40,92,120,58,73,46,126,40,40,114,101,99,32,112,32,110,58,73,62,60,73,62,46,40,105,102,
 32,40,110,61,48,41,32,60,49,62,32,60,40,120,42,126,40,112,32,40,110,45,49,41,41,41,62,41,41,32,51,41,41,62,41,32,50,41]),
 D.t (bytes [40,108,101,116,32,99,61,60,40,49,43,50,41,62,32,60,40,126,99,42,126,99,41,62,41]),D.t (bytes [60,40,92,121,58,73,46,
 126,40,40,92,122,58,60,73,62,46,60,40,92,121,58,73,46,40,126,122,43,121,41,41,62,41,32,60,121,62,41,41,62]),D.t (bytes [40,
 114,117,110,32,60,40,114,117,110,32,60,53,62,41,62,41]),D.t (bytes [40,108,101,116,32,110,61,55,32,40,114,117,110,32,60,126,40,
 108,105,102,116,32,40,110,42,110,41,41,62,41,41]),D.t (bytes [40,40,114,101,99,32,102,32,120,58,73,62,73,46,40,105,102,32,40,
 120,60,49,41,32,48,32,40,120,43,40,102,32,40,120,45,49,41,41,41,41,41,32,52,41]),D.t (bytes [40,40,114,101,99,32,102,32,120,
 58,73,62,73,46,40,102,32,120,41,41,32,49,41]),D.t (bytes [60,60,126,40,108,105,102,116,32,51,41,62,62]),D.t (bytes [40,114,117,
 110,32,60,40,92,102,58,40,73,62,73,41,46,40,102,32,50,41,41,62,41]),D.t (bytes [60,40,108,101,116,32,103,61,40,92,120,58,73,
 46,120,41,32,126,40,105,102,32,35,116,32,60,40,103,32,49,41,62,32,60,50,62,41,41,62])] 74 9 11 I J O U Y N (λs a
 c d n e _ _ _ f=>kAB 9 13 [.str s] f (λx _ b=>wZ E/\uP b (Q x a c d n e)))):jB 68 [.pb 0 0 0 0] [.var [.sv I 0 J O,.int .i64 U,.int .i64 Y]] N Q:=
  bE H0 h
theorem AQ N a1 e1 c1 x2 n3 n4 I J O U Y(Q:QT [.ag 9,.sl 0,.i,.i])(h:∀ E:Env,
Bel N (D.sl a1 4 e1 c1)->Bel N x2->Bel N (D.sl I 0 J O)->cB 33 [.j 3] I J O U Y N (λb a c d n e f=>
 Br (!b) (∀ b,f<=b->BCalls prog 134 [.ag 9,.bool,.sl 0,.i,.i] [.pb 0 0 0 0,.sv a1 4 e1 c1,.dg 2 x2,.j n3] [Bx.var [.sv a 0 c d,.j n,.j e]] b
 (λx a c d e f g h=>b<=h->Bel h x->Bel h (D.sl c 0 d e)->Br a (wZ E/\uP h (Q x c
 d e f g)) (wR E Q N a1 e1 c1 n3 n4 c d e f g x2 0 b0 b0 0 0 none [] 0 0 none [] 0 none [] 0 h))) (wR E Q N a1 e1 c1
 n3 n4 a c d n e x2 0 b0 b0 0 0 none [] 0 0 none [] 0 none [] 0 f))):jB 73 [.pb 0 0 0 0,.sv a1 4 e1 c1,.dg 2 x2,.int .i64 n3,.int .i64 n4] [.var [.sv I 0 J O,.int .i64 U,.int .i64 Y]] N Q:=
  bE q8 h
theorem Ft N(m1 c1:Nat) I J O Y aa U ab(Q:QT [.str,.sl 0,.i,.i,.sl 0])(h:∀ E:Env,
Bel N (D.sl I 0 J O)->Bel N (D.sl none 0 U ab)->∀ b,N<=b->BCalls prog 31 [.i,.sl 0,.i,.i] [.pb 0 0 0 0,.j (m1:Int)]
 [Bx.var [.sv I 0 J O,.j Y,.j aa]] b (λn a c d e f g=>b<=g->Bel g (D.sl a 0 c d)->(0<=n/\n<(m1:Int)/\(0+n.toNat
 : Nat)<U.length)/\(0+n.toNat:Nat)<U.length/\∃ s,List.getD U (0+n.toNat:Nat) default=D.t s/\yg E [.var [.sv none 0 [] 0,.j 0,.j 0],
 .arr 9 0 [] 0]/\uP g (Q s a c d e f none U ab))):jB 74 [.pb 0 0 0 0,.sb 1 0 0 m1 c1] [.var [.sv I 0 J O,.int .i64 Y,.int .i64 aa],.arr 9 0 U ab] N Q:=
  bE H0 h
theorem Fr N U I Y O J(Q:QT [.i,.sl 0,.i,.i])(h:∀ E:Env,
Bel N (D.sl U 0 I Y)->(0:Int)<=(33:Int)/\(0:Int)<=(45:Int)/\Br (decide (O<(I.length:Int))) (jL O I/\∃ n:Int,I.getD O.toNat jD=D.lit (.int IntKind.u8 n)/\wZ E/\∀ a,
 N<=a->Q (jW.wrap (BitVec.toNat (HAnd.hAnd (BitVec.ofInt 64 (jW.wrap (jW.wrap (BitVec.toNat (HAnd.hAnd (BitVec.ofInt 64
 (jW.wrap (BitVec.toNat (HXor.hXor (BitVec.ofInt 64 (Int.fdiv (jW.wrap (jW.wrap (J*6364136223846793005)+1442695040888963407))
 8589934592)) (BitVec.ofInt 64 (Int.fdiv (jW.wrap (jW.wrap (J*6364136223846793005)+1442695040888963407)) 35184372088832))):Int)))
 (BitVec.ofInt 64 255)):Int)+jW.wrap n))) (BitVec.ofInt 64 255)):Int)) U I Y (jW.wrap (O+1)) (jW.wrap
 (jW.wrap (J*6364136223846793005)+1442695040888963407)) a) (wZ E/\∀ a,N<=a->Q (jW.wrap
 (BitVec.toNat (HAnd.hAnd (BitVec.ofInt 64 (jW.wrap (BitVec.toNat (HXor.hXor (BitVec.ofInt 64 (Int.fdiv (jW.wrap (jW.wrap (J *
 6364136223846793005)+1442695040888963407)) 8589934592)) (BitVec.ofInt 64 (Int.fdiv (jW.wrap (jW.wrap (J*6364136223846793005) +
 1442695040888963407)) 35184372088832))):Int))) (BitVec.ofInt 64 255)):Int)) U I Y O (jW.wrap (jW.wrap (J *
 6364136223846793005)+1442695040888963407)) a)):jB 67 [.pb 0 0 0 0] [.var [.sv U 0 I Y,.int .i64 O,.int .i64 J]] N Q:=
  bE KH h
theorem Em N a1 e1 c1 x2 n3 I J O U Y(Q:QT [.ag 9,.bool,.sl 0,.i,.i])(h:∀ E:Env,
Bel N (D.sl a1 4 e1 c1)->Bel N x2->Bel N (D.sl I 0 J O)->zt E Q N a1 e1 c1 n3 0 0 0 I J O U Y
 x2 0 b0 b0 0 0 none [] 0 0 none [] 0 none [] 0 [] 0 N):jB 134 [.pb 0 0 0 0,.sv a1 4 e1 c1,.dg 2 x2,.int .i64 n3] [.var [.sv I 0 J O,.int .i64 U,.int .i64 Y]] N Q:=
  bE BJ h
theorem BU E(Q:QT [.ag 9,.sl 0,.i,.i]) N0 a1 e1 c1 n3 n4 J O U Y aa I ab ac ae ah ai aj ak al ao aq au aw ax ay az N(h :
Br (decide (n4<2)) (cA 9 135 [.dg 2 I,.j n3] J O U Y aa N (λx a b c n d e=>wZ E/\uP e
 (Q x a b c n d))) (cB 33 [.j 3] J O U Y aa N (λb a c d e f g=>Br b (cA 9 136 [.sv a1 4 e1 c1,.dg 2 I,.j n3,.j n4] a c
 d e f g (λa b c d e f g=>wZ E/\uP g (Q a b c d e f))) (∃ b:Int,(I.cell 0)
 = D.j b/\Br (b==1) (cA 9 137 [.sv a1 4 e1 c1,.dg 2 I,.j n3,.j n4] a c d e f g (λa b c d e f g=>wZ E/\uP g (Q a b c d e f))) (Br (b==2) (cA 9 137 [.sv a1 4 e1 c1,.dg 2 I,.j n3,.j n4] a c d e f g (λa
 b c d e f g=>wZ E/\uP g (Q a b c d e f))) (Br (b==3) (cP [D.t (bytes [120]),D.t
 (bytes [121])] 74 9 2 a c d e f g (λs a b c d e _ _ _ f=>∃ g h,∃ i:Nat,(I.cell 1)=D.sl g 2 h i/\jL 0 h/\∃ g i,∃ j:Nat,(I.cell 1)=D.sl g 2 i j/\jL 0 i /\
 ∃ g j,∃ k:Nat,(I.cell 1)=D.sl g 2 j k/\jL 1 j/\kL 4 139 [.sv a1 4 e1 c1,.str s,.dg 2
 (i.getD 0 jD),.j n3] f (λf g i k=>cA 9 73 [.sv f 4 g i,.dg 2 (j.getD 1 jD),.j n3,.j (jW.wrap
 (n4 - 1))] a b c d e k (λa b c d e f g=>kA 9 138 [.str s,.dg 2 (h.getD 0 jD),.dg 9 a] g (λa g
 => wZ E/\uP g (Q a b c d e f)))))) (∃ b h,∃ i:Nat,(I.cell 1)=D.sl b 2 h i
 /\ jL 0 h/\kB 140 [.dg 2 (h.getD 0 jD)] g (λb g=>Br b (cB 33 [.j 4] a c d e f
 g (λa b c d e f g=>Br a (∃ a h,∃ i:Nat,(I.cell 1)=D.sl a 2 h i/\jL 0 h/\cA 9 73 [.sv a1 4 e1 c1,.dg 2 (h.getD 0 jD),.j n3,.j (jW.wrap (n4 - 1))] b c d e f g (fun
 a b c d e f g=>(1=([a]).length/\1=1)/\∀ h,ApA h [a]->∀ i,g<=i->xj i [h]->ACalls prog 141 [.ag 9] [.j
 13,.sv h 9 [a] 1] i (λa g=>i<=g->Off [h] a/\(Bel g a->wZ E/\uP g (Q a b c
 d e f))))) (va E Q N0 a1 e1 c1 n3 n4 b c d e f I ab ac ae ah ai aj ak al ao aq au aw ax ay
 az g))) (va E Q N0 a1 e1 c1 n3 n4 a c d e f I ab ac ae ah ai aj ak al ao aq au aw ax ay az
 g))))))))):wR E Q N0 a1 e1 c1 n3 n4 J O U Y aa I ab ac ae ah ai aj ak al ao aq au aw ax ay az N:=
  hE q8 h
theorem qf E(Q:QT [.ag 9,.bool,.sl 0,.i,.i]) N0 a1 e1 c1 n3 ab a7 I J O U Y aa y1 ac ae ah ai aj ak al ao aq au aw ax ay az a6 r3 q3 N(h :
Br (decide (I<(e1.length:Int))) (jL I e1/\∃ n:Int,(if 0=0 then D.cell (e1.getD I.toNat jD) 3 else D.sub
 (e1.getD I.toNat jD) 3 0)=D.j n/\Br (n==n3) (jL I e1/\kB 199 [.dg 2 (if 2=0 then D.cell (e1.getD I.toNat jD) 1 else D.sub (e1.getD I.toNat jD) 1 2),.dg 2 y1] N (λb a=>Br b (jL I e1/\∃ s,(if 0=0 then D.cell
 (e1.getD I.toNat jD) 0 else D.sub (e1.getD I.toNat jD) 0 0)=D.t s/\kI 152 [.sv a1 4 e1 c1,.str s] a (λa b=>Br (a==I)
 (jL I e1/\∃ a,(if 0=0 then D.cell (e1.getD I.toNat jD) 0 else D.sub (e1.getD I.toNat jD) 0 0)=D.t
 a/\kA 9 77 [.str a] b (λx a=>(ab=r3.length/\a7=q3)/\zB r3 [x] 136/\∀(c:Nat),zt E Q N0 a1 e1 c1 n3 (r3++[x]).length
 c (jW.wrap (I+1)) J O U Y aa y1 ac ae ah ai aj ak al ao aq au aw ax ay az a6 (r3++[x]) c a))
 (zt E Q N0 a1 e1 c1 n3 ab a7 (jW.wrap (I+1)) J O U Y aa y1 ac ae ah ai aj ak al ao aq au aw
 ax ay az a6 r3 q3 b))) (zt E Q N0 a1 e1 c1 n3 ab a7 (jW.wrap (I+1)) J O U Y aa y1 ac ae ah ai aj
 ak al ao aq au aw ax ay az a6 r3 q3 a))) (zt E Q N0 a1 e1 c1 n3 ab a7 (jW.wrap (I+1)) J O U Y aa
 y1 ac ae ah ai aj ak al ao aq au aw ax ay az a6 r3 q3 N)) (Br ((ab:Int)==0) (wZ E/\∀
 a,N<=a->Q (D.ag [D.j 0,D.t b0,D.t b0,D.j 0,D.j 0,jN,D.j 0,jN,D.sl none 9 [] 0]) false J O U Y aa a) (∀
 b,N<=b->BCalls prog 31 [.i,.sl 0,.i,.i] [.pb 0 0 0 0,.j (ab:Int)] [Bx.var [.sv J 0 O U,.j Y,.j aa]] b (λa c d e f g h
 => b<=h->Bel h (D.sl c 0 d e)->(0<=a/\a<(ab:Int)/\(0+a.toNat:Nat)<r3.length)/\(0+a.toNat:Nat)<r3.length/\wZ E/\uP h (Q (List.getD r3 (0+a.toNat:Nat) default) true c d e f g))))):zt E Q N0 a1 e1 c1 n3 ab a7 I J O U Y aa y1 ac ae ah ai aj ak al ao aq au aw ax ay az a6 r3 q3 N:=
  hE BJ h
theorem wJ N x1 n2 I J O U Y(Q:QT [.ag 9,.sl 0,.i,.i])(h:∀ E:Env,
Bel N x1->Bel N (D.sl I 0 J O)->∃ n:Int,(x1.cell 0)=D.j n/\Br (n==1) (∀ b,N<=b->BCalls prog 31 [.i,.sl 0,.i,.i]
 [.pb 0 0 0 0,.j 4] [Bx.var [.sv I 0 J O,.j U,.j Y]] b (λa c d e f g h=>b<=h->Bel h (D.sl c 0 d e)->kA 9 149 [.j a]
 h (λx a=>wZ E/\uP a (Q x c d e f g)))) (Br (n==2) (∀ a,N<=a->BCalls prog 31 [.i,.sl 0,.i,.i] [.pb
 0 0 0 0,.j 2] [Bx.var [.sv I 0 J O,.j U,.j Y]] a (λb c d e f g h=>a<=h->Bel h (D.sl c 0 d e)->kA 9 80
 [.j b] h (λa b=>wZ E/\uP b (Q a c d e f g)))) (Br (n==3) (∃ a b,∃ c:Nat,(x1.cell
 1)=D.sl a 2 b c/\jL 0 b/\∃ a c,∃ d:Nat,(x1.cell 1)=D.sl a 2 c d/\jL 1 c/\cA 9 135 [.dg 2 (c.getD 1 jD),.j n2] I J O U Y N (λa c d e f g h=>kA 9
 138 [.str (bytes [119]),.dg 2 (b.getD 0 jD),.dg 9 a] h (λa b=>wZ E/\uP b (Q a c d
 e f g)))) (∃ a b,∃ c:Nat,(x1.cell 1)=D.sl a 2 b c/\jL 0 b/\cA 9 135 [.dg 2 (b.getD 0 jD),.j (jW.wrap (n2+1))] I J O U Y N (λa b c d e f g=>w3 (1=([a]).length/\1=1) (∀ h
 i,g<=i->Fresh N i h [D.ag [a],jN,jN]->wZ E/\∀ g,i<=g->Q (D.ag
 [D.j 10,D.t b0,D.t b0,D.j 0,D.j 0,jN,D.j 0,jN,D.sl h 9 [a] 1]) b c d e f g)))))):jB 135 [.pb 0 0 0 0,.dg 2 x1,.int .i64 n2] [.var [.sv I 0 J O,.int .i64 U,.int .i64 Y]] N Q:=
  bE IV h
theorem II N a1 e1 c1 Y I n4 J O U aa ab(Q:QT [.ag 9,.sl 0,.i,.i])(h:∀ E:Env,
Bel N (D.sl a1 4 e1 c1)->Bel N Y->Bel N (D.sl J 0 O U)->cP [D.t (bytes [120]),D.t (bytes [121]),D.t (bytes [122])] 74 9 3
 J O U aa ab N (λs a b c n d _ _ _ e=>∀ f,e<=f->BCalls prog 31 [.i,.sl 0,.i,.i] [.pb 0 0 0 0,.j 5] [Bx.var [.sv a 0
 b c,.j n,.j d]] f (λa b c d e g h=>f<=h->Bel h (D.sl b 0 c d)->Br (a==0) (kA 2 70 [] h (λx a=>cA 9 73 [.sv a1 4
 e1 c1,.dg 2 x,.j I,.j (jW.wrap (n4 - 1))] b c d e g a (λa b c d e f g=>cA 9 73 [.sv a1 4 e1 c1,.dg 2 Y,.j I,.j
 (jW.wrap (n4 - 1))] b c d e f g (λb c d e f g h=>cA 9 73 [.sv a1 4 e1 c1,.dg 2 Y,.j I,.j (jW.wrap (n4 -
 1))] c d e f g h (λc d e f g h i=>(3=([a,b,c]).length/\3=3)/\∀ j,ApA j [a,b,c]->∀ k,i<=k ->
 xj k [j]->ACalls prog 141 [.ag 9] [.j 5,.sv j 9 [a,b,c] 3] k (λa b=>k<=b->Off [j] a/\(Bel b a->wZ E/\uP b (Q a d e f g h)))))))) (Br (a==1) (cA 2 200 [.j I] b c d e g h (λa b c d e f
 g=>cA 9 73 [.sv a1 4 e1 c1,.dg 2 a,.j I,.j (jW.wrap (n4 - 1))] b c d e f g (λb c d e f g h=>kL 4 139
 [.sv a1 4 e1 c1,.str s,.dg 2 a,.j I] h (λa h i j=>cA 9 73 [.sv a 4 h i,.dg 2 Y,.j I,.j (jW.wrap (n4 - 1))] c d
 e f g j (λa c d e f g h=>kA 9 201 [.str s,.dg 9 b,.dg 9 a] h (λa b=>wZ E/\uP b (Q a c d e f g))))))) (Br (a==2) (cA 2 200 [.j I] b c d e g h (λa b c d e f g=>kL 4 139
 [.sv a1 4 e1 c1,.str s,.dg 2 a,.j I] g (λg h i j=>cA 9 73 [.sv g 4 h i,.dg 2 Y,.j I,.j (jW.wrap (n4 - 1))] b
 c d e f j (λb c d e f g h=>kA 9 138 [.str s,.dg 2 a,.dg 9 b] h (λb h=>cA 9 73 [.sv a1 4 e1 c1,.dg 2
 a,.j I,.j (jW.wrap (n4 - 1))] c d e f g h (λa c d e f g h=>(2=([b,a]).length/\2=2)/\∀
 i,ApA i [b,a]->∀ j,h<=j->xj j [i]->ACalls prog 141 [.ag 9] [.j 7,.sv i 9 [b,a] 2] j (λa b=>j<=b ->
 Off [i] a/\(Bel b a->wZ E/\uP b (Q a c d e f g))))))))) (Br (a==3) (kI 202 [.dg 2
 Y] h (λa f=>Br (decide (jW.wrap (I+a)<2)) (kL 4 203 [.sv a1 4 e1 c1,.j I] f (λa f h i=>kA 2 71 [.dg 2 Y] i
 (λi j=>cA 9 73 [.sv a 4 f h,.dg 2 i,.j I,.j (jW.wrap (n4 - 1))] b c d e g j (λa b c d e f
 g=>(1=([a]).length/\1=1)/\∀ h,ApA h [a]->∀ i,g<=i->xj i [h]->ACalls prog 141 [.ag 9] [.j 12,.sv h 9 [a] 1] i
 (λa g=>i<=g->Off [h] a/\(Bel g a->wZ E/\uP g (Q a b c d e f))))))) (Br
 (decide (I>0)) (kA 2 71 [.dg 2 Y] f (λa f=>cA 9 73 [.sv a1 4 e1 c1,.dg 2 a,.j (jW.wrap (I - 1)),.j (jW.wrap (n4 - 1))]
 b c d e g f (λa b c d e f g=>(1=([a]).length/\1=1)/\∀ h,ApA h [a]->∀ i,g<=i->xj i [h]
 -> ACalls prog 141 [.ag 9] [.j 11,.sv h 9 [a] 1] i (λa g=>i<=g->Off [h] a/\(Bel g a->wZ E/\uP g (Q a b c d e f)))))) (cA 9 135 [.dg 2 Y,.j I] b c d e g f (λa b c d e f g=>wZ E/\uP g (Q a b c d e f)))))) (Br (decide (I>0)) (kA 2 71 [.dg 2 Y] h (λa f=>cA 9 73 [.sv
 a1 4 e1 c1,.dg 2 a,.j (jW.wrap (I - 1)),.j (jW.wrap (n4 - 1))] b c d e g f (λa b c d e f g=>(1 =
 ([a]).length/\1=1)/\∀ h,ApA h [a]->∀ i,g<=i->xj i [h]->ACalls prog 141 [.ag 9] [.j 11,.sv h 9 [a] 1] i (λa g
 => i<=g->Off [h] a/\(Bel g a->wZ E/\uP g (Q a b c d e f)))))) (cA 9 135 [.dg 2
 Y,.j I] b c d e g h (λa b c d e f g=>wZ E/\uP g (Q a b c d e
 f)))))))))):jB 136 [.pb 0 0 0 0,.sv a1 4 e1 c1,.dg 2 Y,.int .i64 I,.int .i64 n4] [.var [.sv J 0 O U,.int .i64 aa,.int .i64 ab]] N Q:=
  bE MK h
theorem F3 N a1 e1 c1 x2 n3 n4 I J O U Y(Q:QT [.ag 9,.sl 0,.i,.i])(h:∀ E:Env,
Bel N (D.sl a1 4 e1 c1)->Bel N x2->Bel N (D.sl I 0 J O)->kA 2 69 [] N (λx b=>kA 2 70 [] b (λb d=>∃ n:Int,
 (x2.cell 0)=D.j n/\Br (n==1) (cP [D.t (bytes [43]),D.t (bytes [42]),D.t (bytes [45]),D.t (bytes [43])] 74 9 4 I J O U Y d (λs a
 b c d e _ _ _ f=>cA 9 73 [.sv a1 4 e1 c1,.dg 2 x,.j n3,.j (jW.wrap (n4 - 1))] a b c d e f (λa b c d e f g=>
 cA 9 73 [.sv a1 4 e1 c1,.dg 2 x,.j n3,.j (jW.wrap (n4 - 1))] b c d e f g (λb c d e f g h=>(2=([a,b]).length /\
 2=2)/\∀ i,ApA i [a,b]->∀ j,h<=j->xj j [i]->ACalls prog 204 [.ag 9] [.str s,.sv i 9 [a,b] 2] j (λa b=>j<=b
 -> Off [i] a/\(Bel b a->wZ E/\uP b (Q a c d e f g))))))) (∀ a,d<=a->BCalls prog 31 [.i,
 .sl 0,.i,.i] [.pb 0 0 0 0,.j 4] [Bx.var [.sv I 0 J O,.j U,.j Y]] a (λc d e f g h i=>a<=i->Bel i (D.sl d
 0 e f)->Br (c==0) (cA 9 73 [.sv a1 4 e1 c1,.dg 2 b,.j n3,.j (jW.wrap (n4 - 1))] d e f g h i (λa b c d e f
 g=>(1=([a]).length/\1=1)/\∀ h,ApA h [a]->∀ i,g<=i->xj i [h]->ACalls prog 204 [.ag 9] [.str (bytes [33]),.sv h 9 [a] 1]
 i (λa g=>i<=g->Off [h] a/\(Bel g a->wZ E/\uP g (Q a b c d e f))))) (Br (c
 == 1) (cP [D.t (bytes [38]),D.t (bytes [124])] 74 9 2 d e f g h i (λa c d e f g _ _ _ h=>cA 9 73 [.sv a1 4 e1 c1,.dg
 2 b,.j n3,.j (jW.wrap (n4 - 1))] c d e f g h (λc d e f g h i=>cA 9 73 [.sv a1 4 e1 c1,.dg 2 b,.j n3,.j
 (jW.wrap (n4 - 1))] d e f g h i (λb d e f g h i=>(2=([c,b]).length/\2=2)/\∀ j,ApA j [c,b]
 -> ∀ k,i<=k->xj k [j]->ACalls prog 204 [.ag 9] [.str a,.sv j 9 [c,b] 2] k (λa b=>k<=b->Off [j] a/\(Bel b a
 -> wZ E/\uP b (Q a d e f g h))))))) (cP [D.t (bytes [61]),D.t (bytes [60])] 74 9 2 d e f g
 h i (λa b c d e f _ _ _ g=>cA 9 73 [.sv a1 4 e1 c1,.dg 2 x,.j n3,.j (jW.wrap (n4 - 1))] b c d e
 f g (λb c d e f g h=>cA 9 73 [.sv a1 4 e1 c1,.dg 2 x,.j n3,.j (jW.wrap (n4 - 1))] c d e f g h (fun
 c d e f g h i=>(2=([b,c]).length/\2=2)/\∀ j,ApA j [b,c]->∀ k,i<=k->xj k [j]->ACalls prog 204
 [.ag 9] [.str a,.sv j 9 [b,c] 2] k (λa b=>k<=b->Off [j] a/\(Bel b a->wZ E /\
 uP b (Q a d e f g h))))))))))))):jB 137 [.pb 0 0 0 0,.sv a1 4 e1 c1,.dg 2 x2,.int .i64 n3,.int .i64 n4] [.var [.sv I 0 J O,.int .i64 U,.int .i64 Y]] N Q:=
  bE KR h
theorem HJ E(Q:QT [.ag 9,.sl 0,.i,.i]) N0 a1 e1 c1 n3 n4 I J O U Y y1 aa ab ac ae ah ai aj ak al ao aq au aw ax ay N(h :
∃ a b,∃ c:Nat,(y1.cell 1)=D.sl a 2 b c/\jL 0 b/\cA 9 73 [.sv a1 4 e1 c1,.dg 2 (b.getD 0 jD),
 .j (jW.wrap (n3+1)),.j (jW.wrap (n4 - 1))] I J O U Y N (λx a b c n d e=>(1=([x]).length/\1=1)/\∀ f,
 ApA f [x]->∀ g,e<=g->xj g [f]->ACalls prog 141 [.ag 9] [.j 10,.sv f 9 [x] 1] g (λe h=>g<=h->Off [f] e/\(Bel h e->wZ E/\uP h (Q e a b c n d))))):va E Q N0 a1 e1 c1 n3 n4 I J O U Y y1 aa ab ac ae ah ai aj ak al ao aq au aw ax ay N:=
  hE q8 h
theorem F4 N n1 I J O U Y(Q:QT [.ag 2,.sl 0,.i,.i])(h:∀ E:Env,
Bel N (D.sl I 0 J O)->kA 2 69 [] N (λx d=>Br (decide (n1<2)) (cB 33 [.j 2] I J O U Y d (λb a c d n
 e f=>Br b (kA 2 71 [.dg 2 x] f (λb f=>wZ E/\uP f (Q b a c d n e))) (cB 33 [.j 3] a c d n e f
 (λa b c d e f g=>Br a (kA 2 72 [.dg 2 x,.dg 2 x] g (λa g=>wZ E/\uP g (Q a b c
 d e f))) (wZ E/\uP g (Q x b c d e f)))))) (cB 33 [.j 3] I J O U Y d (λa b
 c d e f g=>Br a (kA 2 72 [.dg 2 x,.dg 2 x] g (λa g=>wZ E/\uP g (Q a b c d e
 f))) (wZ E/\uP g (Q x b c d e f))))) ):jB 200 [.pb 0 0 0 0,.int .i64 n1] [.var [.sv I 0 J O,.int .i64 U,.int .i64 Y]] N Q:=
  bE KW h
end Go.Proofs.YtlaniepnglheoaaGreatDoor
set_option maxRecDepth 100000
namespace Go.Proofs.YtlaniepnglheoaaGreatDoor
open Go Go.Proofs Go.Proofs.Tryz
variable {f:aL}
def shA:aL->List Sh:=λf=>match UI f [(149,[.pk,.int .i64,.str,.str,.int .i64,.dc,.dc,.dc,.dc,.row 35 9]),(80,[.pk,.int .i64,.str,.str,.int .i64,.dc,.dc,.dc,.dc,.row 35 9]),(77,[.pk,.int .i64,.str,.str,.int .i64,.dc,.dc,.dc,.dc,.row 35 9]),(142,[.row 0 1000007,.pk,.int .i64,.str,.str,.int .i64,.dc,.dc,.dc,.dc,.row 35 9]),(75,[.row 0 1000007,.pk,.int .i64,.str,.str,.int .i64,.dc,.dc,.dc,.dc,.row 35 9])]with
 | []=>sh f
 | l=>l
theorem VL {rs}{Q:QT rs}{N} H{args F}(h:F)(hc:xt prog f=true:=by kernel_rfl)(I:F=Mi prog shA f rs Q N H 400 args:=by kernel_rfl):ACalls prog f rs args N Q:=Wo mixed hc I h
theorem Q2 {full}{Q:QT full}{N} H{args bx}{F:Env->Prop}(h:∀ E,F E)(hc:xt prog f=true:=by kernel_rfl)(I:∀ E,F E=Mh prog shA f full Q N H 400 args bx E:=by intro E;kernel_rfl):BCalls prog f full args bx N Q:=Su mixed hc I h
theorem EF {rs}{Q:QT rs}{N0 M} H{I st F}(h:F)(J:F=FR st λst=>W prog shA f rs Q N0 M H 400 true I st:=by kernel_rfl):AT prog f rs Q N0 M I st:=YA mixed J h
def KJ:Hint:=⟨[],[],[(4,hs 6 [ec 4 [21]]),(6,[en 0,en 1,en 2,en 3,eh 4,ec 5 [27,31],eh 6])]⟩
def zr:Hint:=⟨[hc 18 [0,1,4,5,6,7] [] [(5,8,35,9)]],[hc 11 [0,1,4,5] [] [(5,8,35,9)],hc 13 [0,1,4,5] [] [(5,8,35,9)],hc 16 [0,1,4,5] [] [(5,8,35,9)]],[(20,[en 0,en 1,en 2,en 3,en 4,eh 5,{ i:=6,hard:=true,cl:=[69],fs:=[5,69] },eh 7,en 8,eh 9])]⟩
def rl:Hint:=⟨[hc 10 [2,3,4,5],hc 15 [2,3,6]],[],[(6,[en 0,en 1,eh 2,en 3,eh 4,en 5,eh 6]),(12,hs 3 [ec 1 [34]]),(17,hs 4 [ec 2 [42,43]])]⟩
def KM:Hint:=⟨[],[],[(10,[en 0,en 1,eh 2,{ i:=3,hard:=true,cl:=[32],fs:=[3,32] },eh 4,en 5,eh 6])]⟩
def yJ E(Q:QT [.pk,.i,.str,.str,.i,.dc,.dc,.dc,.dc,.row 35 9,.sl 0,.i,.i]) N0 n1 I J O U Y aa ab ac ae ah ai aj ak al ao aq au aw ax ay az a6 a7 a8 ba bb bc bg bh bi bj bm bp bq r3 q3 N:=jP 75 11 E Q N0 (.pb 0 0 0 0::.j n1::an 2 (.pb 1 0 0 0::.pb 2 0 0 0::an 68 [])) [.var [.sv I 0 J O,.j U,.j Y],jV aa ab ac ae ah ai aj ak al ao aq au aw ax ay,.var [.j az,.str a6,.str a7,.j a8,.j ba,.sv bb 2 bc bg,.j bh,.sv bi 2 bj bm,.sb 3 9 0 bp bq],.arr 35 9 r3 q3] N
def wl E(Q:QT [.ag 2,.sl 0,.i,.i]) N0 n4 n5 I J O U Y aa ab ac ae y2 N:=jO 78 10 E Q N0 (an 2 (.pb 1 0 0 0::.pb 2 0 0 0::.j n4::.j n5::an 40 [])) [.var [.sv I 0 J O,.j U,.j Y],.var [.j aa,.sv ab 2 ac ae],.vd y2 2] N
def wm E(Q:QT [.ag 2,.sl 0,.i,.i]) N0 n6 I J O U Y aa ab ac ae y2 N:=jO 78 15 E Q N0 (an 2 (.pb 1 0 0 0::.pb 2 0 0 0::an 2 (.j n6::an 39 []))) [.var [.sv I 0 J O,.j U,.j Y],.var [.j aa,.sv ab 2 ac ae],.vd y2 2] N
def vR E(Q:QT [.pk,.i,.str,.str,.i,.dc,.dc,.dc,.dc,.row 35 9,.sl 0,.i,.i]) N0 n1 I J O U Y aa ab ac ae ah ai aj ak al ao aq au aw ax ay az a6 a7 a8 ba bb bc bg bh bi bj bm r3 q3 N:=jP 75 13 E Q N0 (.pb 0 0 0 0::.j n1::an 2 (.pb 1 0 0 0::.pb 2 0 0 0::an 68 [])) [.var [.sv I 0 J O,.j U,.j Y],jV aa ab ac ae ah ai aj ak al ao aq au aw ax ay,.var [.j az,.str a6,.str a7,.j a8,.dc ba,.dc bb,.j bc,.sv bg 2 bh bi,.sb 3 9 0 bj bm],.arr 35 9 r3 q3] N
def vS E(Q:QT [.pk,.i,.str,.str,.i,.dc,.dc,.dc,.dc,.row 35 9,.sl 0,.i,.i]) N0 n1 I J O U Y aa ab ac ae ah ai aj ak al ao aq au aw ax ay az a6 a7 a8 ba bb bc bg bh bi bj bm bp bq r3 q3 N:=jP 75 13 E Q N0 (.pb 0 0 0 0::.j n1::an 2 (.pb 1 0 0 0::.pb 2 0 0 0::an 68 [])) [.var [.sv I 0 J O,.j U,.j Y],jV aa ab ac ae ah ai aj ak al ao aq au aw ax ay,.var [.j az,.str a6,.str a7,.j a8,.j ba,.sv bb 2 bc bg,.j bh,.sv bi 2 bj bm,.sb 3 9 0 bp bq],.arr 35 9 r3 q3] N
def tS E(Q:QT [.pk,.i,.str,.str,.i,.dc,.dc,.dc,.dc,.row 35 9,.sl 0,.i,.i]) N0 n1 I J O U Y aa ab ac ae ah ai aj ak al ao aq au aw ax ay az a6 a7 a8 ba bb bc bg bh bi r3 q3 N:=jP 75 16 E Q N0 (.pb 0 0 0 0::.j n1::an 2 (.pb 1 0 0 0::.pb 2 0 0 0::an 68 [])) [.var [.sv I 0 J O,.j U,.j Y],jV aa ab ac ae ah ai aj ak al ao aq au aw ax ay,.var [.j az,.str a6,.str a7,.j a8,.dc ba,.dc bb,.dc bc,.dc bg,.sb 3 9 0 bh bi],.arr 35 9 r3 q3] N
def vT E(Q:QT [.pk,.i,.str,.str,.i,.dc,.dc,.dc,.dc,.row 35 9,.sl 0,.i,.i]) N0 n1 I J O U Y aa ab ac ae ah ai aj ak al ao aq au aw ax ay az a6 a7 a8 ba bb bc bg bh bi bj bm r3 q3 N:=jP 75 16 E Q N0 (.pb 0 0 0 0::.j n1::an 2 (.pb 1 0 0 0::.pb 2 0 0 0::an 68 [])) [.var [.sv I 0 J O,.j U,.j Y],jV aa ab ac ae ah ai aj ak al ao aq au aw ax ay,.var [.j az,.str a6,.str a7,.j a8,.dc ba,.dc bb,.j bc,.sv bg 2 bh bi,.sb 3 9 0 bj bm],.arr 35 9 r3 q3] N
def vU E(Q:QT [.pk,.i,.str,.str,.i,.dc,.dc,.dc,.dc,.row 35 9,.sl 0,.i,.i]) N0 n1 I J O U Y aa ab ac ae ah ai aj ak al ao aq au aw ax ay az a6 a7 a8 ba bb bc bg bh bi bj bm r3 q3 N:=jP 75 16 E Q N0 (.pb 0 0 0 0::.j n1::an 2 (.pb 1 0 0 0::.pb 2 0 0 0::an 68 [])) [.var [.sv I 0 J O,.j U,.j Y],jV aa ab ac ae ah ai aj ak al ao aq au aw ax ay,.var [.j az,.str a6,.str a7,.j a8,.j ba,.sv bb 2 bc bg,.dc bh,.dc bi,.sb 3 9 0 bj bm],.arr 35 9 r3 q3] N
def vV E(Q:QT [.pk,.i,.str,.str,.i,.dc,.dc,.dc,.dc,.row 35 9,.sl 0,.i,.i]) N0 n1 I J O U Y aa ab ac ae ah ai aj ak al ao aq au aw ax ay az a6 a7 a8 ba bb bc bg bh bi bj bm bp bq r3 q3 N:=jP 75 16 E Q N0 (.pb 0 0 0 0::.j n1::an 2 (.pb 1 0 0 0::.pb 2 0 0 0::an 68 [])) [.var [.sv I 0 J O,.j U,.j Y],jV aa ab ac ae ah ai aj ak al ao aq au aw ax ay,.var [.j az,.str a6,.str a7,.j a8,.j ba,.sv bb 2 bc bg,.j bh,.sv bi 2 bj bm,.sb 3 9 0 bp bq],.arr 35 9 r3 q3] N
def vW E(Q:QT [.pk,.i,.str,.str,.i,.dc,.dc,.dc,.dc,.row 35 9,.sl 0,.i,.i]) N0 n1 n6 n7 I J O U Y aa ab ac ae ah ai aj ak al ao aq au aw ax ay az a6 a7 a8 ba bb bc bg bh bi r3 q3 N:=jO 75 18 E Q N0 (.pb 0 0 0 0::.j n1::an 2 (.pb 1 0 0 0::.pb 2 0 0 0::.j n6::.j n7::an 66 [])) [.var [.sv I 0 J O,.j U,.j Y],jV aa ab ac ae ah ai aj ak al ao aq au aw ax ay,.var [.j az,.str a6,.str a7,.j a8,.dc ba,.dc bb,.dc bc,.dc bg,.sb 3 9 0 bh bi],.arr 35 9 r3 q3] N
def xo E(Q:QT [.pk,.i,.str,.str,.i,.dc,.dc,.dc,.dc,.row 35 9,.sl 0,.i,.i]) N0 n1 n6 n7 I J O U Y aa ab ac ae ah ai aj ak al ao aq au aw ax ay az a6 a7 a8 ba bb bc bg bh bi bj bm r3 q3 N:=jO 75 18 E Q N0 (.pb 0 0 0 0::.j n1::an 2 (.pb 1 0 0 0::.pb 2 0 0 0::.j n6::.j n7::an 66 [])) [.var [.sv I 0 J O,.j U,.j Y],jV aa ab ac ae ah ai aj ak al ao aq au aw ax ay,.var [.j az,.str a6,.str a7,.j a8,.dc ba,.dc bb,.j bc,.sv bg 2 bh bi,.sb 3 9 0 bj bm],.arr 35 9 r3 q3] N
def xp E(Q:QT [.pk,.i,.str,.str,.i,.dc,.dc,.dc,.dc,.row 35 9,.sl 0,.i,.i]) N0 n1 n6 n7 I J O U Y aa ab ac ae ah ai aj ak al ao aq au aw ax ay az a6 a7 a8 ba bb bc bg bh bi bj bm r3 q3 N:=jO 75 18 E Q N0 (.pb 0 0 0 0::.j n1::an 2 (.pb 1 0 0 0::.pb 2 0 0 0::.j n6::.j n7::an 66 [])) [.var [.sv I 0 J O,.j U,.j Y],jV aa ab ac ae ah ai aj ak al ao aq au aw ax ay,.var [.j az,.str a6,.str a7,.j a8,.j ba,.sv bb 2 bc bg,.dc bh,.dc bi,.sb 3 9 0 bj bm],.arr 35 9 r3 q3] N
def xq E(Q:QT [.pk,.i,.str,.str,.i,.dc,.dc,.dc,.dc,.row 35 9,.sl 0,.i,.i]) N0 n1 n6 n7 I J O U Y aa ab ac ae ah ai aj ak al ao aq au aw ax ay az a6 a7 a8 ba bb bc bg bh bi bj bm bp bq r3 q3 N:=jO 75 18 E Q N0 (.pb 0 0 0 0::.j n1::an 2 (.pb 1 0 0 0::.pb 2 0 0 0::.j n6::.j n7::an 66 [])) [.var [.sv I 0 J O,.j U,.j Y],jV aa ab ac ae ah ai aj ak al ao aq au aw ax ay,.var [.j az,.str a6,.str a7,.j a8,.j ba,.sv bb 2 bc bg,.j bh,.sv bi 2 bj bm,.sb 3 9 0 bp bq],.arr 35 9 r3 q3] N
theorem JH N n0(Q:QT [.pk,.i,.str,.str,.i,.dc,.dc,.dc,.dc,.row 35 9])(h :
uP N (Q 2 b0 b0 n0 (D.j 0) jN (D.j 0) jN [] 0)):jC 149 [.j n0] N Q:=
 VL H0 h
theorem IE N n0(Q:QT [.pk,.i,.str,.str,.i,.dc,.dc,.dc,.dc,.row 35 9])(h :
uP N (Q 3 b0 b0 n0 (D.j 0) jN (D.j 0) jN [] 0)):jC 80 [.j n0] N Q:=
 VL H0 h
theorem BZ N I(Q:QT [.pk,.i,.str,.str,.i,.dc,.dc,.dc,.dc,.row 35 9])(h :
uP N (Q 1 I b0 0 (D.j 0) jN (D.j 0) jN [] 0)):jC 77 [.str I] N Q:=
 VL H0 h
theorem AN N a0 e0 c0(Q:QT [.i])(h :
Bel N (D.sl a0 0 e0 c0)->∀ b,N<=b->ACalls prog 32 [.cu] [.sv a0 0 e0 c0] b (λa c d n e f=>b<=f->∀ b,f<=b->BCalls prog 31 [.i,.sl
 0,.i,.i] [.pb 0 0 0 0,.j 9] [Bx.var [.sv a 0 c d,.j n,.j e]] b (λa c d e _ _ f=>b<=f->Bel f (D.sl c 0 d e)->uP f (Q
 (jW.wrap (a - 1)))))):jC 11 [.sv a0 0 e0 c0] N Q:=
  VL H0 h
theorem Fy N I J O U Y(Q:QT [.ag 9,.sl 0,.i,.i])(h:∀ E:Env,
Bel N (D.sl I 0 J O)->∀ b,N<=b->BCalls prog 31 [.i,.sl 0,.i,.i] [.pb 0 0 0 0,.j 4] [Bx.var [.sv I 0 J O,.j
 U,.j Y]] b (λn a c d e f g=>b<=g->Bel g (D.sl a 0 c d)->∀ b,g<=b->BCalls prog 75 [.pk,.i,.str,.str,.i,.dc,.dc,.dc,.dc,
 .row 35 9,.sl 0,.i,.i] [.pb 0 0 0 0,.j (jW.wrap (1+n))] [Bx.var [.sv a 0 c d,.j e,.j f]] b (λa s c d x e f g h i j
 k l m n o=>b<=o->Bel o (D.sl j 0 k l)->Bel o (D.ag h)->∀ b,o<=b->BCalls prog 31 [.i,.sl 0,.i,.i] [.pb 0 0 0 0,.j 14]
 [Bx.var [.sv j 0 k l,.j m,.j n]] b (λj k l m n o p=>b<=p->Bel p (D.sl k 0 l m)->Br (j==0) (∀ a,p<=a ->
 BCalls prog 31 [.i,.sl 0,.i,.i] [.pb 0 0 0 0,.j 15] [Bx.var [.sv k 0 l m,.j n,.j o]] a (λb j k l m n o=>a<=o->Bel o
 (D.sl j 0 k l)->w4 (h.length=h.length/\i=i) (∀ a p,o<=p->Fresh N p a [D.ag h,x,e,f,g]->wZ E/\uP p (Q (D.ag [D.j b,D.t s,D.t c,D.j d,x,e,f,g,D.sl a 9 h i]) j k l m n)))) (Br (j==1) (∀
 b,p<=b->BCalls prog 76 [.i,.sl 0,.i,.i,.sl 0] [.pb 0 0 0 0,.sb 1 0 0 5 5] [Bx.var [.sv k 0 l m,.j n,.j o],Bx.arr 3 0 [D.j 0,D.j 1,
 D.j 10006,D.j 10007,D.j (-1)] 5] b (λd j k l m n o p q r=>b<=r->Bel r (D.sl j 0 k l)->Bel r (D.sl o 0 p
 q)->w4 (h.length=h.length/\i=i) (∀ b o,r<=o->Fresh N o b [D.ag h,x,e,f,g]->wZ E/\uP o (Q (D.ag [D.j a,D.t s,D.t c,D.j d,x,e,f,g,D.sl b 9 h i]) j k l m n)))) (Br (j==2) (cP [D.t b0,D.t
 (bytes [120]),D.t (bytes [108,101,116]),D.t (bytes [97,98,99,100,101]),D.t (bytes [43])] 74 9 5 k l m n o p (λb j k l m n
 _ _ _ o=>w4 (h.length=h.length/\i=i) (∀ p q,o<=q->Fresh N q p [D.ag h,x,e,f,g]->wZ E/\uP q (Q (D.ag [D.j a,D.t b,D.t c,D.j d,x,e,f,g,D.sl p 9 h i]) j k l m n)))) (Br (j==3)
 (∀ b,p<=b->ACalls prog 77 [.pk,.i,.str,.str,.i,.dc,.dc,.dc,.dc,.row 35 9] [.str (bytes [120])] b (λj p q r t u v w y
 z A=>b<=A->Bel A (D.ag y)->(y.length=y.length/\z=z)/\∀ b B,A<=B->Fresh N B b [D.ag y,t,u,v,w,
 x,e,f,g,D.ag h]->(h.length=h.length/\i=i)/\zB h [D.ag [D.j j,D.t p,D.t q,D.j r,t,u,v,w,D.sl b
 9 y z]] 136/\∀(i:Nat),w4 ((h++[D.ag [D.j j,D.t p,D.t q,D.j r,t,u,v,w,D.sl b 9 y z]]).length=(h++[D.ag
 [D.j j,D.t p,D.t q,D.j r,t,u,v,w,D.sl b 9 y z]]).length/\i=i) (∀ A C,B<=C->Fresh N C A [D.ag (h
 ++ [D.ag [D.j j,D.t p,D.t q,D.j r,t,u,v,w,D.sl b 9 y z]]),x,e,f,g]->wZ E/\∀
 B,C<=B->Q (D.ag [D.j a,D.t s,D.t c,D.j d,x,e,f,g,D.sl A 9 (h++[D.ag [D.j j,D.t p,D.t q,D.j r,t,u,v,
 w,D.sl b 9 y z]]) i]) k l m n o B))) (Br (j==4) (cA 2 78 [] k l m n o p (λb e j k l m n=>w4
 (h.length=h.length/\i=i) (∀ o p,n<=p->Fresh N p o [D.ag h,(b.cell 0),(b.cell 1),f,g]->wZ E/\uP p (Q (D.ag [D.j a,D.t s,D.t c,D.j d,(b.cell 0),(b.cell 1),f,g,D.sl o 9 h i]) e j k l
 m)))) (Br (j==5) (cP [D.t (bytes [120]),D.t (bytes [122])] 74 9 2 k l m n o p (λb c j k l m _ _ _ n=>w4
 (h.length=h.length/\i=i) (∀ o p,n<=p->Fresh N p o [D.ag h,x,e,f,g]->wZ E /\
 uP p (Q (D.ag [D.j a,D.t s,D.t b,D.j d,x,e,f,g,D.sl o 9 h i]) c j k l m)))) (w4 (h.length=h.length/\i =
 i) (∀ b j,p<=j->Fresh N j b [D.ag h,x,e,f,g]->wZ E/\uP j (Q (D.ag [D.j a,D.t s,D.t
 c,D.j d,x,e,f,g,D.sl b 9 h i]) k l m n o)))))))))))):jB 37 [.pb 0 0 0 0] [.var [.sv I 0 J O,.int .i64 U,.int .i64 Y]] N Q:=
  Q2 KM h
theorem AO N n1 I J O U Y(Q:QT [.pk,.i,.str,.str,.i,.dc,.dc,.dc,.dc,.row 35 9,.sl 0,.i,.i])(h:∀ E:Env,
Bel N (D.sl I 0 J O)->Br (decide (n1<2)) (∀ b,N<=b->BCalls prog 142 [.pk,.i,.str,.str,.i,.dc,.dc,.dc,.dc,.row 35 9,
 .sl 0,.i,.i] [.pb 0 0 0 0] [Bx.var [.sv I 0 J O,.j U,.j Y]] b (λn s a c x d e f g h i j k l m o=>b<=o ->
 Bel o (D.sl i 0 j k)->Bel o (D.ag g)->wZ E/\(g.length=g.length/\h=h)/\uP o (Q n s a c x d e
 f g h i j k l m))) (cB 33 [.j 5] I J O U Y N (λb a c d e f g=>Br b (∀ b,g<=b->BCalls prog 142 [.pk,.i,
 .str,.str,.i,.dc,.dc,.dc,.dc,.row 35 9,.sl 0,.i,.i] [.pb 0 0 0 0] [Bx.var [.sv a 0 c d,.j e,.j f]] b (λa c d e f g h
 i j k l m n o p q=>b<=q->Bel q (D.sl l 0 m n)->Bel q (D.ag j)->wZ E/\(j.length
 = j.length/\k=k)/\uP q (Q a c d e f g h i j k l m n o p))) (∀ b,g<=b->BCalls prog 76 [.i,.sl 0,.i,.i,.sl
 0] [.pb 0 0 0 0,.sb 1 0 0 12 12] [Bx.var [.sv a 0 c d,.j e,.j f],Bx.arr 3 0 [D.j 4,D.j 5,D.j 6,D.j 7,D.j 8,D.j 9,D.j 10,D.j 11,D.j 12,
 D.j 13,D.j 10,D.j 4] 12] b (λa c d e f g h i j k=>b<=k->Bel k (D.sl c 0 d e)->Bel k (D.sl h 0 i j)->Br
 (a==4) (cP [D.t (bytes [43]),D.t (bytes [45]),D.t (bytes [42]),D.t (bytes [61]),D.t (bytes [60]),D.t (bytes [38]),D.t (bytes [124]),D.t (bytes
 [33])] 74 9 8 c d e f g k (λb c d e f g _ _ _ h=>yJ E Q N n1 c d e f g 0 b0 b0 0 0 none []
 0 0 none [] 0 none [] 0 a b b0 0 0 none [] 0 0 none [] 0 0 0 [] 0 h)) (Br (a==6) (cP [D.t (bytes [120]),D.t (bytes [121]),D.t (bytes [102])] 74 9
 3 c d e f g k (λb c d e f g _ _ _ h=>yJ E Q N n1 c d e f g 0 b0 b0 0 0 none [] 0 0 none
 [] 0 none [] 0 a b b0 0 0 none [] 0 0 none [] 0 0 0 [] 0 h)) (Br (a==8) (cP [D.t (bytes [120]),D.t (bytes [121]),D.t (bytes [102])] 74 9 3 c
 d e f g k (λb c d e f g _ _ _ h=>yJ E Q N n1 c d e f g 0 b0 b0 0 0 none [] 0 0 none
 [] 0 none [] 0 a b b0 0 0 none [] 0 0 none [] 0 0 0 [] 0 h)) (Br (a==9) (cP [D.t (bytes [120]),D.t (bytes [121]),D.t (bytes [102])] 74 9 3 c
 d e f g k (λb c d e f g _ _ _ h=>yJ E Q N n1 c d e f g 0 b0 b0 0 0 none [] 0 0 none
 [] 0 none [] 0 a b b0 0 0 none [] 0 0 none [] 0 0 0 [] 0 h)) (yJ E Q N n1 c d e f g 0 b0 b0 0 0 none [] 0 0 none [] 0 none [] 0
 a b0 b0 0 0 none [] 0 0 none [] 0 0 0 [] 0 k))))))))):jB 75 [.pb 0 0 0 0,.int .i64 n1] [.var [.sv I 0 J O,.int .i64 U,.int .i64 Y]] N Q:=
  Q2 zr h
theorem Bp N(m1 c1:Nat) I J O Y aa U ab(Q:QT [.i,.sl 0,.i,.i,.sl 0])(h:∀ E:Env,
Bel N (D.sl I 0 J O)->Bel N (D.sl none 0 U ab)->∀ b,N<=b->BCalls prog 31 [.i,.sl 0,.i,.i] [.pb 0 0 0 0,.j (m1:Int)]
 [Bx.var [.sv I 0 J O,.j Y,.j aa]] b (λn a c d e f g=>b<=g->Bel g (D.sl a 0 c d)->(0<=n/\n<(m1:Int)/\(0+n.toNat
 : Nat)<U.length)/\(0+n.toNat:Nat)<U.length/\∃ b:Int,List.getD U (0+n.toNat:Nat) default=D.j b/\yg E [.var [.sv none 0 [] 0,.j
 0,.j 0],.arr 3 0 [] 0]/\uP g (Q b a c d e f none U ab))):jB 76 [.pb 0 0 0 0,.sb 1 0 0 m1 c1] [.var [.sv I 0 J O,.int .i64 Y,.int .i64 aa],.arr 3 0 U ab] N Q:=
  Q2 H0 h
theorem Fu N I J O U Y(Q:QT [.ag 2,.sl 0,.i,.i])(h:∀ E:Env,
Bel N (D.sl I 0 J O)->cA 2 143 [.j 4] I J O U Y N (λx a b c n d e=>∀ f,e<=f->BCalls prog 31 [.i,
 .sl 0,.i,.i] [.pb 0 0 0 0,.j 10] [Bx.var [.sv a 0 b c,.j n,.j d]] f (λa b c d e g h=>f<=h->Bel h (D.sl b 0 c d)->Br
 (a==0) (∀ a,h<=a->BCalls prog 31 [.i,.sl 0,.i,.i] [.pb 0 0 0 0,.j 6] [Bx.var [.sv b 0 c d,.j e,.j g]] a (λb c d e f
 g h=>a<=h->Bel h (D.sl c 0 d e)->wZ E/\uP h (Q (D.ag [D.j b,(x.cell 1)]) c d e f g)))
 (Br (a==1) (∃ a f,∃ i:Nat,(x.cell 1)=D.sl a 2 f i/\kA 2 69 [] h (λh j=>Wb a f i [h]/\zB f [h] 32/\∀
 (a:Nat),w4 ((f++[h]).length=(f++[h]).length/\a=a) (∀ i k,j<=k->Fresh N k i [D.ag (f++[h]),(x.cell 0)]->wZ E/\uP k (Q (D.ag [(x.cell 0),D.sl i 2 (f++[h]) a]) b c d e g)))) (Br (a==2) (∀ a,h<=a ->
 BCalls prog 31 [.i,.sl 0,.i,.i] [.pb 0 0 0 0,.j 6] [Bx.var [.sv b 0 c d,.j e,.j g]] a (λb c d e f g h=>a<=h->Bel
 h (D.sl c 0 d e)->wl E Q N (jW.wrap (1+b)) 0 c d e f g 0 none [] 0 x h)) (Br (a==3) (wm E Q
 N 0 b c d e g 0 none [] 0 x h) (wZ E/\uP h (Q x b c d e g)))))))):jB 78 [.pb 0 0 0 0] [.var [.sv I 0 J O,.int .i64 U,.int .i64 Y]] N Q:=
  Q2 rl h
theorem F0 N I J O U Y(Q:QT [.pk,.i,.str,.str,.i,.dc,.dc,.dc,.dc,.row 35 9,.sl 0,.i,.i])(h:∀ E:Env,
Bel N (D.sl I 0 J O)->∀ b,N<=b->BCalls prog 31 [.i,.sl 0,.i,.i] [.pb 0 0 0 0,.j 4] [Bx.var [.sv I 0 J O,.j
 U,.j Y]] b (λn a c d e f g=>b<=g->Bel g (D.sl a 0 c d)->Br (n==0) (∀ b,g<=b->BCalls prog 76 [.i,.sl 0,.i,.i,.sl 0] [.pb
 0 0 0 0,.sb 1 0 0 5 5] [Bx.var [.sv a 0 c d,.j e,.j f],Bx.arr 3 0 [D.j 0,D.j 1,D.j 2,D.j 3,D.j 10006] 5] b (λa c d e f g h i
 j k=>b<=k->Bel k (D.sl c 0 d e)->Bel k (D.sl h 0 i j)->∀ b,k<=b->ACalls prog 149 [.pk,.i,.str,.str,.i,.dc,.dc,.dc,.dc,
 .row 35 9] [.j a] b (λa s h i x j k l m n o=>b<=o->Bel o (D.ag m)->wZ E/\(m.length
 = m.length/\n=n)/\uP o (Q a s h i x j k l m n c d e f g)))) (Br (n==1) (∀ b,g<=b->BCalls prog 31 [.i,.sl 0,.i,
 .i] [.pb 0 0 0 0,.j 2] [Bx.var [.sv a 0 c d,.j e,.j f]] b (λa c d e f g h=>b<=h->Bel h (D.sl c 0 d e)->∀ b,h<=b
 -> ACalls prog 80 [.pk,.i,.str,.str,.i,.dc,.dc,.dc,.dc,.row 35 9] [.j a] b (λa h i j k l m n o p q=>b<=q->Bel
 q (D.ag o)->wZ E/\(o.length=o.length/\p=p)/\uP q (Q a h i j k l m n o p
 c d e f g)))) (cP [D.t (bytes [120]),D.t (bytes [121]),D.t (bytes [102])] 74 9 3 a c d e f g (λa b c d e f _ _ _
 g=>∀ h,g<=h->ACalls prog 77 [.pk,.i,.str,.str,.i,.dc,.dc,.dc,.dc,.row 35 9] [.str a] h (λa g i j k l m n o
 p q=>h<=q->Bel q (D.ag o)->wZ E/\(o.length=o.length/\p=p)/\uP q (Q a g i j
 k l m n o p b c d e f))))))):jB 142 [.pb 0 0 0 0] [.var [.sv I 0 J O,.int .i64 U,.int .i64 Y]] N Q:=
  Q2 H0 h
theorem HG E(Q:QT [.pk,.i,.str,.str,.i,.dc,.dc,.dc,.dc,.row 35 9,.sl 0,.i,.i]) N0 n1 J O U Y aa ab ac ae ah ai aj ak al ao aq au aw ax ay az I a6 a7 a8 bj bm bp bq ba bb bc bg bh bi r3 q3 N(h :
Br (I==6) (cA 2 143 [.j 2] J O U Y aa N (λx a b c n d e=>vR E Q N0 n1 a b c n d ab ac ae ah ai aj
 ak al ao aq au aw ax ay az I a6 a7 a8 (x.cell 0) (x.cell 1) ba bb bc bg bh bi r3 q3 e)) (Br (I==9) (cA 2 143 [.j 2]
 J O U Y aa N (λa b c d e f g=>vR E Q N0 n1 b c d e f ab ac ae ah ai aj ak al ao aq
 au aw ax ay az I a6 a7 a8 (a.cell 0) (a.cell 1) ba bb bc bg bh bi r3 q3 g)) (vS E Q N0 n1 J O U
 Y aa ab ac ae ah ai aj ak al ao aq au aw ax ay az I a6 a7 a8 bj bm bp bq ba bb bc bg bh bi r3 q3
 N))):yJ E Q N0 n1 J O U Y aa ab ac ae ah ai aj ak al ao aq au aw ax ay az I a6 a7 a8 bj bm bp bq ba bb bc bg bh bi r3 q3 N:=
  EF zr h
theorem qk N n1 I J O U Y(Q:QT [.ag 2,.sl 0,.i,.i])(h:∀ E:Env,
Bel N (D.sl I 0 J O)->Br (decide (n1<2)) (∀ b,N<=b->BCalls prog 76 [.i,.sl 0,.i,.i,.sl 0] [.pb 0 0 0 0,.sb 1 0 0 3 3]
 [Bx.var [.sv I 0 J O,.j U,.j Y],Bx.arr 3 0 [D.j 1,D.j 1,D.j 2] 3] b (λn a c d e f g h i j=>b<=j->Bel j (D.sl a
 0 c d)->Bel j (D.sl g 0 h i)->wZ E/\uP j (Q (D.ag [D.j n,jN]) a c d e f))) (cB 33 [.j 2]
 I J O U Y N (λb a c d e f g=>Br b (∀ b,g<=b->BCalls prog 76 [.i,.sl 0,.i,.i,.sl 0] [.pb 0 0 0 0,.sb 1 0 0 3 3]
 [Bx.var [.sv a 0 c d,.j e,.j f],Bx.arr 3 0 [D.j 1,D.j 1,D.j 2] 3] b (λa c d e f g h i j k=>b<=k->Bel k (D.sl c
 0 d e)->Bel k (D.sl h 0 i j)->wZ E/\uP k (Q (D.ag [D.j a,jN]) c d e f g)))
 (cB 33 [.j 2] a c d e f g (λa b c d e f g=>Br a (cA 2 143 [.j (jW.wrap (n1 - 1))] b c d e f g (λx a
 b c d e f=>kA 2 71 [.dg 2 x] f (λf g=>wZ E/\uP g (Q f a b c d e)))) (cA 2 143
 [.j (jW.wrap (n1 - 1))] b c d e f g (λa b c d e f g=>cA 2 143 [.j (jW.wrap (n1 - 1))] b c d e
 f g (λb c d e f g h=>kA 2 72 [.dg 2 a,.dg 2 b] h (λa b=>wZ E/\uP b (Q a
 c d e f g)))))))))):jB 143 [.pb 0 0 0 0,.int .i64 n1] [.var [.sv I 0 J O,.int .i64 U,.int .i64 Y]] N Q:=
  Q2 KJ h
theorem qc E(Q:QT [.ag 2,.sl 0,.i,.i]) N0 n4 n5 I J O U Y aa ab ac ae y2 N(h :
Br (decide (n5<n4)) (kA 2 71 [.dg 2 y2] N (λx a=>wl E Q N0 n4 (jW.wrap (n5+1)) I J O U Y aa ab ac
 ae x a)) (wZ E/\uP N (Q y2 I J O U Y))):wl E Q N0 n4 n5 I J O U Y aa ab ac ae y2 N:=
  EF rl h
theorem qd E(Q:QT [.ag 2,.sl 0,.i,.i]) N0 n6 I J O U Y aa ab ac ae y2 N(h :
Br (decide (n6<3)) (kA 2 72 [.dg 2 y2,.dg 2 y2] N (λx a=>wm E Q N0 (jW.wrap (n6+1)) I J O U Y aa ab
 ac ae x a)) (wZ E/\uP N (Q y2 I J O U Y))):wm E Q N0 n6 I J O U Y aa ab ac ae y2 N:=
  EF rl h
theorem HH E(Q:QT [.pk,.i,.str,.str,.i,.dc,.dc,.dc,.dc,.row 35 9,.sl 0,.i,.i]) N0 n1 J O U Y aa ab ac ae ah ai aj ak al ao aq au aw ax ay az I a6 bg a7 a8 ba bh bi bj bm bb bc r3 q3 N(h :
Br (I==9) (cP [D.t (bytes [122]),D.t (bytes [119])] 74 9 2 J O U Y aa N (λs a b c n d _ _ _ e=>cA 2 143 [.j 2] a b c n
 d e (λx a b c d e f=>tS E Q N0 n1 a b c d e ab ac ae ah ai aj ak al ao aq au aw ax ay
 az I a6 s a7 a8 ba (x.cell 0) (x.cell 1) bb bc r3 q3 f))) (vT E Q N0 n1 J O U Y aa ab ac ae ah ai aj
 ak al ao aq au aw ax ay az I a6 bg a7 a8 ba bh bi bj bm bb bc r3 q3 N)):vR E Q N0 n1 J O U Y aa ab ac ae ah ai aj ak al ao aq au aw ax ay az I a6 bg a7 a8 ba bh bi bj bm bb bc r3 q3 N:=
  EF zr h
theorem Cp E(Q:QT [.pk,.i,.str,.str,.i,.dc,.dc,.dc,.dc,.row 35 9,.sl 0,.i,.i]) N0 n1 J O U Y aa ab ac ae ah ai aj ak al ao aq au aw ax ay az I a6 bi a7 a8 ba bb bc bj bm bp bq bg bh r3 q3 N(h :
Br (I==9) (cP [D.t (bytes [122]),D.t (bytes [119])] 74 9 2 J O U Y aa N (λs a b c n d _ _ _ e=>cA 2 143 [.j 2] a b c n
 d e (λx a b c d e f=>vU E Q N0 n1 a b c d e ab ac ae ah ai aj ak al ao aq au aw ax ay
 az I a6 s a7 a8 ba bb bc (x.cell 0) (x.cell 1) bg bh r3 q3 f))) (vV E Q N0 n1 J O U Y aa ab ac ae ah
 ai aj ak al ao aq au aw ax ay az I a6 bi a7 a8 ba bb bc bj bm bp bq bg bh r3 q3 N)):vS E Q N0 n1 J O U Y aa ab ac ae ah ai aj ak al ao aq au aw ax ay az I a6 bi a7 a8 ba bb bc bj bm bp bq bg bh r3 q3 N:=
  EF zr h
theorem HI E(Q:QT [.pk,.i,.str,.str,.i,.dc,.dc,.dc,.dc,.row 35 9,.sl 0,.i,.i]) N0 n1 ai aj ak al ao aq au aw ax ay az a6 a7 a8 ba bb bc bg bh bi J O U Y aa ab ac ae ah I r3 q3 N(h :
(ah=r3.length/\I=q3)/\∀ a,ApA a r3->∀ b,N<=b->xj b [a]->ACalls prog 101 [.i] [.dg 9 (D.ag [D.j J,D.t O,D.t U,D.j Y,
 aa,ab,ac,ae,D.sl a 9 r3 I])] b (λn a=>b<=a->vW E Q N0 n1 n 0 ai aj ak al ao aq au aw ax ay az a6
 a7 a8 ba bb bc bg bh bi J O U Y aa ab ac ae ah I r3 q3 a)):tS E Q N0 n1 ai aj ak al ao aq au aw ax ay az a6 a7 a8 ba bb bc bg bh bi J O U Y aa ab ac ae ah I r3 q3 N:=
  EF zr h
theorem Cq E(Q:QT [.pk,.i,.str,.str,.i,.dc,.dc,.dc,.dc,.row 35 9,.sl 0,.i,.i]) N0 n1 ak al ao aq au aw ax ay az a6 a7 a8 ba bb bc bg bh bi bj bm J O U Y aa ab ac ae ah ai aj I r3 q3 N(h :
(aj=r3.length/\I=q3)/\∀ a,ApA a r3->∀ b,N<=b->xj b [a]->ACalls prog 101 [.i] [.dg 9 (D.ag [D.j J,D.t O,D.t U,D.j Y,
 aa,ab,D.j ac,D.sl ae 2 ah ai,D.sl a 9 r3 I])] b (λn a=>b<=a->xo E Q N0 n1 n 0 ak al ao aq au aw ax
 ay az a6 a7 a8 ba bb bc bg bh bi bj bm J O U Y aa ab ac ae ah ai aj I r3 q3 a)):vT E Q N0 n1 ak al ao aq au aw ax ay az a6 a7 a8 ba bb bc bg bh bi bj bm J O U Y aa ab ac ae ah ai aj I r3 q3 N:=
  EF zr h
theorem Cr E(Q:QT [.pk,.i,.str,.str,.i,.dc,.dc,.dc,.dc,.row 35 9,.sl 0,.i,.i]) N0 n1 ak al ao aq au aw ax ay az a6 a7 a8 ba bb bc bg bh bi bj bm J O U Y aa ab ac ae ah ai aj I r3 q3 N(h :
(aj=r3.length/\I=q3)/\∀ a,ApA a r3->∀ b,N<=b->xj b [a]->ACalls prog 101 [.i] [.dg 9 (D.ag [D.j J,D.t O,D.t U,D.j Y,
 D.j aa,D.sl ab 2 ac ae,ah,ai,D.sl a 9 r3 I])] b (λn a=>b<=a->xp E Q N0 n1 n 0 ak al ao aq au aw ax
 ay az a6 a7 a8 ba bb bc bg bh bi bj bm J O U Y aa ab ac ae ah ai aj I r3 q3 a)):vU E Q N0 n1 ak al ao aq au aw ax ay az a6 a7 a8 ba bb bc bg bh bi bj bm J O U Y aa ab ac ae ah ai aj I r3 q3 N:=
  EF zr h
theorem Cs E(Q:QT [.pk,.i,.str,.str,.i,.dc,.dc,.dc,.dc,.row 35 9,.sl 0,.i,.i]) N0 n1 ao aq au aw ax ay az a6 a7 a8 ba bb bc bg bh bi bj bm bp bq J O U Y aa ab ac ae ah ai aj ak al I r3 q3 N(h :
(al=r3.length/\I=q3)/\∀ a,ApA a r3->∀ b,N<=b->xj b [a]->ACalls prog 101 [.i] [.dg 9 (D.ag [D.j J,D.t O,D.t U,D.j Y,
 D.j aa,D.sl ab 2 ac ae,D.j ah,D.sl ai 2 aj ak,D.sl a 9 r3 I])] b (λn a=>b<=a->xq E Q N0 n1 n 0 ao aq au
 aw ax ay az a6 a7 a8 ba bb bc bg bh bi bj bm bp bq J O U Y aa ab ac ae ah ai aj ak al I r3 q3
 a)):vV E Q N0 n1 ao aq au aw ax ay az a6 a7 a8 ba bb bc bg bh bi bj bm bp bq J O U Y aa ab ac ae ah ai aj ak al I r3 q3 N:=
  EF zr h
theorem ph E(Q:QT [.pk,.i,.str,.str,.i,.dc,.dc,.dc,.dc,.row 35 9,.sl 0,.i,.i]) N0 n1 n6 n7 aa ab ac ae ah aq au aw ax ay az a6 a7 a8 ba bb bc bg bh bi ai aj ak al I J O U ao Y r3 q3 N(h :
Br (decide (n7<n6)) (∀ b,N<=b->BCalls prog 75 [.pk,.i,.str,.str,.i,.dc,.dc,.dc,.dc,.row 35 9,.sl 0,.i,.i] [.pb 0 0 0 0,.j
 (jW.wrap (n1 - 1))] [Bx.var [.sv aa 0 ab ac,.j ae,.j ah]] b (λn s a c x d e f g h i j k l m o=>b<=o->Bel o
 (D.sl i 0 j k)->Bel o (D.ag g)->(g.length=g.length/\h=h)/\∀ b p,o<=p->Fresh N0 p b [D.ag g,x,d,e,f,I,J,O,
 U,D.ag r3]->(ao=r3.length/\Y=q3)/\zB r3 [D.ag [D.j n,D.t s,D.t a,D.j c,x,d,e,f,D.sl b 9 g h]] 136/\∀(o:Nat),
 vW E Q N0 n1 n6 (jW.wrap (n7+1)) i j k l m aq au aw ax ay az a6 a7 a8 ba bb bc bg bh bi ai aj
 ak al I J O U (r3++[D.ag [D.j n,D.t s,D.t a,D.j c,x,d,e,f,D.sl b 9 g h]]).length o (r3++[D.ag [D.j n,D.t s,D.t a,
 D.j c,x,d,e,f,D.sl b 9 g h]]) o p)) (wZ E/\(ao=r3.length/\Y=q3)/\uP N (Q ai aj ak
 al I J O U r3 Y aa ab ac ae ah))):vW E Q N0 n1 n6 n7 aa ab ac ae ah aq au aw ax ay az a6 a7 a8 ba bb bc bg bh bi ai aj ak al I J O U ao Y r3 q3 N:=
  EF zr h
theorem sY E(Q:QT [.pk,.i,.str,.str,.i,.dc,.dc,.dc,.dc,.row 35 9,.sl 0,.i,.i]) N0 n1 n6 n7 ab ac ae ah ai aw ax ay az a6 a7 a8 ba bb bc bg bh bi bj bm aj ak al ao I J aq O U Y au aa r3 q3 N(h :
Br (decide (n7<n6)) (∀ b,N<=b->BCalls prog 75 [.pk,.i,.str,.str,.i,.dc,.dc,.dc,.dc,.row 35 9,.sl 0,.i,.i] [.pb 0 0 0 0,.j
 (jW.wrap (n1 - 1))] [Bx.var [.sv ab 0 ac ae,.j ah,.j ai]] b (λn s a c x d e f g h i j k l m o=>b<=o->Bel o
 (D.sl i 0 j k)->Bel o (D.ag g)->(g.length=g.length/\h=h)/\∀ b p,o<=p->Fresh N0 p b [D.ag g,x,d,e,f,I,J,D.sl O
 2 U Y,D.ag r3]->(au=r3.length/\aa=q3)/\zB r3 [D.ag [D.j n,D.t s,D.t a,D.j c,x,d,e,f,D.sl b 9 g h]] 136/\∀(o :
 Nat),xo E Q N0 n1 n6 (jW.wrap (n7+1)) i j k l m aw ax ay az a6 a7 a8 ba bb bc bg bh bi bj bm
 aj ak al ao I J aq O U Y (r3++[D.ag [D.j n,D.t s,D.t a,D.j c,x,d,e,f,D.sl b 9 g h]]).length o (r3++[D.ag
 [D.j n,D.t s,D.t a,D.j c,x,d,e,f,D.sl b 9 g h]]) o p)) (wZ E/\(au=r3.length/\aa=q3) /\
 uP N (Q aj ak al ao I J (D.j aq) (D.sl O 2 U Y) r3 aa ab ac ae ah ai))):xo E Q N0 n1 n6 n7 ab ac ae ah ai aw ax ay az a6 a7 a8 ba bb bc bg bh bi bj bm aj ak al ao I J aq O U Y au aa r3 q3 N:=
  EF zr h
theorem sZ E(Q:QT [.pk,.i,.str,.str,.i,.dc,.dc,.dc,.dc,.row 35 9,.sl 0,.i,.i]) N0 n1 n6 n7 ab ac ae ah ai aw ax ay az a6 a7 a8 ba bb bc bg bh bi bj bm aj ak al ao aq I J O U Y au aa r3 q3 N(h :
Br (decide (n7<n6)) (∀ b,N<=b->BCalls prog 75 [.pk,.i,.str,.str,.i,.dc,.dc,.dc,.dc,.row 35 9,.sl 0,.i,.i] [.pb 0 0 0 0,.j
 (jW.wrap (n1 - 1))] [Bx.var [.sv ab 0 ac ae,.j ah,.j ai]] b (λn s a c x d e f g h i j k l m o=>b<=o->Bel o
 (D.sl i 0 j k)->Bel o (D.ag g)->(g.length=g.length/\h=h)/\∀ b p,o<=p->Fresh N0 p b [D.ag g,x,d,e,f,D.sl I 2 J
 O,U,Y,D.ag r3]->(au=r3.length/\aa=q3)/\zB r3 [D.ag [D.j n,D.t s,D.t a,D.j c,x,d,e,f,D.sl b 9 g h]] 136/\∀(o
 : Nat),xp E Q N0 n1 n6 (jW.wrap (n7+1)) i j k l m aw ax ay az a6 a7 a8 ba bb bc bg bh bi bj
 bm aj ak al ao aq I J O U Y (r3++[D.ag [D.j n,D.t s,D.t a,D.j c,x,d,e,f,D.sl b 9 g h]]).length o (r3 ++
 [D.ag [D.j n,D.t s,D.t a,D.j c,x,d,e,f,D.sl b 9 g h]]) o p)) (wZ E/\(au=r3.length/\aa =
 q3)/\uP N (Q aj ak al ao (D.j aq) (D.sl I 2 J O) U Y r3 aa ab ac ae ah ai))):xp E Q N0 n1 n6 n7 ab ac ae ah ai aw ax ay az a6 a7 a8 ba bb bc bg bh bi bj bm aj ak al ao aq I J O U Y au aa r3 q3 N:=
  EF zr h
theorem sa E(Q:QT [.pk,.i,.str,.str,.i,.dc,.dc,.dc,.dc,.row 35 9,.sl 0,.i,.i]) N0 n1 n6 n7 ac ae ah ai aj ay az a6 a7 a8 ba bb bc bg bh bi bj bm bp bq ak al ao aq au I J O aw U Y aa ax ab r3 q3 N(h :
Br (decide (n7<n6)) (∀ b,N<=b->BCalls prog 75 [.pk,.i,.str,.str,.i,.dc,.dc,.dc,.dc,.row 35 9,.sl 0,.i,.i] [.pb 0 0 0 0,.j
 (jW.wrap (n1 - 1))] [Bx.var [.sv ac 0 ae ah,.j ai,.j aj]] b (λn s a c x d e f g h i j k l m o=>b<=o->Bel o
 (D.sl i 0 j k)->Bel o (D.ag g)->(g.length=g.length/\h=h)/\∀ b p,o<=p->Fresh N0 p b [D.ag g,x,d,e,f,D.sl I 2 J
 O,D.sl U 2 Y aa,D.ag r3]->(ax=r3.length/\ab=q3)/\zB r3 [D.ag [D.j n,D.t s,D.t a,D.j c,x,d,e,f,D.sl b 9 g h]]
 136/\∀(o:Nat),xq E Q N0 n1 n6 (jW.wrap (n7+1)) i j k l m ay az a6 a7 a8 ba bb bc bg bh bi bj
 bm bp bq ak al ao aq au I J O aw U Y aa (r3++[D.ag [D.j n,D.t s,D.t a,D.j c,x,d,e,f,D.sl b 9 g
 h]]).length o (r3++[D.ag [D.j n,D.t s,D.t a,D.j c,x,d,e,f,D.sl b 9 g h]]) o p)) (wZ E/\(ax
 = r3.length/\ab=q3)/\uP N (Q ak al ao aq (D.j au) (D.sl I 2 J O) (D.j aw) (D.sl U 2 Y aa) r3 ab ac ae ah ai aj))):xq E Q N0 n1 n6 n7 ac ae ah ai aj ay az a6 a7 a8 ba bb bc bg bh bi bj bm bp bq ak al ao aq au I J O aw U Y aa ax ab r3 q3 N:=
  EF zr h
end Go.Proofs.YtlaniepnglheoaaGreatDoor
set_option maxRecDepth 100000
namespace Go.Proofs.YtlaniepnglheoaaGreatDoor
open Go Go.Proofs Go.Proofs.Tryz
def Dk:Hint:=⟨[],[],[(7,hs 35 [ec 31 [52]])]⟩
theorem Rp N a0 e0 c0(Q:QT [.bool])(h :
Bel N (D.sl a0 0 e0 c0)->∀ a,N<=a->Q (decide ((e0.length:Int)>1048576)) a):jC 10 [.sv a0 0 e0 c0] N Q:=
 eE H0 h
theorem Ef N a0 e0 c0(Q:QT [.bool])(h :
Bel N (D.sl a0 0 e0 c0)->kB 10 [.sv a0 0 e0 c0] N (λb a=>Br b (uP a (Q true)) (kI 11 [.sv a0 0 e0 c0] a (λn a=>kS 9 [.j n] a (λs a=>
 kS 12 [.sv a0 0 e0 c0] a (λa b=>kS 14 [.j n] b (λb c=>kAB 9 13 [.str b] c (λx b c=>kS 8 [.j n] c (λc d=>Br
 (jE s c) (kS 14 [.j n] d (λc d=>kS 15 [.j n] d (λd e=>Br (jE c d) (kS 14 [.j n] e (λc d=>Br ((jE s b0)==(jE c b0)) (kS 7 [.str a] d
 (λc d=>kS 6 [.str a] d (λa d=>Br (jE c a) (Br (!b) (uP d (Q true)) (kB 16 [.dg 9 x] d (λa
 b=>uP b (Q a)))) (uP d (Q false))))) (uP d (Q false)))) (uP e (Q false))))) (uP d (Q false))))))))))):jC 5 [.sv a0 0 e0 c0] N Q:=
  eE Dk h
end Go.Proofs.YtlaniepnglheoaaGreatDoor
