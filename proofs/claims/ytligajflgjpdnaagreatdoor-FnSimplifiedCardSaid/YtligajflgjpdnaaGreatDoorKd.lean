/- Printed by gen.py: what the functions come to. -/
import Derived.Test.YtligajflgjpdnaaGreatDoorJh
set_option linter.unusedVariables false
set_option maxRecDepth 100000
namespace Go.Proofs.YtligajflgjpdnaaGreatDoor
open Go Go.Proofs Go.Proofs.Tryz
def Dy:Hint:=⟨[hc 3 [0,3,4]],[],[]⟩
def Im:Hint:=⟨[],[],[(2,[en 0,en 1,en 2,en 3,en 4,en 5,en 6,en 7,en 8,en 9,en 10,en 11,en 12]),(3,[en 0,en 1,en 2,en 3,en 4,en 5,en 6,en 7,en 8,en 9]),(4,[en 0,en 1,en 2,en 3,en 4,en 5,en 6,en 7,en 8,en 9,en 10,en 11,en 12,en 13,eh 14])]⟩
def Al:Hint:=⟨[hc 3 [0,1,3,6,8,10,11] [(10,29,9)]],[],[(5,[en 0,en 1,en 2,en 3,en 4,en 5,en 6,en 7,en 8,en 9,en 10,en 11,en 12,en 13,ec 14 [31,32],en 15,en 16,en 17,en 18,en 19,en 20,en 21,en 22,en 24,eh 23,en 25,en 26])]⟩
def Hi:Hint:=⟨[],[],[(7,[en 0,en 1,en 2,en 3,en 4,en 5,en 6,en 7,en 8,en 9,eh 10,ec 11 [24,31],eh 12])]⟩
def KM:Hint:=⟨[],[],[(3,hs 3 [ec 1 [13]]),(5,hs 4 [ec 2 [17,18]])]⟩
def JV:Hint:=⟨[],[],[(2,hs 7 [ec 4 [9]])]⟩
def LN:Hint:=⟨[],[],[(4,[en 0,en 1,en 3,en 4,en 5,en 7,en 8,en 9,en 10,en 11,en 12,en 14,en 15,en 16,en 17,en 18,en 19,eh 2,eh 6,eh 13,eh 20,en 21,eh 22,eh 23]),(7,[en 0,en 1,en 2,en 3,en 4,en 5,en 6,en 8,en 9,en 10,en 11,en 12,en 14,en 15,en 16,en 17,eh 7,ec 13 [60],eh 18,ec 19 [56,67],eh 20]),(10,[en 0,en 1,en 2,en 3,en 4,en 5,en 6,en 8,en 9,en 10,en 11,en 14,en 15,en 16,en 17,en 18,en 19,ec 7 [79],eh 12,ec 13 [75,86],eh 20,en 21,eh 22,eh 23]),(12,hs 5 [ec 2 [100]]),(13,[en 0,en 1,en 2,en 4,en 6,en 7,en 8,eh 3,ec 5 [108],eh 9,en 10,eh 11,eh 12]),(15,hs 12 [ec 3 [120]])]⟩
def Iz:Hint:=⟨[],[],[(4,[en 0,en 1,en 3,en 4,en 5,en 6,en 7,en 8,en 10,en 11,en 12,en 13,en 14,en 15,eh 2,eh 9,eh 16,en 17,eh 18,eh 19]),(9,[en 0,en 1,en 3,en 4,en 5,en 6,en 7,en 8,en 10,en 11,en 12,en 13,en 14,en 15,eh 2,eh 9,eh 16,en 17,eh 18,eh 19]),(10,[en 0,en 1,en 3,en 4,en 5,en 6,en 7,en 8,en 10,en 11,en 12,en 13,en 14,en 15,eh 2,eh 9,eh 16,en 17,eh 18,eh 19])]⟩
def pL:Hint:=⟨[],[hc 5 [0,1,3,4,7,10],hc 18 [0,1,3,4,7,10]],[(15,[en 0,en 1,en 2,en 3,en 4,en 5,en 6,en 7,en 8,en 9,en 10,en 11,en 12,en 14,en 15,en 16,en 17,en 18,en 19,en 20,ec 13 [68],eh 21,ec 22 [61,78],eh 23]),(16,hs 9 [ec 4 [83]])]⟩
def GQ:Hint:=⟨[],[],[(1,hs 9 [ec 6 [4]])]⟩
def uG (Q:QT [.cu])(N0:Nat)(a0:Option Addr)(e0:List D)(I:Nat)(J O:Int)(N:Nat):Prop:=AT prog 19 [.cu] Q N0 .ord (zG prog 19 3) ⟨.sv a0 0 e0 I::an 2 (.int .i64 J::.int .i64 O::an 27 []),[],N,none⟩
def wR (E:Env)(Q:QT [.ag 9,.sl 0,.i,.i])(N0:Nat)(a1:Option Addr)(e1:List D)(c1:Nat)(n3 n4:Int)(I:Option Addr)(J:List D)(O:Nat)(U Y:Int)(y1:D)(aa:Int)(ab ac:ByteArray)(ae ah:Int)(ai:Option Addr)(aj:List D)(ak:Nat)(al:Int)(am:Option Addr)(ao:List D)(aq:Nat)(au:Option Addr)(aw:List D)(ax:Nat)(N:Nat):Prop:=AT prog 44 [.ag 9,.sl 0,.i,.i] Q N0 (.io E [.var [.sv none 0 [] 0,.int .i64 0,.int .i64 0]]) (wG prog 44 5) ⟨.pb 0 0 0 0::.sv a1 4 e1 c1::an 1 (.int .i64 n3::.int .i64 n4::an 2 (.pb 1 0 0 0::an 2 (.pb 2 0 0 0::an 103 []))),[.var [.sv I 0 J O,.int .i64 U,.int .i64 Y],.vd y1 2,.var [.int .i64 aa,.str ab,.str ac,.int .i64 ae,.int .i64 ah,.sv ai 2 aj ak,.int .i64 al,.sv am 2 ao aq,.sv au 9 aw ax]],N,some (x9 E 0 [.var [.sv none 0 [] 0,.int .i64 0,.int .i64 0]],[])⟩
def zr (E:Env)(Q:QT [.ag 9,.bool,.sl 0,.i,.i])(N0:Nat)(a1:Option Addr)(e1:List D)(c1:Nat)(n3:Int)(ay az:Nat)(a6:Int)(I:Option Addr)(J:List D)(O:Nat)(U Y:Int)(y1:D)(aa:Int)(ab ac:ByteArray)(ae ah:Int)(ai:Option Addr)(aj:List D)(ak:Nat)(al:Int)(am:Option Addr)(ao:List D)(aq:Nat)(au:Option Addr)(aw:List D)(ax:Nat)(r3:List D)(q3:Nat)(N:Nat):Prop:=AT prog 75 [.ag 9,.bool,.sl 0,.i,.i] Q N0 (.io E [.var [.sv none 0 [] 0,.int .i64 0,.int .i64 0]]) (zG prog 75 3) ⟨.pb 0 0 0 0::.sv a1 4 e1 c1::an 1 (.int .i64 n3::an 2 (.pb 1 0 0 0::an 1 (.pb 2 0 0 0::an 1 (.sb 3 9 0 ay az::.int .i64 a6::an 54 [])))),[.var [.sv I 0 J O,.int .i64 U,.int .i64 Y],.vd y1 2,.var [.int .i64 aa,.str ab,.str ac,.int .i64 ae,.int .i64 ah,.sv ai 2 aj ak,.int .i64 al,.sv am 2 ao aq,.sv au 9 aw ax],.arr 29 9 r3 q3],N,some (x9 E 0 [.var [.sv none 0 [] 0,.int .i64 0,.int .i64 0]],[])⟩
def vK (E:Env)(Q:QT [.ag 9,.sl 0,.i,.i])(N0:Nat)(a1:Option Addr)(e1:List D)(c1:Nat)(n3 n4:Int)(I:Option Addr)(J:List D)(O:Nat)(U Y:Int)(y1:D)(aa:Int)(ab ac:ByteArray)(ae ah:Int)(ai:Option Addr)(aj:List D)(ak:Nat)(al:Int)(am:Option Addr)(ao:List D)(aq:Nat)(au:Option Addr)(aw:List D)(ax:Nat)(N:Nat):Prop:=AT prog 44 [.ag 9,.sl 0,.i,.i] Q N0 (.io E [.var [.sv none 0 [] 0,.int .i64 0,.int .i64 0]]) (wG prog 44 18) ⟨.pb 0 0 0 0::.sv a1 4 e1 c1::an 1 (.int .i64 n3::.int .i64 n4::an 2 (.pb 1 0 0 0::an 2 (.pb 2 0 0 0::an 103 []))),[.var [.sv I 0 J O,.int .i64 U,.int .i64 Y],.vd y1 2,.var [.int .i64 aa,.str ab,.str ac,.int .i64 ae,.int .i64 ah,.sv ai 2 aj ak,.int .i64 al,.sv am 2 ao aq,.sv au 9 aw ax]],N,some (x9 E 0 [.var [.sv none 0 [] 0,.int .i64 0,.int .i64 0]],[])⟩
theorem KS (N:Nat) (a0:Option Addr) (e0:List D) (I:Nat) (Q:QT [.cu]) (h :
Bel N (D.sl a0 0 e0 I)->uG Q N a0 e0 I (IntKind.i64.wrap (26583+(e0.length:Int))) 0 N):ACalls prog 19 [.cu] [PV.sv a0 0 e0 I] N Q:=
 eE Dy h
theorem ML (N:Nat) (s0:ByteArray) (a1:Option Addr) (e1:List D) (c1:Nat) (Q:QT [.ag 9]) (h :
Bel N (D.sl a1 9 e1 c1)->kA 9 82 [.j 4,.sv a1 9 e1 c1] N (fun x a=>uP a (Q (D.ag [(x.cell 0),D.t s0,(x.cell 2),(x.cell 3),(x.cell 4),(x.cell 5),
 (x.cell 6),(x.cell 7),(x.cell 8)])))):ACalls prog 119 [.ag 9] [PV.str s0,PV.sv a1 9 e1 c1] N Q:=
  eE H0 h
theorem CW (N:Nat) (I:D) (Q:QT [.int .i64]) (h :
Bel N I->∃ n:Int,(I.cell 0)=D.j n/\Br (n==4) (∃ a b,∃ c:Nat,(I.cell 1)=D.sl a 2 b c/\((0:Int)<=(0:Int)/\0<(b.length:Int)) /\
 kI 117 [.dg 2 (List.getD b 0 default)] N (λa b=>uP b (Q (IntKind.i64.wrap (1+a))))) (uP N (Q 0))):ACalls prog 117 [.int .i64] [PV.dg 2 I] N Q:=
  eE JV h
theorem BC (N:Nat) (a0:Option Addr) (e0:List D) (I:Nat) (Q:QT [.ag 9]) (h :
Bel N (D.sl a0 0 e0 I)->∀ d,N<=d->ACalls prog 19 [.cu] [.sv a0 0 e0 I] d (λa c e n f g=>d<=g->cB 20 [.j 6] a c e n f g (λb a
 c d e f g=>Br b (cA 9 21 [] a c d e f g (λx _ _ _ _ _ a=>uP a (Q x))) (cA 9 22 [] a c d e f g (λa _
 _ _ _ _ b=>uP b (Q a)))))):ACalls prog 5 [.ag 9] [PV.sv a0 0 e0 I] N Q:=
  eE H0 h
theorem Ag {Q:QT [.cu]} {N0:Nat} {a0:Option Addr} {e0:List D} {c0:Nat} {n3 n4:Int} {N:Nat} (h :
Br (decide (n4<(e0.length:Int))) (Br (decide (n4<4000)) ((0<=n4/\n4<(e0.length:Int))/\∃ n:Int,List.getD e0 n4.toNat default=D.lit (.int
 IntKind.u8 n)/\uG Q N0 a0 e0 c0 (IntKind.i64.wrap (BitVec.toNat (HAnd.hAnd (BitVec.ofInt 64 (IntKind.i64.wrap (IntKind.i64.wrap (IntKind.i64.wrap
 (n3*131)+IntKind.i64.wrap n)+7))) (BitVec.ofInt 64 1073741823)):Int)) (IntKind.i64.wrap (n4+1)) N) (uP N (Q a0 e0 c0 0 n3))) (uP N (Q a0 e0 c0 0 n3))):uG Q N0 a0 e0 c0 n3 n4 N:=
  hE Dy h
theorem EL (N:Nat) (n1:Int) (I:Option Addr) (J:List D) (O:Nat) (U Y:Int) (Q:QT [Sh.bool,(Sh.sl 0),(Sh.int IntKind.i64),(Sh.int IntKind.i64)]) (h:∀ E:Env,
Bel N (D.sl I 0 J O)->∀ b,N<=b->BCalls prog 37 [.i,.sl 0,.i,.i] [.pb 0 0 0 0,.j n1] [Bx.var [.sv I 0 J O,.j
 U,.j Y]] b (λn a c d e f g=>b<=g->Bel g (D.sl a 0 c d)->xQ E [.var [.sv none 0 [] 0,.j 0,.j 0]]/\uP g (Q (n==0) a c d e
 f))):BCalls prog 20 [Sh.bool,(Sh.sl 0),(Sh.int IntKind.i64),(Sh.int IntKind.i64)] [.pb 0 0 0 0,.int .i64 n1] [.var [.sv I 0 J O,.int .i64 U,.int .i64 Y]] N Q:=
  bE H0 h
theorem Bj (N:Nat) (aB0_0:Option Addr) (eB0_0:List D) (cB0_0:Nat) (nB0_1 nB0_2:Int) (Q:QT [(Sh.ag 9),(Sh.sl 0),(Sh.int IntKind.i64),(Sh.int IntKind.i64)]) (h:∀ E:Env,
Bel N (D.sl aB0_0 0 eB0_0 cB0_0)->kA 2 45 [] N (fun x b=>∀ d,b<=d->BCalls prog 37 [.i,.sl 0,.i,.i] [.pb 0 0 0 0,.j 3] [Bx.var [.sv
 aB0_0 0 eB0_0 cB0_0,.j nB0_1,.j nB0_2]] d (fun n a b c e f g=>d<=g->Bel g (D.sl a 0 b c)->(0=0/\0=0)/\∀ d h,g<=h->Fresh N h d
 [D.ag []]->cA 9 44 [.sv d 4 [] 0,.dg 2 x,.j 0,.j (IntKind.i64.wrap (3+n))] a b c e f h (fun a b c d e f g=>kA 9 43 [.dg 9 a] g
 (fun a g=>xQ E [.var [.sv none 0 [] 0,.j 0,.j 0]]/\uP g (Q a b c d e f)))))):BCalls prog 22 [(Sh.ag 9),(Sh.sl 0),(Sh.int IntKind.i64),(Sh.int IntKind.i64)] [.pb 0 0 0 0] [.var [.sv aB0_0 0 eB0_0 cB0_0,.int .i64 nB0_1,.int .i64 nB0_2]] N Q:=
  bE GQ h
theorem Dc (N:Nat) (n1:Int) (aB0_0:Option Addr) (eB0_0:List D) (cB0_0:Nat) (nB0_1 nB0_2:Int) (Q:QT [(Sh.int IntKind.i64),(Sh.sl 0),(Sh.int IntKind.i64),(Sh.int IntKind.i64)]) (h:∀ E:Env,
Bel N (D.sl aB0_0 0 eB0_0 cB0_0)->Br (decide (n1<=0)) (xQ E [.var [.sv none 0 [] 0,.j 0,.j 0]]/\uP N (Q 0 aB0_0 eB0_0 cB0_0 nB0_1 nB0_2))
 (Br (decide (n1<=256)) (cI 68 [] aB0_0 eB0_0 cB0_0 nB0_1 nB0_2 N (fun n a b c d e f=>n1≠0/\xQ E [.var [.sv none 0 [] 0,.j 0,.j 0]]/\uP f (Q
 (Int.tmod n n1) a b c d e))) (cI 68 [] aB0_0 eB0_0 cB0_0 nB0_1 nB0_2 N (fun a b c d e f g=>cI 68 [] b c d e f g (fun b c
 d e f g h=>cI 68 [] c d e f g h (fun c d e f g h i=>cI 68 [] d e f g h i (fun d e f g h
 i j=>n1≠0/\xQ E [.var [.sv none 0 [] 0,.j 0,.j 0]]/\∀ k,j<=k->Q (Int.tmod (IntKind.i64.wrap (IntKind.i64.wrap (IntKind.i64.wrap
 (IntKind.i64.wrap (a*16777216)+IntKind.i64.wrap (b*65536))+IntKind.i64.wrap (c*256))+d)) n1) e f g h i k))))))):BCalls prog 37 [(Sh.int IntKind.i64),(Sh.sl 0),(Sh.int IntKind.i64),(Sh.int IntKind.i64)] [.pb 0 0 0 0,.int .i64 n1] [.var [.sv aB0_0 0 eB0_0 cB0_0,.int .i64 nB0_1,.int .i64 nB0_2]] N Q:=
  bE H0 h
theorem pD (N:Nat) (a1:Option Addr) (e1:List D) (c1:Nat) (x2:D) (n3 n4:Int) (I:Option Addr) (J:List D) (O:Nat) (U Y:Int) (Q:QT [(Sh.ag 9),(Sh.sl 0),(Sh.int IntKind.i64),(Sh.int IntKind.i64)]) (h:∀ E:Env,
Bel N (D.sl a1 4 e1 c1)->Bel N x2->Bel N (D.sl I 0 J O)->cB 20 [.j 3] I J O U Y N (λb a c d n e f=>
 Br (!b) (∀ b,f<=b->BCalls prog 75 [.ag 9,.bool,.sl 0,.i,.i] [.pb 0 0 0 0,.sv a1 4 e1 c1,.dg 2 x2,.j n3] [Bx.var [.sv a 0 c d,.j n,.j e]] b
 (λx a c d e f g h=>b<=h->Bel h x->Bel h (D.sl c 0 d e)->Br a (xQ E [.var [.sv none 0 [] 0,.j 0,.j 0]]/\uP h (Q x c
 d e f g)) (wR E Q N a1 e1 c1 n3 n4 c d e f g x2 0 b0 b0 0 0 none [] 0 0 none [] 0 none [] 0 h))) (wR E Q N a1 e1 c1
 n3 n4 a c d n e x2 0 b0 b0 0 0 none [] 0 0 none [] 0 none [] 0 f))):BCalls prog 44 [(Sh.ag 9),(Sh.sl 0),(Sh.int IntKind.i64),(Sh.int IntKind.i64)] [.pb 0 0 0 0,.sv a1 4 e1 c1,.dg 2 x2,.int .i64 n3,.int .i64 n4] [.var [.sv I 0 J O,.int .i64 U,.int .i64 Y]] N Q:=
  bE pL h
theorem EG (N:Nat) (U:Option Addr) (I:List D) (Y:Nat) (J O:Int) (Q:QT [(Sh.int IntKind.i64),(Sh.sl 0),(Sh.int IntKind.i64),(Sh.int IntKind.i64)]) (h:∀ E:Env,
Bel N (D.sl U 0 I Y)->(0:Int)<=(33:Int)/\(0:Int)<=(45:Int)/\Br (decide (J<(I.length:Int))) ((0<=J /\
 J<(I.length:Int))/\∃ n:Int,List.getD I J.toNat default=D.lit (.int IntKind.u8 n)/\xQ E [.var [.sv none 0 [] 0,.j 0,.j 0]]/\∀ a,
 N<=a->Q (IntKind.i64.wrap (BitVec.toNat (HAnd.hAnd (BitVec.ofInt 64 (IntKind.i64.wrap (IntKind.i64.wrap (BitVec.toNat (HAnd.hAnd (BitVec.ofInt 64
 (IntKind.i64.wrap (BitVec.toNat (HXor.hXor (BitVec.ofInt 64 (Int.fdiv (IntKind.i64.wrap (IntKind.i64.wrap (O*6364136223846793005)+1442695040888963407))
 8589934592)) (BitVec.ofInt 64 (Int.fdiv (IntKind.i64.wrap (IntKind.i64.wrap (O*6364136223846793005)+1442695040888963407)) 35184372088832))):Int)))
 (BitVec.ofInt 64 255)):Int)+IntKind.i64.wrap n))) (BitVec.ofInt 64 255)):Int)) U I Y (IntKind.i64.wrap (J+1)) (IntKind.i64.wrap
 (IntKind.i64.wrap (O*6364136223846793005)+1442695040888963407)) a) (xQ E [.var [.sv none 0 [] 0,.j 0,.j 0]]/\∀ a,N<=a->Q (IntKind.i64.wrap
 (BitVec.toNat (HAnd.hAnd (BitVec.ofInt 64 (IntKind.i64.wrap (BitVec.toNat (HXor.hXor (BitVec.ofInt 64 (Int.fdiv (IntKind.i64.wrap (IntKind.i64.wrap (O *
 6364136223846793005)+1442695040888963407)) 8589934592)) (BitVec.ofInt 64 (Int.fdiv (IntKind.i64.wrap (IntKind.i64.wrap (O*6364136223846793005) +
 1442695040888963407)) 35184372088832))):Int))) (BitVec.ofInt 64 255)):Int)) U I Y J (IntKind.i64.wrap (IntKind.i64.wrap (O *
 6364136223846793005)+1442695040888963407)) a)):BCalls prog 68 [(Sh.int IntKind.i64),(Sh.sl 0),(Sh.int IntKind.i64),(Sh.int IntKind.i64)] [.pb 0 0 0 0] [.var [.sv U 0 I Y,.int .i64 J,.int .i64 O]] N Q:=
  bE Im h
theorem Db (N:Nat) (a1:Option Addr) (e1:List D) (c1:Nat) (x2:D) (n3:Int) (I:Option Addr) (J:List D) (O:Nat) (U Y:Int) (Q:QT [(Sh.ag 9),Sh.bool,(Sh.sl 0),(Sh.int IntKind.i64),(Sh.int IntKind.i64)]) (h:∀ E:Env,
Bel N (D.sl a1 4 e1 c1)->Bel N x2->Bel N (D.sl I 0 J O)->zr E Q N a1 e1 c1 n3 0 0 0 I J O U Y
 x2 0 b0 b0 0 0 none [] 0 0 none [] 0 none [] 0 [] 0 N):BCalls prog 75 [(Sh.ag 9),Sh.bool,(Sh.sl 0),(Sh.int IntKind.i64),(Sh.int IntKind.i64)] [.pb 0 0 0 0,.sv a1 4 e1 c1,.dg 2 x2,.int .i64 n3] [.var [.sv I 0 J O,.int .i64 U,.int .i64 Y]] N Q:=
  bE Al h
theorem AU (E:Env) (Q:QT [(Sh.ag 9),(Sh.sl 0),(Sh.int IntKind.i64),(Sh.int IntKind.i64)]) (N0:Nat) (a1:Option Addr) (e1:List D) (c1:Nat) (n3 n4:Int) (a0_0:Option Addr) (e0_0:List D) (c0_0:Nat) (n0_1 n0_2:Int) (y1:D) (n2_0:Int) (s2_1 s2_2:ByteArray) (n2_3 n2_4:Int) (a2_5:Option Addr) (e2_5:List D) (c2_5:Nat) (n2_6:Int) (a2_7:Option Addr) (e2_7:List D) (c2_7:Nat) (a2_8:Option Addr) (e2_8:List D) (c2_8:Nat) (N:Nat) (h :
Br (decide (n4<2)) (cA 9 76 [.dg 2 y1,.j n3] a0_0 e0_0 c0_0 n0_1 n0_2 N (fun x a b c n d e=>xQ E [.var [.sv none 0 [] 0,.j 0,.j 0]]/\uP e (Q
 x a b c n d))) (cB 20 [.j 3] a0_0 e0_0 c0_0 n0_1 n0_2 N (fun b a c d e f g=>Br b (cA 9 77 [.sv a1 4 e1 c1,.dg 2 y1,.j n3,.j n4] a c d
 e f g (fun a b c d e f g=>xQ E [.var [.sv none 0 [] 0,.j 0,.j 0]]/\uP g (Q a b c d e f))) (∃ b:Int,(y1.cell 0) =
 D.j b/\Br (b==1) (cA 9 78 [.sv a1 4 e1 c1,.dg 2 y1,.j n3,.j n4] a c d e f g (fun a b c d e f g=>xQ E [.var [.sv none 0
 [] 0,.j 0,.j 0]]/\uP g (Q a b c d e f))) (Br (b==2) (cA 9 78 [.sv a1 4 e1 c1,.dg 2 y1,.j n3,.j n4] a c d e f g (fun a b
 c d e f g=>xQ E [.var [.sv none 0 [] 0,.j 0,.j 0]]/\uP g (Q a b c d e f))) (Br (b==3) (cP [D.t (bytes [120]),D.t (bytes
 [121])] 40 9 2 a c d e f g (fun s a b c d e _ _ _ f=>∃ g h,∃ i:Nat,(y1.cell 1)=D.sl g 2 h i/\((0:Int)
 <= (0:Int)/\0<(h.length:Int))/\∃ g i,∃ j:Nat,(y1.cell 1)=D.sl g 2 i j/\((0:Int)<=(0:Int)/\0<(i.length:Int))/\∃ g
 j,∃ k:Nat,(y1.cell 1)=D.sl g 2 j k/\((0:Int)<=(1:Int)/\1<(j.length:Int))/\kL 4 80 [.sv a1 4 e1 c1,.str s,.dg 2 (List.getD
 i 0 default),.j n3] f (fun f g i k=>cA 9 44 [.sv f 4 g i,.dg 2 (List.getD j 1 default),.j n3,.j (IntKind.i64.wrap (n4 - 1))]
 a b c d e k (fun a b c d e f g=>kA 9 79 [.str s,.dg 2 (List.getD h 0 default),.dg 9 a] g (fun a g=>xQ E
 [.var [.sv none 0 [] 0,.j 0,.j 0]]/\uP g (Q a b c d e f)))))) (∃ b h,∃ i:Nat,(y1.cell 1)=D.sl b 2 h i/\((0 :
 Int)<=(0:Int)/\0<(h.length:Int))/\kB 81 [.dg 2 (List.getD h 0 default)] g (fun b g=>Br b (cB 20 [.j 4] a c d e f g (fun
 a b c d e f g=>Br a (∃ a h,∃ i:Nat,(y1.cell 1)=D.sl a 2 h i/\((0:Int)<=(0:Int)/\0<(h.length :
 Int))/\cA 9 44 [.sv a1 4 e1 c1,.dg 2 (List.getD h 0 default),.j n3,.j (IntKind.i64.wrap (n4 - 1))] b c d e f g (fun a b c
 d e f g=>(1=([a]).length/\1=1)/\∀ h,ApA h [a]->∀ i,g<=i->w8 i [h]->ACalls prog 82 [.ag 9] [.j 13,.sv h 9
 [a] 1] i (fun a g=>i<=g->Off [h] a/\(Bel g a->xQ E [.var [.sv none 0 [] 0,.j 0,.j 0]]/\uP g (Q a b c d e
 f))))) (vK E Q N0 a1 e1 c1 n3 n4 b c d e f y1 n2_0 s2_1 s2_2 n2_3 n2_4 a2_5 e2_5 c2_5 n2_6 a2_7 e2_7 c2_7 a2_8 e2_8 c2_8 g)))
 (vK E Q N0 a1 e1 c1 n3 n4 a c d e f y1 n2_0 s2_1 s2_2 n2_3 n2_4 a2_5 e2_5 c2_5 n2_6 a2_7 e2_7 c2_7 a2_8 e2_8 c2_8 g))))))))):wR E Q N0 a1 e1 c1 n3 n4 a0_0 e0_0 c0_0 n0_1 n0_2 y1 n2_0 s2_1 s2_2 n2_3 n2_4 a2_5 e2_5 c2_5 n2_6 a2_7 e2_7 c2_7 a2_8 e2_8 c2_8 N:=
  hE pL h
theorem qW (E:Env) (Q:QT [(Sh.ag 9),Sh.bool,(Sh.sl 0),(Sh.int IntKind.i64),(Sh.int IntKind.i64)]) (N0:Nat) (a1:Option Addr) (e1:List D) (c1:Nat) (n3:Int) (ab a6:Nat) (I:Int) (J:Option Addr) (O:List D) (U:Nat) (Y aa:Int) (y1:D) (ac:Int) (ae ah:ByteArray) (ai aj:Int) (ak:Option Addr) (al:List D) (am:Nat) (ao:Int) (aq:Option Addr) (au:List D) (aw:Nat) (ax:Option Addr) (ay:List D) (az:Nat) (r3:List D) (q3:Nat) (N:Nat) (h :
Br (decide (I<(e1.length:Int))) ((0<=I/\I<(e1.length:Int))/\∃ n:Int,(if 0=0 then D.cell (List.getD e1 I.toNat default) 3 else D.sub
 (List.getD e1 I.toNat default) 3 0)=D.j n/\Br (n==n3) ((0<=I/\I<(e1.length:Int))/\kB 16 [.dg 2 (if 2=0 then D.cell (List.getD e1 I.toNat
 default) 1 else D.sub (List.getD e1 I.toNat default) 1 2),.dg 2 y1] N (λb a=>Br b ((0<=I/\I<(e1.length:Int))/\∃ s,(if 0=0 then D.cell
 (List.getD e1 I.toNat default) 0 else D.sub (List.getD e1 I.toNat default) 0 0)=D.t s/\kI 105 [.sv a1 4 e1 c1,.str s] a (λa b=>Br (a==I)
 ((0<=I/\I<(e1.length:Int))/\∃ a,(if 0=0 then D.cell (List.getD e1 I.toNat default) 0 else D.sub (List.getD e1 I.toNat default) 0 0)=D.t
 a/\kA 9 41 [.str a] b (λx a=>(ab=r3.length/\a6=q3)/\zC r3 [x] 136/\∀(c:Nat),zr E Q N0 a1 e1 c1 n3 (r3++[x]).length
 c (IntKind.i64.wrap (I+1)) J O U Y aa y1 ac ae ah ai aj ak al am ao aq au aw ax ay az (r3++[x]) c a))
 (zr E Q N0 a1 e1 c1 n3 ab a6 (IntKind.i64.wrap (I+1)) J O U Y aa y1 ac ae ah ai aj ak al am ao aq au
 aw ax ay az r3 q3 b))) (zr E Q N0 a1 e1 c1 n3 ab a6 (IntKind.i64.wrap (I+1)) J O U Y aa y1 ac ae ah ai aj
 ak al am ao aq au aw ax ay az r3 q3 a))) (zr E Q N0 a1 e1 c1 n3 ab a6 (IntKind.i64.wrap (I+1)) J O U Y aa
 y1 ac ae ah ai aj ak al am ao aq au aw ax ay az r3 q3 N)) (Br ((ab:Int)==0) (xQ E [.var [.sv none 0 [] 0,.j 0,.j 0]]/\∀
 a,N<=a->Q (D.ag [D.j 0,D.t b0,D.t b0,D.j 0,D.j 0,D.sl none 2 [] 0,D.j 0,D.sl none 2 [] 0,D.sl none 9 [] 0]) false J O U Y aa a) (∀
 b,N<=b->BCalls prog 37 [.i,.sl 0,.i,.i] [.pb 0 0 0 0,.j (ab:Int)] [Bx.var [.sv J 0 O U,.j Y,.j aa]] b (λa c d e f g h
 => b<=h->Bel h (D.sl c 0 d e)->(0<=a/\a<(ab:Int)/\(0+a.toNat:Nat)<r3.length)/\(0+a.toNat:Nat)<r3.length/\xQ E [.var
 [.sv none 0 [] 0,.j 0,.j 0]]/\uP h (Q (List.getD r3 (0+a.toNat:Nat) default) true c d e f g))))):zr E Q N0 a1 e1 c1 n3 ab a6 I J O U Y aa y1 ac ae ah ai aj ak al am ao aq au aw ax ay az r3 q3 N:=
  hE Al h
theorem wB (N:Nat) (x1:D) (n2:Int) (I:Option Addr) (J:List D) (O:Nat) (U Y:Int) (Q:QT [(Sh.ag 9),(Sh.sl 0),(Sh.int IntKind.i64),(Sh.int IntKind.i64)]) (h:∀ E:Env,
Bel N x1->Bel N (D.sl I 0 J O)->∃ n:Int,(x1.cell 0)=D.j n/\Br (n==1) (∀ b,N<=b->BCalls prog 37 [.i,.sl 0,.i,.i]
 [.pb 0 0 0 0,.j 4] [Bx.var [.sv I 0 J O,.j U,.j Y]] b (λa c d e f g h=>b<=h->Bel h (D.sl c 0 d e)->kA 9 112 [.j a]
 h (λx a=>xQ E [.var [.sv none 0 [] 0,.j 0,.j 0]]/\uP a (Q x c d e f g)))) (Br (n==2) (∀ a,N<=a->BCalls prog 37 [.i,.sl 0,.i,.i] [.pb
 0 0 0 0,.j 2] [Bx.var [.sv I 0 J O,.j U,.j Y]] a (λb c d e f g h=>a<=h->Bel h (D.sl c 0 d e)->kA 9 113
 [.j b] h (λa b=>xQ E [.var [.sv none 0 [] 0,.j 0,.j 0]]/\uP b (Q a c d e f g)))) (Br (n==3) (∃ a b,∃ c:Nat,(x1.cell
 1)=D.sl a 2 b c/\((0:Int)<=(0:Int)/\0<(b.length:Int))/\∃ a c,∃ d:Nat,(x1.cell 1)=D.sl a 2 c d/\((0:Int)<=(1 :
 Int)/\1<(c.length:Int))/\cA 9 76 [.dg 2 (List.getD c 1 default),.j n2] I J O U Y N (λa c d e f g h=>kA 9 79
 [.str (bytes [119]),.dg 2 (List.getD b 0 default),.dg 9 a] h (λa b=>xQ E [.var [.sv none 0 [] 0,.j 0,.j 0]]/\uP b (Q a c d e
 f g)))) (∃ a b,∃ c:Nat,(x1.cell 1)=D.sl a 2 b c/\((0:Int)<=(0:Int)/\0<(b.length:Int))/\cA 9 76 [.dg 2 (List.getD b 0
 default),.j (IntKind.i64.wrap (n2+1))] I J O U Y N (λa b c d e f g=>w3 (1=([a]).length/\1=1) (∀ h i,g
 <= i->Fresh N i h [D.ag [a],D.sl none 2 [] 0,D.sl none 2 [] 0]->xQ E [.var [.sv none 0 [] 0,.j 0,.j 0]]/\∀ g,i<=g->Q (D.ag [D.j 10,D.t
 b0,D.t b0,D.j 0,D.j 0,D.sl none 2 [] 0,D.j 0,D.sl none 2 [] 0,D.sl h 9 [a] 1]) b c d e f g)))))):BCalls prog 76 [(Sh.ag 9),(Sh.sl 0),(Sh.int IntKind.i64),(Sh.int IntKind.i64)] [.pb 0 0 0 0,.dg 2 x1,.int .i64 n2] [.var [.sv I 0 J O,.int .i64 U,.int .i64 Y]] N Q:=
  bE Hi h
theorem Ft (N:Nat) (a1:Option Addr) (e1:List D) (c1:Nat) (Y:D) (I n4:Int) (J:Option Addr) (O:List D) (U:Nat) (aa ab:Int) (Q:QT [(Sh.ag 9),(Sh.sl 0),(Sh.int IntKind.i64),(Sh.int IntKind.i64)]) (h:∀ E:Env,
Bel N (D.sl a1 4 e1 c1)->Bel N Y->Bel N (D.sl J 0 O U)->cP [D.t (bytes [120]),D.t (bytes [121]),D.t (bytes [122])] 40 9 3
 J O U aa ab N (λs a b c n d _ _ _ e=>∀ f,e<=f->BCalls prog 37 [.i,.sl 0,.i,.i] [.pb 0 0 0 0,.j 5] [Bx.var [.sv a 0
 b c,.j n,.j d]] f (λa b c d e g h=>f<=h->Bel h (D.sl b 0 c d)->Br (a==0) (kA 2 106 [] h (λx a=>cA 9 44 [.sv a1
 4 e1 c1,.dg 2 x,.j I,.j (IntKind.i64.wrap (n4 - 1))] b c d e g a (λa b c d e f g=>cA 9 44 [.sv a1 4 e1 c1,.dg 2 Y,.j I,
 .j (IntKind.i64.wrap (n4 - 1))] b c d e f g (λb c d e f g h=>cA 9 44 [.sv a1 4 e1 c1,.dg 2 Y,.j I,.j (IntKind.i64.wrap (n4
 - 1))] c d e f g h (λc d e f g h i=>(3=([a,b,c]).length/\3=3)/\∀ j,ApA j [a,b,c]->∀ k,i<=k
 -> w8 k [j]->ACalls prog 82 [.ag 9] [.j 5,.sv j 9 [a,b,c] 3] k (λa b=>k<=b->Off [j] a/\(Bel b a->xQ E [.var [.sv
 none 0 [] 0,.j 0,.j 0]]/\uP b (Q a d e f g h)))))))) (Br (a==1) (cA 2 115 [.j I] b c d e g h (λa b c d e f
 g=>cA 9 44 [.sv a1 4 e1 c1,.dg 2 a,.j I,.j (IntKind.i64.wrap (n4 - 1))] b c d e f g (λb c d e f g h=>kL 4 80 [.sv
 a1 4 e1 c1,.str s,.dg 2 a,.j I] h (λa h i j=>cA 9 44 [.sv a 4 h i,.dg 2 Y,.j I,.j (IntKind.i64.wrap (n4 - 1))] c d e
 f g j (λa c d e f g h=>kA 9 116 [.str s,.dg 9 b,.dg 9 a] h (λa b=>xQ E [.var [.sv none 0 [] 0,.j 0,.j 0]] /\
 uP b (Q a c d e f g))))))) (Br (a==2) (cA 2 115 [.j I] b c d e g h (λa b c d e f g=>kL 4 80 [.sv a1
 4 e1 c1,.str s,.dg 2 a,.j I] g (λg h i j=>cA 9 44 [.sv g 4 h i,.dg 2 Y,.j I,.j (IntKind.i64.wrap (n4 - 1))] b c
 d e f j (λb c d e f g h=>kA 9 79 [.str s,.dg 2 a,.dg 9 b] h (λb h=>cA 9 44 [.sv a1 4 e1 c1,.dg 2 a,
 .j I,.j (IntKind.i64.wrap (n4 - 1))] c d e f g h (λa c d e f g h=>(2=([b,a]).length/\2=2)/\∀ i,
 ApA i [b,a]->∀ j,h<=j->w8 j [i]->ACalls prog 82 [.ag 9] [.j 7,.sv i 9 [b,a] 2] j (λa b=>j<=b->Off
 [i] a/\(Bel b a->xQ E [.var [.sv none 0 [] 0,.j 0,.j 0]]/\uP b (Q a c d e f g))))))))) (Br (a==3) (kI 117 [.dg 2 Y]
 h (λa f=>Br (decide (IntKind.i64.wrap (I+a)<2)) (kL 4 118 [.sv a1 4 e1 c1,.j I] f (λa f h i=>kA 2 72 [.dg 2 Y] i (fun
 i j=>cA 9 44 [.sv a 4 f h,.dg 2 i,.j I,.j (IntKind.i64.wrap (n4 - 1))] b c d e g j (λa b c d e f g
 => (1=([a]).length/\1=1)/\∀ h,ApA h [a]->∀ i,g<=i->w8 i [h]->ACalls prog 82 [.ag 9] [.j 12,.sv h 9 [a] 1] i (fun
 a g=>i<=g->Off [h] a/\(Bel g a->xQ E [.var [.sv none 0 [] 0,.j 0,.j 0]]/\uP g (Q a b c d e f))))))) (Br
 (decide (I>0)) (kA 2 72 [.dg 2 Y] f (λa f=>cA 9 44 [.sv a1 4 e1 c1,.dg 2 a,.j (IntKind.i64.wrap (I - 1)),.j (IntKind.i64.wrap (n4 - 1))]
 b c d e g f (λa b c d e f g=>(1=([a]).length/\1=1)/\∀ h,ApA h [a]->∀ i,g<=i->w8 i [h]
 -> ACalls prog 82 [.ag 9] [.j 11,.sv h 9 [a] 1] i (λa g=>i<=g->Off [h] a/\(Bel g a->xQ E [.var [.sv none 0 [] 0,.j 0,.j
 0]]/\uP g (Q a b c d e f)))))) (cA 9 76 [.dg 2 Y,.j I] b c d e g f (λa b c d e f g=>xQ E [.var
 [.sv none 0 [] 0,.j 0,.j 0]]/\uP g (Q a b c d e f)))))) (Br (decide (I>0)) (kA 2 72 [.dg 2 Y] h (λa f=>cA 9 44 [.sv a1 4
 e1 c1,.dg 2 a,.j (IntKind.i64.wrap (I - 1)),.j (IntKind.i64.wrap (n4 - 1))] b c d e g f (λa b c d e f g=>(1 =
 ([a]).length/\1=1)/\∀ h,ApA h [a]->∀ i,g<=i->w8 i [h]->ACalls prog 82 [.ag 9] [.j 11,.sv h 9 [a] 1] i (λa g
 => i<=g->Off [h] a/\(Bel g a->xQ E [.var [.sv none 0 [] 0,.j 0,.j 0]]/\uP g (Q a b c d e f)))))) (cA 9 76 [.dg 2
 Y,.j I] b c d e g h (λa b c d e f g=>xQ E [.var [.sv none 0 [] 0,.j 0,.j 0]]/\uP g (Q a b c d e
 f)))))))))):BCalls prog 77 [(Sh.ag 9),(Sh.sl 0),(Sh.int IntKind.i64),(Sh.int IntKind.i64)] [.pb 0 0 0 0,.sv a1 4 e1 c1,.dg 2 Y,.int .i64 I,.int .i64 n4] [.var [.sv J 0 O U,.int .i64 aa,.int .i64 ab]] N Q:=
  bE LN h
theorem EW (N:Nat) (a1:Option Addr) (e1:List D) (c1:Nat) (x2:D) (n3 n4:Int) (I:Option Addr) (J:List D) (O:Nat) (U Y:Int) (Q:QT [(Sh.ag 9),(Sh.sl 0),(Sh.int IntKind.i64),(Sh.int IntKind.i64)]) (h:∀ E:Env,
Bel N (D.sl a1 4 e1 c1)->Bel N x2->Bel N (D.sl I 0 J O)->kA 2 45 [] N (λx b=>kA 2 106 [] b (λb d=>∃ n:Int,
 (x2.cell 0)=D.j n/\Br (n==1) (cP [D.t (bytes [43]),D.t (bytes [42]),D.t (bytes [45]),D.t (bytes [43])] 40 9 4 I J O U Y d (λs a
 b c d e _ _ _ f=>cA 9 44 [.sv a1 4 e1 c1,.dg 2 x,.j n3,.j (IntKind.i64.wrap (n4 - 1))] a b c d e f (λa b c d e f g=>
 cA 9 44 [.sv a1 4 e1 c1,.dg 2 x,.j n3,.j (IntKind.i64.wrap (n4 - 1))] b c d e f g (λb c d e f g h=>(2=([a,b]).length /\
 2=2)/\∀ i,ApA i [a,b]->∀ j,h<=j->w8 j [i]->ACalls prog 119 [.ag 9] [.str s,.sv i 9 [a,b] 2] j (λa b=>j<=b
 -> Off [i] a/\(Bel b a->xQ E [.var [.sv none 0 [] 0,.j 0,.j 0]]/\uP b (Q a c d e f g))))))) (∀ a,d<=a->BCalls prog 37 [.i,
 .sl 0,.i,.i] [.pb 0 0 0 0,.j 4] [Bx.var [.sv I 0 J O,.j U,.j Y]] a (λc d e f g h i=>a<=i->Bel i (D.sl d
 0 e f)->Br (c==0) (cA 9 44 [.sv a1 4 e1 c1,.dg 2 b,.j n3,.j (IntKind.i64.wrap (n4 - 1))] d e f g h i (λa b c d e f
 g=>(1=([a]).length/\1=1)/\∀ h,ApA h [a]->∀ i,g<=i->w8 i [h]->ACalls prog 119 [.ag 9] [.str (bytes [33]),.sv h 9 [a] 1]
 i (λa g=>i<=g->Off [h] a/\(Bel g a->xQ E [.var [.sv none 0 [] 0,.j 0,.j 0]]/\uP g (Q a b c d e f))))) (Br (c
 == 1) (cP [D.t (bytes [38]),D.t (bytes [124])] 40 9 2 d e f g h i (λa c d e f g _ _ _ h=>cA 9 44 [.sv a1 4 e1 c1,.dg
 2 b,.j n3,.j (IntKind.i64.wrap (n4 - 1))] c d e f g h (λc d e f g h i=>cA 9 44 [.sv a1 4 e1 c1,.dg 2 b,.j n3,.j
 (IntKind.i64.wrap (n4 - 1))] d e f g h i (λb d e f g h i=>(2=([c,b]).length/\2=2)/\∀ j,ApA j [c,b]
 -> ∀ k,i<=k->w8 k [j]->ACalls prog 119 [.ag 9] [.str a,.sv j 9 [c,b] 2] k (λa b=>k<=b->Off [j] a/\(Bel b a
 -> xQ E [.var [.sv none 0 [] 0,.j 0,.j 0]]/\uP b (Q a d e f g h))))))) (cP [D.t (bytes [61]),D.t (bytes [60])] 40 9 2 d e f g
 h i (λa b c d e f _ _ _ g=>cA 9 44 [.sv a1 4 e1 c1,.dg 2 x,.j n3,.j (IntKind.i64.wrap (n4 - 1))] b c d e
 f g (λb c d e f g h=>cA 9 44 [.sv a1 4 e1 c1,.dg 2 x,.j n3,.j (IntKind.i64.wrap (n4 - 1))] c d e f g h (fun
 c d e f g h i=>(2=([b,c]).length/\2=2)/\∀ j,ApA j [b,c]->∀ k,i<=k->w8 k [j]->ACalls prog 119
 [.ag 9] [.str a,.sv j 9 [b,c] 2] k (λa b=>k<=b->Off [j] a/\(Bel b a->xQ E [.var [.sv none 0 [] 0,.j 0,.j 0]] /\
 uP b (Q a d e f g h))))))))))))):BCalls prog 78 [(Sh.ag 9),(Sh.sl 0),(Sh.int IntKind.i64),(Sh.int IntKind.i64)] [.pb 0 0 0 0,.sv a1 4 e1 c1,.dg 2 x2,.int .i64 n3,.int .i64 n4] [.var [.sv I 0 J O,.int .i64 U,.int .i64 Y]] N Q:=
  bE Iz h
theorem EP (N:Nat) (m1 c1:Nat) (I:Option Addr) (J:List D) (O:Nat) (Y aa:Int) (U:List D) (ab:Nat) (Q:QT [Sh.str,(Sh.sl 0),(Sh.int IntKind.i64),(Sh.int IntKind.i64),(Sh.sl 0)]) (h:∀ E:Env,
Bel N (D.sl I 0 J O)->Bel N (D.sl none 0 U ab)->∀ b,N<=b->BCalls prog 37 [.i,.sl 0,.i,.i] [.pb 0 0 0 0,.j (m1:Int)]
 [Bx.var [.sv I 0 J O,.j Y,.j aa]] b (λn a c d e f g=>b<=g->Bel g (D.sl a 0 c d)->(0<=n/\n<(m1:Int)/\(0+n.toNat
 : Nat)<U.length)/\(0+n.toNat:Nat)<U.length/\∃ s,List.getD U (0+n.toNat:Nat) default=D.t s/\xQ E [.var [.sv none 0 [] 0,.j 0,.j 0],
 .arr 9 0 [] 0]/\uP g (Q s a c d e f none U ab))):BCalls prog 40 [Sh.str,(Sh.sl 0),(Sh.int IntKind.i64),(Sh.int IntKind.i64),(Sh.sl 0)] [.pb 0 0 0 0,.sb 1 0 0 m1 c1] [.var [.sv I 0 J O,.int .i64 Y,.int .i64 aa],.arr 9 0 U ab] N Q:=
  bE H0 h
theorem Fg (E:Env) (Q:QT [(Sh.ag 9),(Sh.sl 0),(Sh.int IntKind.i64),(Sh.int IntKind.i64)]) (N0:Nat) (a1:Option Addr) (e1:List D) (c1:Nat) (n3 n4:Int) (I:Option Addr) (J:List D) (O:Nat) (U Y:Int) (y1:D) (aa:Int) (ab ac:ByteArray) (ae ah:Int) (ai:Option Addr) (aj:List D) (ak:Nat) (al:Int) (am:Option Addr) (ao:List D) (aq:Nat) (au:Option Addr) (aw:List D) (ax:Nat) (N:Nat) (h :
∃ a b,∃ c:Nat,(y1.cell 1)=D.sl a 2 b c/\((0:Int)<=(0:Int)/\0<(b.length:Int))/\cA 9 44 [.sv a1 4 e1 c1,.dg 2 (List.getD b 0 default),
 .j (IntKind.i64.wrap (n3+1)),.j (IntKind.i64.wrap (n4 - 1))] I J O U Y N (λx a b c n d e=>(1=([x]).length/\1=1)/\∀ f,
 ApA f [x]->∀ g,e<=g->w8 g [f]->ACalls prog 82 [.ag 9] [.j 10,.sv f 9 [x] 1] g (λe h=>g<=h->Off [f] e/\(Bel h e->xQ E
 [.var [.sv none 0 [] 0,.j 0,.j 0]]/\uP h (Q e a b c n d))))):vK E Q N0 a1 e1 c1 n3 n4 I J O U Y y1 aa ab ac ae ah ai aj ak al am ao aq au aw ax N:=
  hE pL h
theorem D9 (N:Nat) (n1:Int) (I:Option Addr) (J:List D) (O:Nat) (U Y:Int) (Q:QT [(Sh.ag 2),(Sh.sl 0),(Sh.int IntKind.i64),(Sh.int IntKind.i64)]) (h:∀ E:Env,
Bel N (D.sl I 0 J O)->kA 2 45 [] N (λx d=>Br (decide (n1<2)) (cB 20 [.j 2] I J O U Y d (λb a c d n
 e f=>Br b (kA 2 72 [.dg 2 x] f (λb f=>xQ E [.var [.sv none 0 [] 0,.j 0,.j 0]]/\uP f (Q b a c d n e))) (cB 20 [.j 3] a c d n e f
 (λa b c d e f g=>Br a (kA 2 73 [.dg 2 x,.dg 2 x] g (λa g=>xQ E [.var [.sv none 0 [] 0,.j 0,.j 0]]/\uP g (Q a b c
 d e f))) (xQ E [.var [.sv none 0 [] 0,.j 0,.j 0]]/\uP g (Q x b c d e f)))))) (cB 20 [.j 3] I J O U Y d (λa b
 c d e f g=>Br a (kA 2 73 [.dg 2 x,.dg 2 x] g (λa g=>xQ E [.var [.sv none 0 [] 0,.j 0,.j 0]]/\uP g (Q a b c d e
 f))) (xQ E [.var [.sv none 0 [] 0,.j 0,.j 0]]/\uP g (Q x b c d e f))))) ):BCalls prog 115 [(Sh.ag 2),(Sh.sl 0),(Sh.int IntKind.i64),(Sh.int IntKind.i64)] [.pb 0 0 0 0,.int .i64 n1] [.var [.sv I 0 J O,.int .i64 U,.int .i64 Y]] N Q:=
  bE KM h
end Go.Proofs.YtligajflgjpdnaaGreatDoor
set_option maxRecDepth 100000
namespace Go.Proofs.YtligajflgjpdnaaGreatDoor
open Go Go.Proofs Go.Proofs.Tryz
theorem Oj (N:Nat) (a0:Option Addr) (e0:List D) (I:Nat) (Q:QT [.bool]) (h :
Bel N (D.sl a0 0 e0 I)->∀ a,N<=a->Q (decide ((e0.length:Int)>1048576)) a):ACalls prog 4 [.bool] [PV.sv a0 0 e0 I] N Q:=
 eE H0 h
end Go.Proofs.YtligajflgjpdnaaGreatDoor
set_option maxRecDepth 100000
namespace Go.Proofs.YtligajflgjpdnaaGreatDoor
open Go Go.Proofs Go.Proofs.Tryz
def shA:FuncId->List Sh:=λf=>match Qy f [(112,[.pk,.int .i64,.str,.str,.int .i64,.dc,.dc,.dc,.dc,.row 29 9]),(113,[.pk,.int .i64,.str,.str,.int .i64,.dc,.dc,.dc,.dc,.row 29 9]),(41,[.pk,.int .i64,.str,.str,.int .i64,.dc,.dc,.dc,.dc,.row 29 9]),(69,[.row 0 1000007,.pk,.int .i64,.str,.str,.int .i64,.dc,.dc,.dc,.dc,.row 29 9]),(38,[.row 0 1000007,.pk,.int .i64,.str,.str,.int .i64,.dc,.dc,.dc,.dc,.row 29 9])]with
 | []=>sh f
 | l=>l
theorem Tv {f:FuncId}{rs:List Sh}{Q:QT rs}{N:Nat}(H:Hint){args:List PV}{F:Prop}(h:F)(hc:wE prog f=true:=by kernel_rfl)(I:F=Lw prog shA f rs Q N H 400 args:=by kernel_rfl):ACalls prog f rs args N Q:=Uf mixed hc I h
theorem PP {f:FuncId}{full:List Sh}{Q:QT full}{N:Nat}(H:Hint){args:List PV}{bx:List Bx}{F:Env->Prop}(h:∀ E,F E)(hc:wE prog f=true:=by kernel_rfl)(I:∀ E,F E=Kg prog shA f full Q N H 400 args bx E:=by intro E;kernel_rfl):BCalls prog f full args bx N Q:=Q4 mixed hc I h
theorem Cr {f:FuncId}{rs:List Sh}{Q:QT rs}{N0:Nat}{M:Mode}(H:Hint){I:List Item}{st:St}{F:Prop}(h:F)(J:F=EO st λst=>W prog shA f rs Q N0 M H 400 true I st:=by kernel_rfl):AT prog f rs Q N0 M I st:=X7 mixed J h
def I9:Hint:=⟨[],[],[(4,hs 6 [ec 4 [21]]),(6,[en 0,en 1,en 2,en 3,eh 4,ec 5 [27,31],eh 6])]⟩
def zq:Hint:=⟨[hc 18 [0,1,4,5,6,7] [] [(5,8,29,9)]],[hc 11 [0,1,4,5] [] [(5,8,29,9)],hc 13 [0,1,4,5] [] [(5,8,29,9)],hc 16 [0,1,4,5] [] [(5,8,29,9)]],[(20,[en 0,en 1,en 2,en 3,en 4,eh 5,{ i:=6,hard:=true,cl:=[69],fs:=[5,69] },eh 7,en 8,eh 9])]⟩
def rg:Hint:=⟨[hc 10 [2,3,4,5],hc 15 [2,3,6]],[],[(6,[en 0,en 1,eh 2,en 3,eh 4,en 5,eh 6]),(12,hs 3 [ec 1 [34]]),(17,hs 4 [ec 2 [42,43]])]⟩
def JZ:Hint:=⟨[],[],[(10,[en 0,en 1,eh 2,{ i:=3,hard:=true,cl:=[32],fs:=[3,32] },eh 4,en 5,eh 6])]⟩
def yI (E:Env)(Q:QT [.pk,.i,.str,.str,.i,.dc,.dc,.dc,.dc,.row 29 9,.sl 0,.i,.i])(N0:Nat)(n1:Int)(I:Option Addr)(J:List D)(O:Nat)(U Y aa:Int)(ab ac:ByteArray)(ae ah:Int)(ai:Option Addr)(aj:List D)(ak:Nat)(al:Int)(am:Option Addr)(ao:List D)(aq:Nat)(au:Option Addr)(aw:List D)(ax:Nat)(ay:Int)(az a6:ByteArray)(a7 a8:Int)(ba:Option Addr)(bc:List D)(bg:Nat)(bh:Int)(bi:Option Addr)(bj:List D)(bm bp bq:Nat)(r3:List D)(q3:Nat)(N:Nat):Prop:=AT prog 38 [.pk,.i,.str,.str,.i,.dc,.dc,.dc,.dc,.row 29 9,.sl 0,.i,.i] Q N0 (.io E [.var [.sv none 0 [] 0,.int .i64 0,.int .i64 0]]) (wG prog 38 11) ⟨.pb 0 0 0 0::.int .i64 n1::an 2 (.pb 1 0 0 0::.pb 2 0 0 0::an 68 []),[.var [.sv I 0 J O,.int .i64 U,.int .i64 Y],.var [.int .i64 aa,.str ab,.str ac,.int .i64 ae,.int .i64 ah,.sv ai 2 aj ak,.int .i64 al,.sv am 2 ao aq,.sv au 9 aw ax],.var [.int .i64 ay,.str az,.str a6,.int .i64 a7,.int .i64 a8,.sv ba 2 bc bg,.int .i64 bh,.sv bi 2 bj bm,.sb 3 9 0 bp bq],.arr 29 9 r3 q3],N,some (x9 E 0 [.var [.sv none 0 [] 0,.int .i64 0,.int .i64 0]],[])⟩
def wi (E:Env)(Q:QT [.ag 2,.sl 0,.i,.i])(N0:Nat)(n4 n5:Int)(I:Option Addr)(J:List D)(O:Nat)(U Y aa:Int)(ab:Option Addr)(ac:List D)(ae:Nat)(y2:D)(N:Nat):Prop:=AT prog 42 [.ag 2,.sl 0,.i,.i] Q N0 (.io E [.var [.sv none 0 [] 0,.int .i64 0,.int .i64 0]]) (zG prog 42 10) ⟨an 2 (.pb 1 0 0 0::.pb 2 0 0 0::.int .i64 n4::.int .i64 n5::an 40 []),[.var [.sv I 0 J O,.int .i64 U,.int .i64 Y],.var [.int .i64 aa,.sv ab 2 ac ae],.vd y2 2],N,some (x9 E 0 [.var [.sv none 0 [] 0,.int .i64 0,.int .i64 0]],[])⟩
def wc (E:Env)(Q:QT [.ag 2,.sl 0,.i,.i])(N0:Nat)(n6:Int)(I:Option Addr)(J:List D)(O:Nat)(U Y aa:Int)(ab:Option Addr)(ac:List D)(ae:Nat)(y2:D)(N:Nat):Prop:=AT prog 42 [.ag 2,.sl 0,.i,.i] Q N0 (.io E [.var [.sv none 0 [] 0,.int .i64 0,.int .i64 0]]) (zG prog 42 15) ⟨an 2 (.pb 1 0 0 0::.pb 2 0 0 0::an 2 (.int .i64 n6::an 39 [])),[.var [.sv I 0 J O,.int .i64 U,.int .i64 Y],.var [.int .i64 aa,.sv ab 2 ac ae],.vd y2 2],N,some (x9 E 0 [.var [.sv none 0 [] 0,.int .i64 0,.int .i64 0]],[])⟩
def vM (E:Env)(Q:QT [.pk,.i,.str,.str,.i,.dc,.dc,.dc,.dc,.row 29 9,.sl 0,.i,.i])(N0:Nat)(n1:Int)(I:Option Addr)(J:List D)(O:Nat)(U Y aa:Int)(ab ac:ByteArray)(ae ah:Int)(ai:Option Addr)(aj:List D)(ak:Nat)(al:Int)(am:Option Addr)(ao:List D)(aq:Nat)(au:Option Addr)(aw:List D)(ax:Nat)(ay:Int)(az a6:ByteArray)(a7:Int)(a8 ba:D)(bc:Int)(bg:Option Addr)(bh:List D)(bi bj bm:Nat)(r3:List D)(q3:Nat)(N:Nat):Prop:=AT prog 38 [.pk,.i,.str,.str,.i,.dc,.dc,.dc,.dc,.row 29 9,.sl 0,.i,.i] Q N0 (.io E [.var [.sv none 0 [] 0,.int .i64 0,.int .i64 0]]) (wG prog 38 13) ⟨.pb 0 0 0 0::.int .i64 n1::an 2 (.pb 1 0 0 0::.pb 2 0 0 0::an 68 []),[.var [.sv I 0 J O,.int .i64 U,.int .i64 Y],.var [.int .i64 aa,.str ab,.str ac,.int .i64 ae,.int .i64 ah,.sv ai 2 aj ak,.int .i64 al,.sv am 2 ao aq,.sv au 9 aw ax],.var [.int .i64 ay,.str az,.str a6,.int .i64 a7,.dc a8,.dc ba,.int .i64 bc,.sv bg 2 bh bi,.sb 3 9 0 bj bm],.arr 29 9 r3 q3],N,some (x9 E 0 [.var [.sv none 0 [] 0,.int .i64 0,.int .i64 0]],[])⟩
def vX (E:Env)(Q:QT [.pk,.i,.str,.str,.i,.dc,.dc,.dc,.dc,.row 29 9,.sl 0,.i,.i])(N0:Nat)(n1:Int)(I:Option Addr)(J:List D)(O:Nat)(U Y aa:Int)(ab ac:ByteArray)(ae ah:Int)(ai:Option Addr)(aj:List D)(ak:Nat)(al:Int)(am:Option Addr)(ao:List D)(aq:Nat)(au:Option Addr)(aw:List D)(ax:Nat)(ay:Int)(az a6:ByteArray)(a7 a8:Int)(ba:Option Addr)(bc:List D)(bg:Nat)(bh:Int)(bi:Option Addr)(bj:List D)(bm bp bq:Nat)(r3:List D)(q3:Nat)(N:Nat):Prop:=AT prog 38 [.pk,.i,.str,.str,.i,.dc,.dc,.dc,.dc,.row 29 9,.sl 0,.i,.i] Q N0 (.io E [.var [.sv none 0 [] 0,.int .i64 0,.int .i64 0]]) (wG prog 38 13) ⟨.pb 0 0 0 0::.int .i64 n1::an 2 (.pb 1 0 0 0::.pb 2 0 0 0::an 68 []),[.var [.sv I 0 J O,.int .i64 U,.int .i64 Y],.var [.int .i64 aa,.str ab,.str ac,.int .i64 ae,.int .i64 ah,.sv ai 2 aj ak,.int .i64 al,.sv am 2 ao aq,.sv au 9 aw ax],.var [.int .i64 ay,.str az,.str a6,.int .i64 a7,.int .i64 a8,.sv ba 2 bc bg,.int .i64 bh,.sv bi 2 bj bm,.sb 3 9 0 bp bq],.arr 29 9 r3 q3],N,some (x9 E 0 [.var [.sv none 0 [] 0,.int .i64 0,.int .i64 0]],[])⟩
def tR (E:Env)(Q:QT [.pk,.i,.str,.str,.i,.dc,.dc,.dc,.dc,.row 29 9,.sl 0,.i,.i])(N0:Nat)(n1:Int)(I:Option Addr)(J:List D)(O:Nat)(U Y aa:Int)(ab ac:ByteArray)(ae ah:Int)(ai:Option Addr)(aj:List D)(ak:Nat)(al:Int)(am:Option Addr)(ao:List D)(aq:Nat)(au:Option Addr)(aw:List D)(ax:Nat)(ay:Int)(az a6:ByteArray)(a7:Int)(a8 ba bc bg:D)(bh bi:Nat)(r3:List D)(q3:Nat)(N:Nat):Prop:=AT prog 38 [.pk,.i,.str,.str,.i,.dc,.dc,.dc,.dc,.row 29 9,.sl 0,.i,.i] Q N0 (.io E [.var [.sv none 0 [] 0,.int .i64 0,.int .i64 0]]) (wG prog 38 16) ⟨.pb 0 0 0 0::.int .i64 n1::an 2 (.pb 1 0 0 0::.pb 2 0 0 0::an 68 []),[.var [.sv I 0 J O,.int .i64 U,.int .i64 Y],.var [.int .i64 aa,.str ab,.str ac,.int .i64 ae,.int .i64 ah,.sv ai 2 aj ak,.int .i64 al,.sv am 2 ao aq,.sv au 9 aw ax],.var [.int .i64 ay,.str az,.str a6,.int .i64 a7,.dc a8,.dc ba,.dc bc,.dc bg,.sb 3 9 0 bh bi],.arr 29 9 r3 q3],N,some (x9 E 0 [.var [.sv none 0 [] 0,.int .i64 0,.int .i64 0]],[])⟩
def vJ (E:Env)(Q:QT [.pk,.i,.str,.str,.i,.dc,.dc,.dc,.dc,.row 29 9,.sl 0,.i,.i])(N0:Nat)(n1:Int)(I:Option Addr)(J:List D)(O:Nat)(U Y aa:Int)(ab ac:ByteArray)(ae ah:Int)(ai:Option Addr)(aj:List D)(ak:Nat)(al:Int)(am:Option Addr)(ao:List D)(aq:Nat)(au:Option Addr)(aw:List D)(ax:Nat)(ay:Int)(az a6:ByteArray)(a7:Int)(a8 ba:D)(bc:Int)(bg:Option Addr)(bh:List D)(bi bj bm:Nat)(r3:List D)(q3:Nat)(N:Nat):Prop:=AT prog 38 [.pk,.i,.str,.str,.i,.dc,.dc,.dc,.dc,.row 29 9,.sl 0,.i,.i] Q N0 (.io E [.var [.sv none 0 [] 0,.int .i64 0,.int .i64 0]]) (wG prog 38 16) ⟨.pb 0 0 0 0::.int .i64 n1::an 2 (.pb 1 0 0 0::.pb 2 0 0 0::an 68 []),[.var [.sv I 0 J O,.int .i64 U,.int .i64 Y],.var [.int .i64 aa,.str ab,.str ac,.int .i64 ae,.int .i64 ah,.sv ai 2 aj ak,.int .i64 al,.sv am 2 ao aq,.sv au 9 aw ax],.var [.int .i64 ay,.str az,.str a6,.int .i64 a7,.dc a8,.dc ba,.int .i64 bc,.sv bg 2 bh bi,.sb 3 9 0 bj bm],.arr 29 9 r3 q3],N,some (x9 E 0 [.var [.sv none 0 [] 0,.int .i64 0,.int .i64 0]],[])⟩
def vH (E:Env)(Q:QT [.pk,.i,.str,.str,.i,.dc,.dc,.dc,.dc,.row 29 9,.sl 0,.i,.i])(N0:Nat)(n1:Int)(I:Option Addr)(J:List D)(O:Nat)(U Y aa:Int)(ab ac:ByteArray)(ae ah:Int)(ai:Option Addr)(aj:List D)(ak:Nat)(al:Int)(am:Option Addr)(ao:List D)(aq:Nat)(au:Option Addr)(aw:List D)(ax:Nat)(ay:Int)(az a6:ByteArray)(a7 a8:Int)(ba:Option Addr)(bc:List D)(bg:Nat)(bh bi:D)(bj bm:Nat)(r3:List D)(q3:Nat)(N:Nat):Prop:=AT prog 38 [.pk,.i,.str,.str,.i,.dc,.dc,.dc,.dc,.row 29 9,.sl 0,.i,.i] Q N0 (.io E [.var [.sv none 0 [] 0,.int .i64 0,.int .i64 0]]) (wG prog 38 16) ⟨.pb 0 0 0 0::.int .i64 n1::an 2 (.pb 1 0 0 0::.pb 2 0 0 0::an 68 []),[.var [.sv I 0 J O,.int .i64 U,.int .i64 Y],.var [.int .i64 aa,.str ab,.str ac,.int .i64 ae,.int .i64 ah,.sv ai 2 aj ak,.int .i64 al,.sv am 2 ao aq,.sv au 9 aw ax],.var [.int .i64 ay,.str az,.str a6,.int .i64 a7,.int .i64 a8,.sv ba 2 bc bg,.dc bh,.dc bi,.sb 3 9 0 bj bm],.arr 29 9 r3 q3],N,some (x9 E 0 [.var [.sv none 0 [] 0,.int .i64 0,.int .i64 0]],[])⟩
def vT (E:Env)(Q:QT [.pk,.i,.str,.str,.i,.dc,.dc,.dc,.dc,.row 29 9,.sl 0,.i,.i])(N0:Nat)(n1:Int)(I:Option Addr)(J:List D)(O:Nat)(U Y aa:Int)(ab ac:ByteArray)(ae ah:Int)(ai:Option Addr)(aj:List D)(ak:Nat)(al:Int)(am:Option Addr)(ao:List D)(aq:Nat)(au:Option Addr)(aw:List D)(ax:Nat)(ay:Int)(az a6:ByteArray)(a7 a8:Int)(ba:Option Addr)(bc:List D)(bg:Nat)(bh:Int)(bi:Option Addr)(bj:List D)(bm bp bq:Nat)(r3:List D)(q3:Nat)(N:Nat):Prop:=AT prog 38 [.pk,.i,.str,.str,.i,.dc,.dc,.dc,.dc,.row 29 9,.sl 0,.i,.i] Q N0 (.io E [.var [.sv none 0 [] 0,.int .i64 0,.int .i64 0]]) (wG prog 38 16) ⟨.pb 0 0 0 0::.int .i64 n1::an 2 (.pb 1 0 0 0::.pb 2 0 0 0::an 68 []),[.var [.sv I 0 J O,.int .i64 U,.int .i64 Y],.var [.int .i64 aa,.str ab,.str ac,.int .i64 ae,.int .i64 ah,.sv ai 2 aj ak,.int .i64 al,.sv am 2 ao aq,.sv au 9 aw ax],.var [.int .i64 ay,.str az,.str a6,.int .i64 a7,.int .i64 a8,.sv ba 2 bc bg,.int .i64 bh,.sv bi 2 bj bm,.sb 3 9 0 bp bq],.arr 29 9 r3 q3],N,some (x9 E 0 [.var [.sv none 0 [] 0,.int .i64 0,.int .i64 0]],[])⟩
def vO (E:Env)(Q:QT [.pk,.i,.str,.str,.i,.dc,.dc,.dc,.dc,.row 29 9,.sl 0,.i,.i])(N0:Nat)(n1 n6 n7:Int)(I:Option Addr)(J:List D)(O:Nat)(U Y aa:Int)(ab ac:ByteArray)(ae ah:Int)(ai:Option Addr)(aj:List D)(ak:Nat)(al:Int)(am:Option Addr)(ao:List D)(aq:Nat)(au:Option Addr)(aw:List D)(ax:Nat)(ay:Int)(az a6:ByteArray)(a7:Int)(a8 ba bc bg:D)(bh bi:Nat)(r3:List D)(q3:Nat)(N:Nat):Prop:=AT prog 38 [.pk,.i,.str,.str,.i,.dc,.dc,.dc,.dc,.row 29 9,.sl 0,.i,.i] Q N0 (.io E [.var [.sv none 0 [] 0,.int .i64 0,.int .i64 0]]) (zG prog 38 18) ⟨.pb 0 0 0 0::.int .i64 n1::an 2 (.pb 1 0 0 0::.pb 2 0 0 0::.int .i64 n6::.int .i64 n7::an 66 []),[.var [.sv I 0 J O,.int .i64 U,.int .i64 Y],.var [.int .i64 aa,.str ab,.str ac,.int .i64 ae,.int .i64 ah,.sv ai 2 aj ak,.int .i64 al,.sv am 2 ao aq,.sv au 9 aw ax],.var [.int .i64 ay,.str az,.str a6,.int .i64 a7,.dc a8,.dc ba,.dc bc,.dc bg,.sb 3 9 0 bh bi],.arr 29 9 r3 q3],N,some (x9 E 0 [.var [.sv none 0 [] 0,.int .i64 0,.int .i64 0]],[])⟩
def xg (E:Env)(Q:QT [.pk,.i,.str,.str,.i,.dc,.dc,.dc,.dc,.row 29 9,.sl 0,.i,.i])(N0:Nat)(n1 n6 n7:Int)(I:Option Addr)(J:List D)(O:Nat)(U Y aa:Int)(ab ac:ByteArray)(ae ah:Int)(ai:Option Addr)(aj:List D)(ak:Nat)(al:Int)(am:Option Addr)(ao:List D)(aq:Nat)(au:Option Addr)(aw:List D)(ax:Nat)(ay:Int)(az a6:ByteArray)(a7:Int)(a8 ba:D)(bc:Int)(bg:Option Addr)(bh:List D)(bi bj bm:Nat)(r3:List D)(q3:Nat)(N:Nat):Prop:=AT prog 38 [.pk,.i,.str,.str,.i,.dc,.dc,.dc,.dc,.row 29 9,.sl 0,.i,.i] Q N0 (.io E [.var [.sv none 0 [] 0,.int .i64 0,.int .i64 0]]) (zG prog 38 18) ⟨.pb 0 0 0 0::.int .i64 n1::an 2 (.pb 1 0 0 0::.pb 2 0 0 0::.int .i64 n6::.int .i64 n7::an 66 []),[.var [.sv I 0 J O,.int .i64 U,.int .i64 Y],.var [.int .i64 aa,.str ab,.str ac,.int .i64 ae,.int .i64 ah,.sv ai 2 aj ak,.int .i64 al,.sv am 2 ao aq,.sv au 9 aw ax],.var [.int .i64 ay,.str az,.str a6,.int .i64 a7,.dc a8,.dc ba,.int .i64 bc,.sv bg 2 bh bi,.sb 3 9 0 bj bm],.arr 29 9 r3 q3],N,some (x9 E 0 [.var [.sv none 0 [] 0,.int .i64 0,.int .i64 0]],[])⟩
def xb (E:Env)(Q:QT [.pk,.i,.str,.str,.i,.dc,.dc,.dc,.dc,.row 29 9,.sl 0,.i,.i])(N0:Nat)(n1 n6 n7:Int)(I:Option Addr)(J:List D)(O:Nat)(U Y aa:Int)(ab ac:ByteArray)(ae ah:Int)(ai:Option Addr)(aj:List D)(ak:Nat)(al:Int)(am:Option Addr)(ao:List D)(aq:Nat)(au:Option Addr)(aw:List D)(ax:Nat)(ay:Int)(az a6:ByteArray)(a7 a8:Int)(ba:Option Addr)(bc:List D)(bg:Nat)(bh bi:D)(bj bm:Nat)(r3:List D)(q3:Nat)(N:Nat):Prop:=AT prog 38 [.pk,.i,.str,.str,.i,.dc,.dc,.dc,.dc,.row 29 9,.sl 0,.i,.i] Q N0 (.io E [.var [.sv none 0 [] 0,.int .i64 0,.int .i64 0]]) (zG prog 38 18) ⟨.pb 0 0 0 0::.int .i64 n1::an 2 (.pb 1 0 0 0::.pb 2 0 0 0::.int .i64 n6::.int .i64 n7::an 66 []),[.var [.sv I 0 J O,.int .i64 U,.int .i64 Y],.var [.int .i64 aa,.str ab,.str ac,.int .i64 ae,.int .i64 ah,.sv ai 2 aj ak,.int .i64 al,.sv am 2 ao aq,.sv au 9 aw ax],.var [.int .i64 ay,.str az,.str a6,.int .i64 a7,.int .i64 a8,.sv ba 2 bc bg,.dc bh,.dc bi,.sb 3 9 0 bj bm],.arr 29 9 r3 q3],N,some (x9 E 0 [.var [.sv none 0 [] 0,.int .i64 0,.int .i64 0]],[])⟩
def xd (E:Env)(Q:QT [.pk,.i,.str,.str,.i,.dc,.dc,.dc,.dc,.row 29 9,.sl 0,.i,.i])(N0:Nat)(n1 n6 n7:Int)(I:Option Addr)(J:List D)(O:Nat)(U Y aa:Int)(ab ac:ByteArray)(ae ah:Int)(ai:Option Addr)(aj:List D)(ak:Nat)(al:Int)(am:Option Addr)(ao:List D)(aq:Nat)(au:Option Addr)(aw:List D)(ax:Nat)(ay:Int)(az a6:ByteArray)(a7 a8:Int)(ba:Option Addr)(bc:List D)(bg:Nat)(bh:Int)(bi:Option Addr)(bj:List D)(bm bp bq:Nat)(r3:List D)(q3:Nat)(N:Nat):Prop:=AT prog 38 [.pk,.i,.str,.str,.i,.dc,.dc,.dc,.dc,.row 29 9,.sl 0,.i,.i] Q N0 (.io E [.var [.sv none 0 [] 0,.int .i64 0,.int .i64 0]]) (zG prog 38 18) ⟨.pb 0 0 0 0::.int .i64 n1::an 2 (.pb 1 0 0 0::.pb 2 0 0 0::.int .i64 n6::.int .i64 n7::an 66 []),[.var [.sv I 0 J O,.int .i64 U,.int .i64 Y],.var [.int .i64 aa,.str ab,.str ac,.int .i64 ae,.int .i64 ah,.sv ai 2 aj ak,.int .i64 al,.sv am 2 ao aq,.sv au 9 aw ax],.var [.int .i64 ay,.str az,.str a6,.int .i64 a7,.int .i64 a8,.sv ba 2 bc bg,.int .i64 bh,.sv bi 2 bj bm,.sb 3 9 0 bp bq],.arr 29 9 r3 q3],N,some (x9 E 0 [.var [.sv none 0 [] 0,.int .i64 0,.int .i64 0]],[])⟩
theorem Hg (N:Nat) (n0:Int) (Q:QT [.pk,.int .i64,.str,.str,.int .i64,.dc,.dc,.dc,.dc,.row 29 9]) (h :
uP N (Q 2 b0 b0 n0 (D.j 0) (D.sl none 2 [] 0) (D.j 0) (D.sl none 2 [] 0) [] 0)):ACalls prog 112 [.pk,.int .i64,.str,.str,.int .i64,.dc,.dc,.dc,.dc,.row 29 9] [PV.int .i64 n0] N Q:=
 Tv H0 h
theorem GU (N:Nat) (n0:Int) (Q:QT [.pk,.int .i64,.str,.str,.int .i64,.dc,.dc,.dc,.dc,.row 29 9]) (h :
uP N (Q 3 b0 b0 n0 (D.j 0) (D.sl none 2 [] 0) (D.j 0) (D.sl none 2 [] 0) [] 0)):ACalls prog 113 [.pk,.int .i64,.str,.str,.int .i64,.dc,.dc,.dc,.dc,.row 29 9] [PV.int .i64 n0] N Q:=
 Tv H0 h
theorem Af (N:Nat) (I:ByteArray) (Q:QT [.pk,.int .i64,.str,.str,.int .i64,.dc,.dc,.dc,.dc,.row 29 9]) (h :
uP N (Q 1 I b0 0 (D.j 0) (D.sl none 2 [] 0) (D.j 0) (D.sl none 2 [] 0) [] 0)):ACalls prog 41 [.pk,.int .i64,.str,.str,.int .i64,.dc,.dc,.dc,.dc,.row 29 9] [PV.str I] N Q:=
 Tv H0 h
theorem BT (N:Nat) (a0:Option Addr) (e0:List D) (I:Nat) (Q:QT [.ag 9]) (h :
Bel N (D.sl a0 0 e0 I)->∀ b,N<=b->ACalls prog 19 [.cu] [.sv a0 0 e0 I] b (λa c d n e f=>b<=f->cA 9 21 [] a c d n e f (λx _
 _ _ _ _ a=>uP a (Q x)))):ACalls prog 7 [.ag 9] [PV.sv a0 0 e0 I] N Q:=
  Tv H0 h
theorem EC (N:Nat) (I:Option Addr) (J:List D) (O:Nat) (U Y:Int) (Q:QT [(Sh.ag 9),(Sh.sl 0),(Sh.int IntKind.i64),(Sh.int IntKind.i64)]) (h:∀ E:Env,
Bel N (D.sl I 0 J O)->∀ b,N<=b->BCalls prog 37 [.i,.sl 0,.i,.i] [.pb 0 0 0 0,.j 4] [Bx.var [.sv I 0 J O,.j
 U,.j Y]] b (λn a c d e f g=>b<=g->Bel g (D.sl a 0 c d)->∀ b,g<=b->BCalls prog 38 [.pk,.i,.str,.str,.i,.dc,.dc,.dc,.dc,
 .row 29 9,.sl 0,.i,.i] [.pb 0 0 0 0,.j (IntKind.i64.wrap (1+n))] [Bx.var [.sv a 0 c d,.j e,.j f]] b (λa s c d x e f g h i j
 k l m n o=>b<=o->Bel o (D.sl j 0 k l)->Bel o (D.ag h)->∀ b,o<=b->BCalls prog 37 [.i,.sl 0,.i,.i] [.pb 0 0 0 0,.j 14]
 [Bx.var [.sv j 0 k l,.j m,.j n]] b (λj k l m n o p=>b<=p->Bel p (D.sl k 0 l m)->Br (j==0) (∀ a,p<=a ->
 BCalls prog 37 [.i,.sl 0,.i,.i] [.pb 0 0 0 0,.j 15] [Bx.var [.sv k 0 l m,.j n,.j o]] a (λb j k l m n o=>a<=o->Bel o
 (D.sl j 0 k l)->w4 (h.length=h.length/\i=i) (∀ a p,o<=p->Fresh N p a [D.ag h,x,e,f,g]->xQ E [.var [.sv none 0
 [] 0,.j 0,.j 0]]/\uP p (Q (D.ag [D.j b,D.t s,D.t c,D.j d,x,e,f,g,D.sl a 9 h i]) j k l m n)))) (Br (j==1) (∀
 b,p<=b->BCalls prog 39 [.i,.sl 0,.i,.i,.sl 0] [.pb 0 0 0 0,.sb 1 0 0 5 5] [Bx.var [.sv k 0 l m,.j n,.j o],Bx.arr 3 0 [D.j 0,D.j 1,
 D.j 10006,D.j 10007,D.j (-1)] 5] b (λd j k l m n o p q r=>b<=r->Bel r (D.sl j 0 k l)->Bel r (D.sl o 0 p
 q)->w4 (h.length=h.length/\i=i) (∀ b o,r<=o->Fresh N o b [D.ag h,x,e,f,g]->xQ E [.var [.sv none 0 [] 0,.j 0,
 .j 0]]/\uP o (Q (D.ag [D.j a,D.t s,D.t c,D.j d,x,e,f,g,D.sl b 9 h i]) j k l m n)))) (Br (j==2) (cP [D.t b0,D.t
 (bytes [120]),D.t (bytes [108,101,116]),D.t (bytes [97,98,99,100,101]),D.t (bytes [43])] 40 9 5 k l m n o p (λb j k l m n
 _ _ _ o=>w4 (h.length=h.length/\i=i) (∀ p q,o<=q->Fresh N q p [D.ag h,x,e,f,g]->xQ E [.var [.sv none
 0 [] 0,.j 0,.j 0]]/\uP q (Q (D.ag [D.j a,D.t b,D.t c,D.j d,x,e,f,g,D.sl p 9 h i]) j k l m n)))) (Br (j==3)
 (∀ b,p<=b->ACalls prog 41 [.pk,.i,.str,.str,.i,.dc,.dc,.dc,.dc,.row 29 9] [.str (bytes [120])] b (λj p q r t u v w y
 z A=>b<=A->Bel A (D.ag y)->(y.length=y.length/\z=z)/\∀ b B,A<=B->Fresh N B b [D.ag y,t,u,v,w,
 x,e,f,g,D.ag h]->(h.length=h.length/\i=i)/\zC h [D.ag [D.j j,D.t p,D.t q,D.j r,t,u,v,w,D.sl b
 9 y z]] 136/\∀(i:Nat),w4 ((h++[D.ag [D.j j,D.t p,D.t q,D.j r,t,u,v,w,D.sl b 9 y z]]).length=(h++[D.ag
 [D.j j,D.t p,D.t q,D.j r,t,u,v,w,D.sl b 9 y z]]).length/\i=i) (∀ A C,B<=C->Fresh N C A [D.ag (h
 ++ [D.ag [D.j j,D.t p,D.t q,D.j r,t,u,v,w,D.sl b 9 y z]]),x,e,f,g]->xQ E [.var [.sv none 0 [] 0,.j 0,.j 0]]/\∀
 B,C<=B->Q (D.ag [D.j a,D.t s,D.t c,D.j d,x,e,f,g,D.sl A 9 (h++[D.ag [D.j j,D.t p,D.t q,D.j r,t,u,v,
 w,D.sl b 9 y z]]) i]) k l m n o B))) (Br (j==4) (cA 2 42 [] k l m n o p (λb e j k l m n=>w4
 (h.length=h.length/\i=i) (∀ o p,n<=p->Fresh N p o [D.ag h,(b.cell 0),(b.cell 1),f,g]->xQ E [.var [.sv none 0
 [] 0,.j 0,.j 0]]/\uP p (Q (D.ag [D.j a,D.t s,D.t c,D.j d,(b.cell 0),(b.cell 1),f,g,D.sl o 9 h i]) e j k l
 m)))) (Br (j==5) (cP [D.t (bytes [120]),D.t (bytes [122])] 40 9 2 k l m n o p (λb c j k l m _ _ _ n=>w4
 (h.length=h.length/\i=i) (∀ o p,n<=p->Fresh N p o [D.ag h,x,e,f,g]->xQ E [.var [.sv none 0 [] 0,.j 0,.j 0]] /\
 uP p (Q (D.ag [D.j a,D.t s,D.t b,D.j d,x,e,f,g,D.sl o 9 h i]) c j k l m)))) (w4 (h.length=h.length/\i =
 i) (∀ b j,p<=j->Fresh N j b [D.ag h,x,e,f,g]->xQ E [.var [.sv none 0 [] 0,.j 0,.j 0]]/\uP j (Q (D.ag [D.j a,D.t s,D.t
 c,D.j d,x,e,f,g,D.sl b 9 h i]) k l m n o)))))))))))):BCalls prog 21 [(Sh.ag 9),(Sh.sl 0),(Sh.int IntKind.i64),(Sh.int IntKind.i64)] [.pb 0 0 0 0] [.var [.sv I 0 J O,.int .i64 U,.int .i64 Y]] N Q:=
  PP JZ h
theorem qw (N:Nat) (n1:Int) (I:Option Addr) (J:List D) (O:Nat) (U Y:Int) (Q:QT [Sh.pk,(Sh.int IntKind.i64),Sh.str,Sh.str,(Sh.int IntKind.i64),Sh.dc,Sh.dc,Sh.dc,Sh.dc,(Sh.row (OfNat.ofNat 29) 9),(Sh.sl 0),(Sh.int IntKind.i64),(Sh.int IntKind.i64)]) (h:∀ E:Env,
Bel N (D.sl I 0 J O)->Br (decide (n1<2)) (∀ b,N<=b->BCalls prog 69 [.pk,.i,.str,.str,.i,.dc,.dc,.dc,.dc,.row 29 9,
 .sl 0,.i,.i] [.pb 0 0 0 0] [Bx.var [.sv I 0 J O,.j U,.j Y]] b (λn s a c x d e f g h i j k l m o=>b<=o ->
 Bel o (D.sl i 0 j k)->Bel o (D.ag g)->xQ E [.var [.sv none 0 [] 0,.j 0,.j 0]]/\(g.length=g.length/\h=h)/\uP o (Q n s a c x d e
 f g h i j k l m))) (cB 20 [.j 5] I J O U Y N (λb a c d e f g=>Br b (∀ b,g<=b->BCalls prog 69 [.pk,.i,
 .str,.str,.i,.dc,.dc,.dc,.dc,.row 29 9,.sl 0,.i,.i] [.pb 0 0 0 0] [Bx.var [.sv a 0 c d,.j e,.j f]] b (λa c d e f g h
 i j k l m n o p q=>b<=q->Bel q (D.sl l 0 m n)->Bel q (D.ag j)->xQ E [.var [.sv none 0 [] 0,.j 0,.j 0]]/\(j.length
 = j.length/\k=k)/\uP q (Q a c d e f g h i j k l m n o p))) (∀ b,g<=b->BCalls prog 39 [.i,.sl 0,.i,.i,.sl
 0] [.pb 0 0 0 0,.sb 1 0 0 12 12] [Bx.var [.sv a 0 c d,.j e,.j f],Bx.arr 3 0 [D.j 4,D.j 5,D.j 6,D.j 7,D.j 8,D.j 9,D.j 10,D.j 11,D.j 12,
 D.j 13,D.j 10,D.j 4] 12] b (λa c d e f g h i j k=>b<=k->Bel k (D.sl c 0 d e)->Bel k (D.sl h 0 i j)->Br
 (a==4) (cP [D.t (bytes [43]),D.t (bytes [45]),D.t (bytes [42]),D.t (bytes [61]),D.t (bytes [60]),D.t (bytes [38]),D.t (bytes [124]),D.t (bytes
 [33])] 40 9 8 c d e f g k (λb c d e f g _ _ _ h=>yI E Q N n1 c d e f g 0 b0 b0 0 0 none []
 0 0 none [] 0 none [] 0 a b b0 0 0 none [] 0 0 none [] 0 0 0 [] 0 h)) (Br (a==6) (cP [D.t (bytes [120]),D.t (bytes [121]),D.t (bytes [102])] 40 9
 3 c d e f g k (λb c d e f g _ _ _ h=>yI E Q N n1 c d e f g 0 b0 b0 0 0 none [] 0 0 none
 [] 0 none [] 0 a b b0 0 0 none [] 0 0 none [] 0 0 0 [] 0 h)) (Br (a==8) (cP [D.t (bytes [120]),D.t (bytes [121]),D.t (bytes [102])] 40 9 3 c
 d e f g k (λb c d e f g _ _ _ h=>yI E Q N n1 c d e f g 0 b0 b0 0 0 none [] 0 0 none
 [] 0 none [] 0 a b b0 0 0 none [] 0 0 none [] 0 0 0 [] 0 h)) (Br (a==9) (cP [D.t (bytes [120]),D.t (bytes [121]),D.t (bytes [102])] 40 9 3 c
 d e f g k (λb c d e f g _ _ _ h=>yI E Q N n1 c d e f g 0 b0 b0 0 0 none [] 0 0 none
 [] 0 none [] 0 a b b0 0 0 none [] 0 0 none [] 0 0 0 [] 0 h)) (yI E Q N n1 c d e f g 0 b0 b0 0 0 none [] 0 0 none [] 0 none [] 0
 a b0 b0 0 0 none [] 0 0 none [] 0 0 0 [] 0 k))))))))):BCalls prog 38 [Sh.pk,(Sh.int IntKind.i64),Sh.str,Sh.str,(Sh.int IntKind.i64),Sh.dc,Sh.dc,Sh.dc,Sh.dc,(Sh.row (OfNat.ofNat 29) 9),(Sh.sl 0),(Sh.int IntKind.i64),(Sh.int IntKind.i64)] [.pb 0 0 0 0,.int .i64 n1] [.var [.sv I 0 J O,.int .i64 U,.int .i64 Y]] N Q:=
  PP zq h
theorem Au (N:Nat) (m1 c1:Nat) (I:Option Addr) (J:List D) (O:Nat) (Y aa:Int) (U:List D) (ab:Nat) (Q:QT [(Sh.int IntKind.i64),(Sh.sl 0),(Sh.int IntKind.i64),(Sh.int IntKind.i64),(Sh.sl 0)]) (h:∀ E:Env,
Bel N (D.sl I 0 J O)->Bel N (D.sl none 0 U ab)->∀ b,N<=b->BCalls prog 37 [.i,.sl 0,.i,.i] [.pb 0 0 0 0,.j (m1:Int)]
 [Bx.var [.sv I 0 J O,.j Y,.j aa]] b (λn a c d e f g=>b<=g->Bel g (D.sl a 0 c d)->(0<=n/\n<(m1:Int)/\(0+n.toNat
 : Nat)<U.length)/\(0+n.toNat:Nat)<U.length/\∃ b:Int,List.getD U (0+n.toNat:Nat) default=D.j b/\xQ E [.var [.sv none 0 [] 0,.j
 0,.j 0],.arr 3 0 [] 0]/\uP g (Q b a c d e f none U ab))):BCalls prog 39 [(Sh.int IntKind.i64),(Sh.sl 0),(Sh.int IntKind.i64),(Sh.int IntKind.i64),(Sh.sl 0)] [.pb 0 0 0 0,.sb 1 0 0 m1 c1] [.var [.sv I 0 J O,.int .i64 Y,.int .i64 aa],.arr 3 0 U ab] N Q:=
  PP H0 h
theorem D8 (N:Nat) (I:Option Addr) (J:List D) (O:Nat) (U Y:Int) (Q:QT [(Sh.ag 2),(Sh.sl 0),(Sh.int IntKind.i64),(Sh.int IntKind.i64)]) (h:∀ E:Env,
Bel N (D.sl I 0 J O)->cA 2 70 [.j 4] I J O U Y N (λx a b c n d e=>∀ f,e<=f->BCalls prog 37 [.i,
 .sl 0,.i,.i] [.pb 0 0 0 0,.j 10] [Bx.var [.sv a 0 b c,.j n,.j d]] f (λa b c d e g h=>f<=h->Bel h (D.sl b 0 c d)->Br
 (a==0) (∀ a,h<=a->BCalls prog 37 [.i,.sl 0,.i,.i] [.pb 0 0 0 0,.j 6] [Bx.var [.sv b 0 c d,.j e,.j g]] a (λb c d e f
 g h=>a<=h->Bel h (D.sl c 0 d e)->xQ E [.var [.sv none 0 [] 0,.j 0,.j 0]]/\uP h (Q (D.ag [D.j b,(x.cell 1)]) c d e f g)))
 (Br (a==1) (∃ a f,∃ i:Nat,(x.cell 1)=D.sl a 2 f i/\kA 2 45 [] h (λh j=>Vw a f i [h]/\zC f [h] 32/\∀
 (a:Nat),w4 ((f++[h]).length=(f++[h]).length/\a=a) (∀ i k,j<=k->Fresh N k i [D.ag (f++[h]),(x.cell 0)]->xQ E
 [.var [.sv none 0 [] 0,.j 0,.j 0]]/\uP k (Q (D.ag [(x.cell 0),D.sl i 2 (f++[h]) a]) b c d e g)))) (Br (a==2) (∀ a,h<=a ->
 BCalls prog 37 [.i,.sl 0,.i,.i] [.pb 0 0 0 0,.j 6] [Bx.var [.sv b 0 c d,.j e,.j g]] a (λb c d e f g h=>a<=h->Bel
 h (D.sl c 0 d e)->wi E Q N (IntKind.i64.wrap (1+b)) 0 c d e f g 0 none [] 0 x h)) (Br (a==3) (wc E Q
 N 0 b c d e g 0 none [] 0 x h) (xQ E [.var [.sv none 0 [] 0,.j 0,.j 0]]/\uP h (Q x b c d e g)))))))):BCalls prog 42 [(Sh.ag 2),(Sh.sl 0),(Sh.int IntKind.i64),(Sh.int IntKind.i64)] [.pb 0 0 0 0] [.var [.sv I 0 J O,.int .i64 U,.int .i64 Y]] N Q:=
  PP rg h
theorem Ee (N:Nat) (I:Option Addr) (J:List D) (O:Nat) (U Y:Int) (Q:QT [Sh.pk,(Sh.int IntKind.i64),Sh.str,Sh.str,(Sh.int IntKind.i64),Sh.dc,Sh.dc,Sh.dc,Sh.dc,(Sh.row (OfNat.ofNat 29) 9),(Sh.sl 0),(Sh.int IntKind.i64),(Sh.int IntKind.i64)]) (h:∀ E:Env,
Bel N (D.sl I 0 J O)->∀ b,N<=b->BCalls prog 37 [.i,.sl 0,.i,.i] [.pb 0 0 0 0,.j 4] [Bx.var [.sv I 0 J O,.j
 U,.j Y]] b (λn a c d e f g=>b<=g->Bel g (D.sl a 0 c d)->Br (n==0) (∀ b,g<=b->BCalls prog 39 [.i,.sl 0,.i,.i,.sl 0] [.pb
 0 0 0 0,.sb 1 0 0 5 5] [Bx.var [.sv a 0 c d,.j e,.j f],Bx.arr 3 0 [D.j 0,D.j 1,D.j 2,D.j 3,D.j 10006] 5] b (λa c d e f g h i
 j k=>b<=k->Bel k (D.sl c 0 d e)->Bel k (D.sl h 0 i j)->∀ b,k<=b->ACalls prog 112 [.pk,.i,.str,.str,.i,.dc,.dc,.dc,.dc,
 .row 29 9] [.j a] b (λa s h i x j k l m n o=>b<=o->Bel o (D.ag m)->xQ E [.var [.sv none 0 [] 0,.j 0,.j 0]]/\(m.length
 = m.length/\n=n)/\uP o (Q a s h i x j k l m n c d e f g)))) (Br (n==1) (∀ b,g<=b->BCalls prog 37 [.i,.sl 0,.i,
 .i] [.pb 0 0 0 0,.j 2] [Bx.var [.sv a 0 c d,.j e,.j f]] b (λa c d e f g h=>b<=h->Bel h (D.sl c 0 d e)->∀ b,h<=b
 -> ACalls prog 113 [.pk,.i,.str,.str,.i,.dc,.dc,.dc,.dc,.row 29 9] [.j a] b (λa h i j k l m n o p q=>b<=q->Bel
 q (D.ag o)->xQ E [.var [.sv none 0 [] 0,.j 0,.j 0]]/\(o.length=o.length/\p=p)/\uP q (Q a h i j k l m n o p
 c d e f g)))) (cP [D.t (bytes [120]),D.t (bytes [121]),D.t (bytes [102])] 40 9 3 a c d e f g (λa b c d e f _ _ _
 g=>∀ h,g<=h->ACalls prog 41 [.pk,.i,.str,.str,.i,.dc,.dc,.dc,.dc,.row 29 9] [.str a] h (λa g i j k l m n o
 p q=>h<=q->Bel q (D.ag o)->xQ E [.var [.sv none 0 [] 0,.j 0,.j 0]]/\(o.length=o.length/\p=p)/\uP q (Q a g i j
 k l m n o p b c d e f))))))):BCalls prog 69 [Sh.pk,(Sh.int IntKind.i64),Sh.str,Sh.str,(Sh.int IntKind.i64),Sh.dc,Sh.dc,Sh.dc,Sh.dc,(Sh.row (OfNat.ofNat 29) 9),(Sh.sl 0),(Sh.int IntKind.i64),(Sh.int IntKind.i64)] [.pb 0 0 0 0] [.var [.sv I 0 J O,.int .i64 U,.int .i64 Y]] N Q:=
  PP H0 h
theorem Ey (E:Env) (Q:QT [Sh.pk,(Sh.int IntKind.i64),Sh.str,Sh.str,(Sh.int IntKind.i64),Sh.dc,Sh.dc,Sh.dc,Sh.dc,(Sh.row (OfNat.ofNat 29) 9),(Sh.sl 0),(Sh.int IntKind.i64),(Sh.int IntKind.i64)]) (N0:Nat) (n1:Int) (J:Option Addr) (O:List D) (U:Nat) (Y aa ab:Int) (ac ae:ByteArray) (ah ai:Int) (aj:Option Addr) (ak:List D) (al:Nat) (am:Int) (ao:Option Addr) (aq:List D) (au:Nat) (aw:Option Addr) (ax:List D) (ay:Nat) (I:Int) (az a6:ByteArray) (a7 bj:Int) (bm:Option Addr) (bp:List D) (bq:Nat) (a8:Int) (ba:Option Addr) (bc:List D) (bg bh bi:Nat) (r3:List D) (q3:Nat) (N:Nat) (h :
Br (I==6) (cA 2 70 [.j 2] J O U Y aa N (λx a b c n d e=>vM E Q N0 n1 a b c n d ab ac ae ah ai aj
 ak al am ao aq au aw ax ay I az a6 a7 (x.cell 0) (x.cell 1) a8 ba bc bg bh bi r3 q3 e)) (Br (I==9) (cA 2 70 [.j 2]
 J O U Y aa N (λa b c d e f g=>vM E Q N0 n1 b c d e f ab ac ae ah ai aj ak al am ao
 aq au aw ax ay I az a6 a7 (a.cell 0) (a.cell 1) a8 ba bc bg bh bi r3 q3 g)) (vX E Q N0 n1 J O U
 Y aa ab ac ae ah ai aj ak al am ao aq au aw ax ay I az a6 a7 bj bm bp bq a8 ba bc bg bh bi r3 q3
 N))):yI E Q N0 n1 J O U Y aa ab ac ae ah ai aj ak al am ao aq au aw ax ay I az a6 a7 bj bm bp bq a8 ba bc bg bh bi r3 q3 N:=
  Cr zq h
theorem qD (N:Nat) (n1:Int) (I:Option Addr) (J:List D) (O:Nat) (U Y:Int) (Q:QT [(Sh.ag 2),(Sh.sl 0),(Sh.int IntKind.i64),(Sh.int IntKind.i64)]) (h:∀ E:Env,
Bel N (D.sl I 0 J O)->Br (decide (n1<2)) (∀ b,N<=b->BCalls prog 39 [.i,.sl 0,.i,.i,.sl 0] [.pb 0 0 0 0,.sb 1 0 0 3 3]
 [Bx.var [.sv I 0 J O,.j U,.j Y],Bx.arr 3 0 [D.j 1,D.j 1,D.j 2] 3] b (λn a c d e f g h i j=>b<=j->Bel j (D.sl a
 0 c d)->Bel j (D.sl g 0 h i)->xQ E [.var [.sv none 0 [] 0,.j 0,.j 0]]/\uP j (Q (D.ag [D.j n,D.sl none 2 [] 0]) a c d e f))) (cB 20 [.j 2]
 I J O U Y N (λb a c d e f g=>Br b (∀ b,g<=b->BCalls prog 39 [.i,.sl 0,.i,.i,.sl 0] [.pb 0 0 0 0,.sb 1 0 0 3 3]
 [Bx.var [.sv a 0 c d,.j e,.j f],Bx.arr 3 0 [D.j 1,D.j 1,D.j 2] 3] b (λa c d e f g h i j k=>b<=k->Bel k (D.sl c
 0 d e)->Bel k (D.sl h 0 i j)->xQ E [.var [.sv none 0 [] 0,.j 0,.j 0]]/\uP k (Q (D.ag [D.j a,D.sl none 2 [] 0]) c d e f g)))
 (cB 20 [.j 2] a c d e f g (λa b c d e f g=>Br a (cA 2 70 [.j (IntKind.i64.wrap (n1 - 1))] b c d e f g (λx a
 b c d e f=>kA 2 72 [.dg 2 x] f (λf g=>xQ E [.var [.sv none 0 [] 0,.j 0,.j 0]]/\uP g (Q f a b c d e)))) (cA 2 70
 [.j (IntKind.i64.wrap (n1 - 1))] b c d e f g (λa b c d e f g=>cA 2 70 [.j (IntKind.i64.wrap (n1 - 1))] b c d e f
 g (λb c d e f g h=>kA 2 73 [.dg 2 a,.dg 2 b] h (λa b=>xQ E [.var [.sv none 0 [] 0,.j 0,.j 0]]/\uP b (Q a c
 d e f g)))))))))):BCalls prog 70 [(Sh.ag 2),(Sh.sl 0),(Sh.int IntKind.i64),(Sh.int IntKind.i64)] [.pb 0 0 0 0,.int .i64 n1] [.var [.sv I 0 J O,.int .i64 U,.int .i64 Y]] N Q:=
  PP I9 h
theorem qP (E:Env) (Q:QT [(Sh.ag 2),(Sh.sl 0),(Sh.int IntKind.i64),(Sh.int IntKind.i64)]) (N0:Nat) (n4 n5:Int) (I:Option Addr) (J:List D) (O:Nat) (U Y aa:Int) (ab:Option Addr) (ac:List D) (ae:Nat) (y2:D) (N:Nat) (h :
Br (decide (n5<n4)) (kA 2 72 [.dg 2 y2] N (λx a=>wi E Q N0 n4 (IntKind.i64.wrap (n5+1)) I J O U Y aa ab ac
 ae x a)) (xQ E [.var [.sv none 0 [] 0,.j 0,.j 0]]/\uP N (Q y2 I J O U Y))):wi E Q N0 n4 n5 I J O U Y aa ab ac ae y2 N:=
  Cr rg h
theorem qC (E:Env) (Q:QT [(Sh.ag 2),(Sh.sl 0),(Sh.int IntKind.i64),(Sh.int IntKind.i64)]) (N0:Nat) (n6:Int) (I:Option Addr) (J:List D) (O:Nat) (U Y aa:Int) (ab:Option Addr) (ac:List D) (ae:Nat) (y2:D) (N:Nat) (h :
Br (decide (n6<3)) (kA 2 73 [.dg 2 y2,.dg 2 y2] N (λx a=>wc E Q N0 (IntKind.i64.wrap (n6+1)) I J O U Y aa ab
 ac ae x a)) (xQ E [.var [.sv none 0 [] 0,.j 0,.j 0]]/\uP N (Q y2 I J O U Y))):wc E Q N0 n6 I J O U Y aa ab ac ae y2 N:=
  Cr rg h
theorem F4 (E:Env) (Q:QT [Sh.pk,(Sh.int IntKind.i64),Sh.str,Sh.str,(Sh.int IntKind.i64),Sh.dc,Sh.dc,Sh.dc,Sh.dc,(Sh.row (OfNat.ofNat 29) 9),(Sh.sl 0),(Sh.int IntKind.i64),(Sh.int IntKind.i64)]) (N0:Nat) (n1:Int) (J:Option Addr) (O:List D) (U:Nat) (Y aa ab:Int) (ac ae:ByteArray) (ah ai:Int) (aj:Option Addr) (ak:List D) (al:Nat) (am:Int) (ao:Option Addr) (aq:List D) (au:Nat) (aw:Option Addr) (ax:List D) (ay:Nat) (I:Int) (az bg:ByteArray) (a6:Int) (a7 a8:D) (bh:Int) (bi:Option Addr) (bj:List D) (bm ba bc:Nat) (r3:List D) (q3:Nat) (N:Nat) (h :
Br (I==9) (cP [D.t (bytes [122]),D.t (bytes [119])] 40 9 2 J O U Y aa N (λs a b c n d _ _ _ e=>cA 2 70 [.j 2] a b c n
 d e (λx a b c d e f=>tR E Q N0 n1 a b c d e ab ac ae ah ai aj ak al am ao aq au aw ax
 ay I az s a6 a7 a8 (x.cell 0) (x.cell 1) ba bc r3 q3 f))) (vJ E Q N0 n1 J O U Y aa ab ac ae ah ai aj
 ak al am ao aq au aw ax ay I az bg a6 a7 a8 bh bi bj bm ba bc r3 q3 N)):vM E Q N0 n1 J O U Y aa ab ac ae ah ai aj ak al am ao aq au aw ax ay I az bg a6 a7 a8 bh bi bj bm ba bc r3 q3 N:=
  Cr zq h
theorem CU (E:Env) (Q:QT [Sh.pk,(Sh.int IntKind.i64),Sh.str,Sh.str,(Sh.int IntKind.i64),Sh.dc,Sh.dc,Sh.dc,Sh.dc,(Sh.row (OfNat.ofNat 29) 9),(Sh.sl 0),(Sh.int IntKind.i64),(Sh.int IntKind.i64)]) (N0:Nat) (n1:Int) (J:Option Addr) (O:List D) (U:Nat) (Y aa ab:Int) (ac ae:ByteArray) (ah ai:Int) (aj:Option Addr) (ak:List D) (al:Nat) (am:Int) (ao:Option Addr) (aq:List D) (au:Nat) (aw:Option Addr) (ax:List D) (ay:Nat) (I:Int) (az bi:ByteArray) (a6 a7:Int) (a8:Option Addr) (ba:List D) (bc:Nat) (bj:Int) (bm:Option Addr) (bp:List D) (bq bg bh:Nat) (r3:List D) (q3:Nat) (N:Nat) (h :
Br (I==9) (cP [D.t (bytes [122]),D.t (bytes [119])] 40 9 2 J O U Y aa N (λs a b c n d _ _ _ e=>cA 2 70 [.j 2] a b c n
 d e (λx a b c d e f=>vH E Q N0 n1 a b c d e ab ac ae ah ai aj ak al am ao aq au aw ax
 ay I az s a6 a7 a8 ba bc (x.cell 0) (x.cell 1) bg bh r3 q3 f))) (vT E Q N0 n1 J O U Y aa ab ac ae ah
 ai aj ak al am ao aq au aw ax ay I az bi a6 a7 a8 ba bc bj bm bp bq bg bh r3 q3 N)):vX E Q N0 n1 J O U Y aa ab ac ae ah ai aj ak al am ao aq au aw ax ay I az bi a6 a7 a8 ba bc bj bm bp bq bg bh r3 q3 N:=
  Cr zq h
theorem Fq (E:Env) (Q:QT [Sh.pk,(Sh.int IntKind.i64),Sh.str,Sh.str,(Sh.int IntKind.i64),Sh.dc,Sh.dc,Sh.dc,Sh.dc,(Sh.row (OfNat.ofNat 29) 9),(Sh.sl 0),(Sh.int IntKind.i64),(Sh.int IntKind.i64)]) (N0:Nat) (n1:Int) (a0_0:Option Addr) (e0_0:List D) (c0_0:Nat) (n0_1 n0_2 n1_0:Int) (s1_1 s1_2:ByteArray) (n1_3 n1_4:Int) (a1_5:Option Addr) (e1_5:List D) (c1_5:Nat) (n1_6:Int) (a1_7:Option Addr) (e1_7:List D) (c1_7:Nat) (a1_8:Option Addr) (e1_8:List D) (c1_8:Nat) (n2_0:Int) (s2_1 s2_2:ByteArray) (n2_3:Int) (x2_4 x2_5 x2_6 x2_7:D) (m2_8 c2_8:Nat) (r3:List D) (q3:Nat) (N:Nat) (h :
(m2_8=r3.length/\c2_8=q3)/\∀ a,ApA a r3->∀ b,N<=b->w8 b [a]->ACalls prog 71 [.i] [.dg 9 (D.ag [D.j n2_0,D.t s2_1,D.t s2_2,D.j n2_3,
 x2_4,x2_5,x2_6,x2_7,D.sl a 9 r3 c2_8])] b (fun n a=>b<=a->vO E Q N0 n1 n 0 a0_0 e0_0 c0_0 n0_1 n0_2 n1_0 s1_1 s1_2 n1_3 n1_4 a1_5 e1_5
 c1_5 n1_6 a1_7 e1_7 c1_7 a1_8 e1_8 c1_8 n2_0 s2_1 s2_2 n2_3 x2_4 x2_5 x2_6 x2_7 m2_8 c2_8 r3 q3 a)):tR E Q N0 n1 a0_0 e0_0 c0_0 n0_1 n0_2 n1_0 s1_1 s1_2 n1_3 n1_4 a1_5 e1_5 c1_5 n1_6 a1_7 e1_7 c1_7 a1_8 e1_8 c1_8 n2_0 s2_1 s2_2 n2_3 x2_4 x2_5 x2_6 x2_7 m2_8 c2_8 r3 q3 N:=
  Cr zq h
theorem CZ (E:Env) (Q:QT [Sh.pk,(Sh.int IntKind.i64),Sh.str,Sh.str,(Sh.int IntKind.i64),Sh.dc,Sh.dc,Sh.dc,Sh.dc,(Sh.row (OfNat.ofNat 29) 9),(Sh.sl 0),(Sh.int IntKind.i64),(Sh.int IntKind.i64)]) (N0:Nat) (n1:Int) (a0_0:Option Addr) (e0_0:List D) (c0_0:Nat) (n0_1 n0_2 n1_0:Int) (s1_1 s1_2:ByteArray) (n1_3 n1_4:Int) (a1_5:Option Addr) (e1_5:List D) (c1_5:Nat) (n1_6:Int) (a1_7:Option Addr) (e1_7:List D) (c1_7:Nat) (a1_8:Option Addr) (e1_8:List D) (c1_8:Nat) (n2_0:Int) (s2_1 s2_2:ByteArray) (n2_3:Int) (x2_4 x2_5:D) (n2_6:Int) (a2_7:Option Addr) (e2_7:List D) (c2_7 m2_8 c2_8:Nat) (r3:List D) (q3:Nat) (N:Nat) (h :
(m2_8=r3.length/\c2_8=q3)/\∀ a,ApA a r3->∀ b,N<=b->w8 b [a]->ACalls prog 71 [.i] [.dg 9 (D.ag [D.j n2_0,D.t s2_1,D.t s2_2,D.j n2_3,
 x2_4,x2_5,D.j n2_6,D.sl a2_7 2 e2_7 c2_7,D.sl a 9 r3 c2_8])] b (fun n a=>b<=a->xg E Q N0 n1 n 0 a0_0 e0_0 c0_0 n0_1 n0_2 n1_0 s1_1
 s1_2 n1_3 n1_4 a1_5 e1_5 c1_5 n1_6 a1_7 e1_7 c1_7 a1_8 e1_8 c1_8 n2_0 s2_1 s2_2 n2_3 x2_4 x2_5 n2_6 a2_7 e2_7 c2_7 m2_8 c2_8 r3 q3 a)):vJ E Q N0 n1 a0_0 e0_0 c0_0 n0_1 n0_2 n1_0 s1_1 s1_2 n1_3 n1_4 a1_5 e1_5 c1_5 n1_6 a1_7 e1_7 c1_7 a1_8 e1_8 c1_8 n2_0 s2_1 s2_2 n2_3 x2_4 x2_5 n2_6 a2_7 e2_7 c2_7 m2_8 c2_8 r3 q3 N:=
  Cr zq h
theorem CB (E:Env) (Q:QT [Sh.pk,(Sh.int IntKind.i64),Sh.str,Sh.str,(Sh.int IntKind.i64),Sh.dc,Sh.dc,Sh.dc,Sh.dc,(Sh.row (OfNat.ofNat 29) 9),(Sh.sl 0),(Sh.int IntKind.i64),(Sh.int IntKind.i64)]) (N0:Nat) (n1:Int) (a0_0:Option Addr) (e0_0:List D) (c0_0:Nat) (n0_1 n0_2 n1_0:Int) (s1_1 s1_2:ByteArray) (n1_3 n1_4:Int) (a1_5:Option Addr) (e1_5:List D) (c1_5:Nat) (n1_6:Int) (a1_7:Option Addr) (e1_7:List D) (c1_7:Nat) (a1_8:Option Addr) (e1_8:List D) (c1_8:Nat) (n2_0:Int) (s2_1 s2_2:ByteArray) (n2_3 n2_4:Int) (a2_5:Option Addr) (e2_5:List D) (c2_5:Nat) (x2_6 x2_7:D) (m2_8 c2_8:Nat) (r3:List D) (q3:Nat) (N:Nat) (h :
(m2_8=r3.length/\c2_8=q3)/\∀ a,ApA a r3->∀ b,N<=b->w8 b [a]->ACalls prog 71 [.i] [.dg 9 (D.ag [D.j n2_0,D.t s2_1,D.t s2_2,D.j n2_3,D.j
 n2_4,D.sl a2_5 2 e2_5 c2_5,x2_6,x2_7,D.sl a 9 r3 c2_8])] b (fun n a=>b<=a->xb E Q N0 n1 n 0 a0_0 e0_0 c0_0 n0_1 n0_2 n1_0 s1_1 s1_2
 n1_3 n1_4 a1_5 e1_5 c1_5 n1_6 a1_7 e1_7 c1_7 a1_8 e1_8 c1_8 n2_0 s2_1 s2_2 n2_3 n2_4 a2_5 e2_5 c2_5 x2_6 x2_7 m2_8 c2_8 r3 q3 a)):vH E Q N0 n1 a0_0 e0_0 c0_0 n0_1 n0_2 n1_0 s1_1 s1_2 n1_3 n1_4 a1_5 e1_5 c1_5 n1_6 a1_7 e1_7 c1_7 a1_8 e1_8 c1_8 n2_0 s2_1 s2_2 n2_3 n2_4 a2_5 e2_5 c2_5 x2_6 x2_7 m2_8 c2_8 r3 q3 N:=
  Cr zq h
theorem Cj (E:Env) (Q:QT [Sh.pk,(Sh.int IntKind.i64),Sh.str,Sh.str,(Sh.int IntKind.i64),Sh.dc,Sh.dc,Sh.dc,Sh.dc,(Sh.row (OfNat.ofNat 29) 9),(Sh.sl 0),(Sh.int IntKind.i64),(Sh.int IntKind.i64)]) (N0:Nat) (n1:Int) (a0_0:Option Addr) (e0_0:List D) (c0_0:Nat) (n0_1 n0_2 n1_0:Int) (s1_1 s1_2:ByteArray) (n1_3 n1_4:Int) (a1_5:Option Addr) (e1_5:List D) (c1_5:Nat) (n1_6:Int) (a1_7:Option Addr) (e1_7:List D) (c1_7:Nat) (a1_8:Option Addr) (e1_8:List D) (c1_8:Nat) (n2_0:Int) (s2_1 s2_2:ByteArray) (n2_3 n2_4:Int) (a2_5:Option Addr) (e2_5:List D) (c2_5:Nat) (n2_6:Int) (a2_7:Option Addr) (e2_7:List D) (c2_7 m2_8 c2_8:Nat) (r3:List D) (q3:Nat) (N:Nat) (h :
(m2_8=r3.length/\c2_8=q3)/\∀ a,ApA a r3->∀ b,N<=b->w8 b [a]->ACalls prog 71 [.i] [.dg 9 (D.ag [D.j n2_0,D.t s2_1,D.t s2_2,D.j n2_3,D.j
 n2_4,D.sl a2_5 2 e2_5 c2_5,D.j n2_6,D.sl a2_7 2 e2_7 c2_7,D.sl a 9 r3 c2_8])] b (fun n a=>b<=a->xd E Q N0 n1 n 0 a0_0 e0_0 c0_0 n0_1
 n0_2 n1_0 s1_1 s1_2 n1_3 n1_4 a1_5 e1_5 c1_5 n1_6 a1_7 e1_7 c1_7 a1_8 e1_8 c1_8 n2_0 s2_1 s2_2 n2_3 n2_4 a2_5 e2_5 c2_5 n2_6 a2_7 e2_7 c2_7 m2_8 c2_8 r3 q3 a)):vT E Q N0 n1 a0_0 e0_0 c0_0 n0_1 n0_2 n1_0 s1_1 s1_2 n1_3 n1_4 a1_5 e1_5 c1_5 n1_6 a1_7 e1_7 c1_7 a1_8 e1_8 c1_8 n2_0 s2_1 s2_2 n2_3 n2_4 a2_5 e2_5 c2_5 n2_6 a2_7 e2_7 c2_7 m2_8 c2_8 r3 q3 N:=
  Cr zq h
theorem qq (E:Env) (Q:QT [Sh.pk,(Sh.int IntKind.i64),Sh.str,Sh.str,(Sh.int IntKind.i64),Sh.dc,Sh.dc,Sh.dc,Sh.dc,(Sh.row (OfNat.ofNat 29) 9),(Sh.sl 0),(Sh.int IntKind.i64),(Sh.int IntKind.i64)]) (N0:Nat) (n1 n6 n7:Int) (aa:Option Addr) (ab:List D) (ac:Nat) (ae ah ao:Int) (aq au:ByteArray) (aw ax:Int) (ay:Option Addr) (az:List D) (a6:Nat) (a7:Int) (a8:Option Addr) (ba:List D) (bc:Nat) (bg:Option Addr) (bh:List D) (bi:Nat) (ai:Int) (aj ak:ByteArray) (al:Int) (I J O U:D) (am Y:Nat) (r3:List D) (q3:Nat) (N:Nat) (h :
Br (decide (n7<n6)) (∀ b,N<=b->BCalls prog 38 [.pk,.i,.str,.str,.i,.dc,.dc,.dc,.dc,.row 29 9,.sl 0,.i,.i] [.pb 0 0 0 0,.j
 (IntKind.i64.wrap (n1 - 1))] [Bx.var [.sv aa 0 ab ac,.j ae,.j ah]] b (λn s a c x d e f g h i j k l m o=>b<=o->Bel o
 (D.sl i 0 j k)->Bel o (D.ag g)->(g.length=g.length/\h=h)/\∀ b p,o<=p->Fresh N0 p b [D.ag g,x,d,e,f,I,J,O,
 U,D.ag r3]->(am=r3.length/\Y=q3)/\zC r3 [D.ag [D.j n,D.t s,D.t a,D.j c,x,d,e,f,D.sl b 9 g h]] 136/\∀(o:Nat),
 vO E Q N0 n1 n6 (IntKind.i64.wrap (n7+1)) i j k l m ao aq au aw ax ay az a6 a7 a8 ba bc bg bh bi ai aj
 ak al I J O U (r3++[D.ag [D.j n,D.t s,D.t a,D.j c,x,d,e,f,D.sl b 9 g h]]).length o (r3++[D.ag [D.j n,D.t s,D.t a,
 D.j c,x,d,e,f,D.sl b 9 g h]]) o p)) (xQ E [.var [.sv none 0 [] 0,.j 0,.j 0]]/\(am=r3.length/\Y=q3)/\uP N (Q ai aj ak
 al I J O U r3 Y aa ab ac ae ah))):vO E Q N0 n1 n6 n7 aa ab ac ae ah ao aq au aw ax ay az a6 a7 a8 ba bc bg bh bi ai aj ak al I J O U am Y r3 q3 N:=
  Cr zq h
theorem sT (E:Env) (Q:QT [Sh.pk,(Sh.int IntKind.i64),Sh.str,Sh.str,(Sh.int IntKind.i64),Sh.dc,Sh.dc,Sh.dc,Sh.dc,(Sh.row (OfNat.ofNat 29) 9),(Sh.sl 0),(Sh.int IntKind.i64),(Sh.int IntKind.i64)]) (N0:Nat) (n1 n6 n7:Int) (ab:Option Addr) (ac:List D) (ae:Nat) (ah ai au:Int) (aw ax:ByteArray) (ay az:Int) (a6:Option Addr) (a7:List D) (a8:Nat) (ba:Int) (bc:Option Addr) (bg:List D) (bh:Nat) (bi:Option Addr) (bj:List D) (bm:Nat) (aj:Int) (ak al:ByteArray) (am:Int) (I J:D) (ao:Int) (O:Option Addr) (U:List D) (Y aq aa:Nat) (r3:List D) (q3:Nat) (N:Nat) (h :
Br (decide (n7<n6)) (∀ b,N<=b->BCalls prog 38 [.pk,.i,.str,.str,.i,.dc,.dc,.dc,.dc,.row 29 9,.sl 0,.i,.i] [.pb 0 0 0 0,.j
 (IntKind.i64.wrap (n1 - 1))] [Bx.var [.sv ab 0 ac ae,.j ah,.j ai]] b (λn s a c x d e f g h i j k l m o=>b<=o->Bel o
 (D.sl i 0 j k)->Bel o (D.ag g)->(g.length=g.length/\h=h)/\∀ b p,o<=p->Fresh N0 p b [D.ag g,x,d,e,f,I,J,D.sl O
 2 U Y,D.ag r3]->(aq=r3.length/\aa=q3)/\zC r3 [D.ag [D.j n,D.t s,D.t a,D.j c,x,d,e,f,D.sl b 9 g h]] 136/\∀(o :
 Nat),xg E Q N0 n1 n6 (IntKind.i64.wrap (n7+1)) i j k l m au aw ax ay az a6 a7 a8 ba bc bg bh bi bj bm
 aj ak al am I J ao O U Y (r3++[D.ag [D.j n,D.t s,D.t a,D.j c,x,d,e,f,D.sl b 9 g h]]).length o (r3++[D.ag
 [D.j n,D.t s,D.t a,D.j c,x,d,e,f,D.sl b 9 g h]]) o p)) (xQ E [.var [.sv none 0 [] 0,.j 0,.j 0]]/\(aq=r3.length/\aa=q3) /\
 uP N (Q aj ak al am I J (D.j ao) (D.sl O 2 U Y) r3 aa ab ac ae ah ai))):xg E Q N0 n1 n6 n7 ab ac ae ah ai au aw ax ay az a6 a7 a8 ba bc bg bh bi bj bm aj ak al am I J ao O U Y aq aa r3 q3 N:=
  Cr zq h
theorem sX (E:Env) (Q:QT [Sh.pk,(Sh.int IntKind.i64),Sh.str,Sh.str,(Sh.int IntKind.i64),Sh.dc,Sh.dc,Sh.dc,Sh.dc,(Sh.row (OfNat.ofNat 29) 9),(Sh.sl 0),(Sh.int IntKind.i64),(Sh.int IntKind.i64)]) (N0:Nat) (n1 n6 n7:Int) (ab:Option Addr) (ac:List D) (ae:Nat) (ah ai au:Int) (aw ax:ByteArray) (ay az:Int) (a6:Option Addr) (a7:List D) (a8:Nat) (ba:Int) (bc:Option Addr) (bg:List D) (bh:Nat) (bi:Option Addr) (bj:List D) (bm:Nat) (aj:Int) (ak al:ByteArray) (am ao:Int) (I:Option Addr) (J:List D) (O:Nat) (U Y:D) (aq aa:Nat) (r3:List D) (q3:Nat) (N:Nat) (h :
Br (decide (n7<n6)) (∀ b,N<=b->BCalls prog 38 [.pk,.i,.str,.str,.i,.dc,.dc,.dc,.dc,.row 29 9,.sl 0,.i,.i] [.pb 0 0 0 0,.j
 (IntKind.i64.wrap (n1 - 1))] [Bx.var [.sv ab 0 ac ae,.j ah,.j ai]] b (λn s a c x d e f g h i j k l m o=>b<=o->Bel o
 (D.sl i 0 j k)->Bel o (D.ag g)->(g.length=g.length/\h=h)/\∀ b p,o<=p->Fresh N0 p b [D.ag g,x,d,e,f,D.sl I 2 J
 O,U,Y,D.ag r3]->(aq=r3.length/\aa=q3)/\zC r3 [D.ag [D.j n,D.t s,D.t a,D.j c,x,d,e,f,D.sl b 9 g h]] 136/\∀(o
 : Nat),xb E Q N0 n1 n6 (IntKind.i64.wrap (n7+1)) i j k l m au aw ax ay az a6 a7 a8 ba bc bg bh bi bj
 bm aj ak al am ao I J O U Y (r3++[D.ag [D.j n,D.t s,D.t a,D.j c,x,d,e,f,D.sl b 9 g h]]).length o (r3 ++
 [D.ag [D.j n,D.t s,D.t a,D.j c,x,d,e,f,D.sl b 9 g h]]) o p)) (xQ E [.var [.sv none 0 [] 0,.j 0,.j 0]]/\(aq=r3.length/\aa =
 q3)/\uP N (Q aj ak al am (D.j ao) (D.sl I 2 J O) U Y r3 aa ab ac ae ah ai))):xb E Q N0 n1 n6 n7 ab ac ae ah ai au aw ax ay az a6 a7 a8 ba bc bg bh bi bj bm aj ak al am ao I J O U Y aq aa r3 q3 N:=
  Cr zq h
theorem sV (E:Env) (Q:QT [Sh.pk,(Sh.int IntKind.i64),Sh.str,Sh.str,(Sh.int IntKind.i64),Sh.dc,Sh.dc,Sh.dc,Sh.dc,(Sh.row (OfNat.ofNat 29) 9),(Sh.sl 0),(Sh.int IntKind.i64),(Sh.int IntKind.i64)]) (N0:Nat) (n1 n6 n7:Int) (ac:Option Addr) (ae:List D) (ah:Nat) (ai aj ax:Int) (ay az:ByteArray) (a6 a7:Int) (a8:Option Addr) (ba:List D) (bc:Nat) (bg:Int) (bh:Option Addr) (bi:List D) (bj:Nat) (bm:Option Addr) (bp:List D) (bq:Nat) (ak:Int) (al am:ByteArray) (ao aq:Int) (I:Option Addr) (J:List D) (O:Nat) (au:Int) (U:Option Addr) (Y:List D) (aa aw ab:Nat) (r3:List D) (q3:Nat) (N:Nat) (h :
Br (decide (n7<n6)) (∀ b,N<=b->BCalls prog 38 [.pk,.i,.str,.str,.i,.dc,.dc,.dc,.dc,.row 29 9,.sl 0,.i,.i] [.pb 0 0 0 0,.j
 (IntKind.i64.wrap (n1 - 1))] [Bx.var [.sv ac 0 ae ah,.j ai,.j aj]] b (λn s a c x d e f g h i j k l m o=>b<=o->Bel o
 (D.sl i 0 j k)->Bel o (D.ag g)->(g.length=g.length/\h=h)/\∀ b p,o<=p->Fresh N0 p b [D.ag g,x,d,e,f,D.sl I 2 J
 O,D.sl U 2 Y aa,D.ag r3]->(aw=r3.length/\ab=q3)/\zC r3 [D.ag [D.j n,D.t s,D.t a,D.j c,x,d,e,f,D.sl b 9 g h]]
 136/\∀(o:Nat),xd E Q N0 n1 n6 (IntKind.i64.wrap (n7+1)) i j k l m ax ay az a6 a7 a8 ba bc bg bh bi bj
 bm bp bq ak al am ao aq I J O au U Y aa (r3++[D.ag [D.j n,D.t s,D.t a,D.j c,x,d,e,f,D.sl b 9 g
 h]]).length o (r3++[D.ag [D.j n,D.t s,D.t a,D.j c,x,d,e,f,D.sl b 9 g h]]) o p)) (xQ E [.var [.sv none 0 [] 0,.j 0,.j 0]]/\(aw
 = r3.length/\ab=q3)/\uP N (Q ak al am ao (D.j aq) (D.sl I 2 J O) (D.j au) (D.sl U 2 Y aa) r3 ab ac ae ah ai aj))):xd E Q N0 n1 n6 n7 ac ae ah ai aj ax ay az a6 a7 a8 ba bc bg bh bi bj bm bp bq ak al am ao aq I J O au U Y aa aw ab r3 q3 N:=
  Cr zq h
end Go.Proofs.YtligajflgjpdnaaGreatDoor
set_option maxRecDepth 100000
namespace Go.Proofs.YtligajflgjpdnaaGreatDoor
open Go Go.Proofs Go.Proofs.Tryz
def qS:Hint:=⟨[hc 4 [2,3,5]],[],[(1,hs 51 [ec 31 [34,36],ec 39 [42,44]]),(6,[en 0,en 1,en 2,en 3,en 4,en 5,en 6,en 7,en 8,en 9,ec 10 [68,73],en 11])]⟩
def A0:Hint:=⟨[],[],[(1,hs 2 [ec 1 [12]]),(3,hs 4 [ec 1 [14]]),(4,hs 4 [ec 1 [16]]),(5,hs 4 [ec 1 [18]]),(6,[en 0,en 1,ec 2 [21],ec 3 [20,22],en 4,en 5,en 6,en 8,ec 7 [26],ec 9 [28],en 10,en 11,en 12,en 13,en 15,ec 14 [33],ec 16 [35],en 17,en 18,en 19,en 20,en 22,ec 21 [40],ec 23 [42],en 24,en 25]),(8,hs 9 [ec 2 [47,48]]),(9,hs 9 [ec 2 [53,54]]),(10,hs 11 [ec 7 [63,64]]),(12,hs 4 [ec 1 [69]]),(13,hs 4 [ec 1 [71]]),(14,hs 38 [ec 10 [82],ec 27 [97,99]])]⟩
def xe (Q:QT [.bool])(N0:Nat)(I:Int)(J O:D)(N:Nat):Prop:=AT prog 8 [.bool] Q N0 .ord (zG prog 8 4) ⟨an 2 (.pb 0 0 0 0::.pb 1 0 0 0::an 1 (.int .i64 I::an 70 [])),[.vd J 9,.vd O 9],N,none⟩
theorem EV (N:Nat) (I J:D) (Q:QT [.bool]) (h :
Bel N I->Bel N J->∃ n:Int,(I.cell 0)=D.j n/\∃ d:Int,(J.cell 0)=D.j d/\Br (bne n d) (uP N (Q false)) (∃ s,(I.cell 1)=D.t s/\∃
 d,(J.cell 1)=D.t d/\Br (!(ByteArray.toList s==ByteArray.toList d)) (uP N (Q false)) (∃ d,(I.cell 2)=D.t d/\∃ e,(J.cell 2)=D.t e /\
 Br (!(ByteArray.toList d==ByteArray.toList e)) (uP N (Q false)) (∃ d:Int,(I.cell 3)=D.j d/\∃ e:Int,(J.cell 3)=D.j e/\Br (bne d
 e) (uP N (Q false)) (kB 16 [.dg 2 (D.sub I 4 2),.dg 2 (D.sub J 4 2)] N (λb d=>Br (!b) (uP d (Q false)) (kB 16 [.dg 2 (D.sub I 6 2),.dg 2 (D.sub J
 6 2)] d (λb d=>Br (!b) (uP d (Q false)) (∃ a b,∃ c:Nat,(I.cell 8)=D.sl a 9 b c/\∃ a c,∃ e:Nat,(J.cell 8)=D.sl a 9 c e
 /\ Br (bne (b.length:Int) (c.length:Int)) (uP d (Q false)) (xe Q N 0 I J d)))))))))):ACalls prog 8 [.bool] [PV.dg 9 I,PV.dg 9 J] N Q:=
  eE qS h
theorem HF (N:Nat) (I:D) (Q:QT [.bool]) (h :
Bel N I->∃ n:Int,(I.cell 0)=D.j n/\Br (n==2) (uP N (Q true)) (∃ a:Int,(I.cell 0)=D.j a/\uP N (Q (a==3)))):ACalls prog 18 [.bool] [PV.dg 9 I] N Q:=
 eE H0 h
theorem BE (N:Nat) (a0:Option Addr) (e0:List D) (I:Nat) (Q:QT [.bool]) (h :
Bel N (D.sl a0 0 e0 I)->kB 4 [.sv a0 0 e0 I] N (λb c=>Br b (uP c (Q true)) (kA 9 5 [.sv a0 0 e0 I] c (λx b=>kA 9 6 [.dg 9 x] b (λb
 c=>kA 9 7 [.sv a0 0 e0 I] c (λc d=>kA 9 9 [.dg 9 x] d (λd e=>kB 8 [.dg 9 b,.dg 9 d] e (λd e=>Br (!d) (uP e (Q false))
 (kB 10 [.dg 9 c] e (λd e=>kB 11 [.dg 9 c] e (λe f=>Br (!(d==e)) (uP f (Q false)) (kB 12 [.dg 9 c] f (λd e=>kB 13
 [.dg 9 c] e (λc e=>Br (!(d==c)) (uP e (Q false)) (∀ c,e<=c->ACalls prog 14 [.i] [.dg 9 b] c (λn d=>c<=d->∀ c,
 d<=c->ACalls prog 14 [.i] [.dg 9 x] c (λd e=>c<=e->Br (decide (n>d)) (uP e (Q false)) ((0=0/\0=0)/\∀ a c,e<=c->Fresh
 N c a [D.ag []]->kAB 2 15 [.sv a 4 [] 0,.dg 9 x,.j 0] c (λa c d=>(0=0/\0=0)/\∀ e f,d<=f->Fresh N f e [D.ag []]->kAB 2 15
 [.sv e 4 [] 0,.dg 9 b,.j 0] f (λd e f=>Br c (Br (!e) (uP f (Q false)) (kB 16 [.dg 2 a,.dg 2 d] f (λa d=>Br (!a) (uP
 d (Q false)) (kA 11 17 [.dg 9 x,.j 200] d (λa d=>kA 11 17 [.dg 9 b,.j 200] d (λb d=>Br (!c) (uP d (Q true)) (∃ c:Int,
 (a.cell 0)=D.j c/\Br (bne c 1) (uP d (Q true)) (kB 18 [.dg 9 (D.sub a 1 9)] d (λc d=>Br (!c) (uP d (Q true)) (∃ c:Int,(b.cell
 0)=D.j c/\Br (c==3) (uP d (Q true)) (∃ c:Int,(b.cell 0)=D.j c/\Br (c==1) (kB 8 [.dg 9 (D.sub a 1 9),.dg 9 (D.sub b 1 9)] d
 (λc d=>Br c (∃ c:Int,(b.cell 10)=D.j c/\∃ b:Int,(a.cell 10)=D.j b/\uP d (Q (decide (c<=b)))) (uP d (Q false))))
 (uP d (Q false))))))))))))) (kA 11 17 [.dg 9 x,.j 200] f (λa d=>kA 11 17 [.dg 9 b,.j 200] d (λb d=>Br (!c) (uP d (Q true)) (∃
 c:Int,(a.cell 0)=D.j c/\Br (bne c 1) (uP d (Q true)) (kB 18 [.dg 9 (D.sub a 1 9)] d (λc d=>Br (!c) (uP d (Q true)) (∃ c :
 Int,(b.cell 0)=D.j c/\Br (c==3) (uP d (Q true)) (∃ c:Int,(b.cell 0)=D.j c/\Br (c==1) (kB 8 [.dg 9 (D.sub a 1 9),.dg 9 (D.sub
 b 1 9)] d (λc d=>Br c (∃ c:Int,(b.cell 10)=D.j c/\∃ b:Int,(a.cell 10)=D.j b/\uP d (Q (decide (c<=b)))) (uP
 d (Q false)))) (uP d (Q false)))))))))))))))))))))))))))))):ACalls prog 3 [.bool] [PV.sv a0 0 e0 I] N Q:=
  eE A0 h
theorem sa {Q:QT [.bool]} {N0:Nat} {I:Int} {J O:D} {N:Nat} (h :
∃ a d,∃ c:Nat,(J.cell 8)=D.sl a 9 d c/\Br (decide (I<(d.length:Int))) (∃ a c,∃ d:Nat,(J.cell 8)=D.sl a 9 c d/\(0<=I
 /\ I<(c.length:Int))/\∃ a d,∃ e:Nat,(O.cell 8)=D.sl a 9 d e/\(0<=I/\I<(d.length:Int))/\kB 8 [.dg 9 (List.getD c
 I.toNat default),.dg 9 (List.getD d I.toNat default)] N (λb a=>Br (!b) (uP a (Q false)) (xe Q N0 (IntKind.i64.wrap (I+1)) J O
 a))) (uP N (Q true))):xe Q N0 I J O N:=
  hE qS h
end Go.Proofs.YtligajflgjpdnaaGreatDoor
