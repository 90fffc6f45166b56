/- Printed by gen.py: what the functions come to. -/
import Derived.Test.YtidiofobanefmaaGreatDoorJh
set_option linter.unusedVariables false
set_option maxRecDepth 100000
namespace Go.Proofs.YtidiofobanefmaaGreatDoor
open Go Go.Proofs Go.Proofs.Tryz
def qU:Hint:=⟨[hc 3 [0,3,4]],[],[]⟩
def CD:Hint:=⟨[],[],[(2,[en 0,en 1,en 2,en 3,en 4,en 5,en 6,en 7,en 8,en 9,en 10,en 11,en 12]),(3,[en 0,en 1,en 2,en 3,en 4,en 5,en 6,en 7,en 8,en 9]),(4,[en 0,en 1,en 2,en 3,en 4,en 5,en 6,en 7,en 8,en 9,en 10,en 11,en 12,en 13,eh 14])]⟩
def pY:Hint:=⟨[],[],[(4,[en 0,en 1,en 2,en 3,en 4,en 7,en 8,en 9,eh 5,en 6,en 10,en 11])]⟩
def tG:Hint:=⟨[],[],[(2,hs 7 [ec 3 [8]])]⟩
def xo (Q:QT [.cu])(N0:Nat)(a0:Option Addr)(e0:List D)(c0:Nat)(I n4:Int)(N:Nat):Prop:=AT prog 17 [.cu] Q N0 .ord (zT prog 17 3) ⟨.sv a0 0 e0 c0::an 2 (.int .i64 I::.int .i64 n4::an 27 []),[],N,none⟩
theorem EP (N:Nat) (a0:Option Addr) (e0:List D) (c0:Nat) (Q:QT [.cu]) (h :
Bel N (D.sl a0 0 e0 c0)->xo Q N a0 e0 c0 (IntKind.i64.wrap (26583+(e0.length:Int))) 0 N):ACalls prog 17 [.cu] [PV.sv a0 0 e0 c0] N Q:=
 eE qU h
theorem tO (N:Nat) (a0:Option Addr) (e0:List D) (c0:Nat) (Q:QT [.str]) (h :
Bel N (D.sl a0 0 e0 c0)->∀ b,N<=b->ACalls prog 17 [.cu] [.sv a0 0 e0 c0] b (λa c d n e f=>b<=f->cA 9 16 [] a c d n e f (λx a
 b c d e f=>kS 8 [.dg 9 x] f (λs f=>∀ g,f<=g->BCalls prog 29 [.str,.sl 0,.i,.i,.sl 0] [.pb 0 0 0 0,.str s,.sb 1 0 0 10 10] [Bx.var
 [.sv a 0 b c,.j d,.j e],Bx.arr 9 0 [D.t (bytes [40]),D.t (bytes [41]),D.t (bytes [32]),D.t (bytes [60]),D.t (bytes [62]),D.t (bytes [126]),
 D.t (bytes [120]),D.t (bytes [43]),D.t (bytes [35,116]),D.t (bytes [114,117,110,32])] 10] g (λa b c d _ _ e f h i=>g<=i ->
 Bel i (D.sl b 0 c d)->Bel i (D.sl e 0 f h)->uP i (Q a)))))):ACalls prog 12 [.str] [PV.sv a0 0 e0 c0] N Q:=
  eE tG h
theorem tU {Q:QT [.cu]} {N0:Nat} {a0:Option Addr} {e0:List D} {c0:Nat} {n3 n4:Int} {N:Nat} (h :
Br (decide (n4<(e0.length:Int))) (Br (decide (n4<4000)) ((0<=n4/\n4<(e0.length:Int))/\∃ n:Int,List.getD e0 n4.toNat default=D.lit (.int
 IntKind.u8 n)/\xo Q N0 a0 e0 c0 (IntKind.i64.wrap (BitVec.toNat (HAnd.hAnd (BitVec.ofInt 64 (IntKind.i64.wrap (IntKind.i64.wrap (IntKind.i64.wrap
 (n3*131)+IntKind.i64.wrap n)+7))) (BitVec.ofInt 64 1073741823)):Int)) (IntKind.i64.wrap (n4+1)) N) (uP N (Q a0 e0 c0 0 n3))) (uP N (Q a0 e0 c0 0 n3))):xo Q N0 a0 e0 c0 n3 n4 N:=
  hE qU h
theorem rQ (N:Nat) (I:ByteArray) (m2 c2:Nat) (J:Option Addr) (O:List D) (U:Nat) (V Y:Int) (Z:List D) (aa:Nat) (Q:QT [Sh.str,(Sh.sl 0),(Sh.int IntKind.i64),(Sh.int IntKind.i64),(Sh.sl 0)]) (h:∀ E:Env,
Bel N (D.sl J 0 O U)->Bel N (D.sl none 0 Z aa)->∀ b,N<=b->BCalls prog 32 [.i,.sl 0,.i,.i] [.pb 0 0 0 0,.j
 (IntKind.i64.wrap ((I.size:Int)+1))] [Bx.var [.sv J 0 O U,.j V,.j Y]] b (λn a c d e f g=>b<=g->Bel g (D.sl a 0 c d)
 -> ∀ b,g<=b->BCalls prog 32 [.i,.sl 0,.i,.i] [.pb 0 0 0 0,.j 6] [Bx.var [.sv a 0 c d,.j e,.j f]] b (λa c d e f g h=>b<=h
 -> Bel h (D.sl c 0 d e)->Br (a==0) (((0:Int)<=(0:Int)/\0<=n/\n<=(I.size:Int))/\(0<=n/\n<=(I.size:Int)/\(I.size:Int) <=
 (I.size:Int))/\∀ a,h<=a->BCalls prog 34 [.str,.sl 0,.i,.i,.sl 0] [.pb 0 0 0 0,.sb 1 0 0 m2 c2] [Bx.var [.sv c 0 d e,.j f,.j g],
 Bx.arr 9 0 Z aa] a (λs b c d e f g h i j=>a<=j->Bel j (D.sl b 0 c d)->Bel j (D.sl g 0 h i)->(ByteArray.size
 (ByteArray.extract I 0 n.toNat)+s.size:Nat)<=9223372036854775807/\(ByteArray.size (ByteArray.extract I 0 n.toNat++s)+ByteArray.size
 (ByteArray.extract I n.toNat ((I.size:Int)).toNat):Nat)<=9223372036854775807/\zC E [.var [.sv none 0 [] 0,.j 0,.j 0],.arr 9 0 [] 0]/\∀ a,j<=a
 -> Q (ByteArray.extract I 0 n.toNat++s++ByteArray.extract I n.toNat ((I.size:Int)).toNat) b c d e f none h i a)) (Br (a==1) (((0 :
 Int)<=(0:Int)/\0<=n/\n<=(I.size:Int))/\zC E [.var [.sv none 0 [] 0,.j 0,.j 0],.arr 9 0 [] 0]/\uP h (Q (ByteArray.extract I 0 n.toNat) c
 d e f g none Z aa)) (zC E [.var [.sv none 0 [] 0,.j 0,.j 0],.arr 9 0 [] 0]/\uP h (Q I c d e f g none Z aa)))))):BCalls prog 29 [Sh.str,(Sh.sl 0),(Sh.int IntKind.i64),(Sh.int IntKind.i64),(Sh.sl 0)] [.pb 0 0 0 0,.str I,.sb 1 0 0 m2 c2] [.var [.sv J 0 O U,.int .i64 V,.int .i64 Y],.arr 9 0 Z aa] N Q:=
  bE pY h
theorem qT (N:Nat) (n1:Int) (aB0_0:Option Addr) (eB0_0:List D) (cB0_0:Nat) (nB0_1 nB0_2:Int) (Q:QT [(Sh.int IntKind.i64),(Sh.sl 0),(Sh.int IntKind.i64),(Sh.int IntKind.i64)]) (h:∀ E:Env,
Bel N (D.sl aB0_0 0 eB0_0 cB0_0)->Br (decide (n1<=0)) (zC E [.var [.sv none 0 [] 0,.j 0,.j 0]]/\uP N (Q 0 aB0_0 eB0_0 cB0_0 nB0_1 nB0_2))
 (Br (decide (n1<=256)) (cI 71 [] aB0_0 eB0_0 cB0_0 nB0_1 nB0_2 N (fun n a b c d e f=>n1≠0/\zC E [.var [.sv none 0 [] 0,.j 0,.j 0]]/\uP f (Q
 (Int.tmod n n1) a b c d e))) (cI 71 [] aB0_0 eB0_0 cB0_0 nB0_1 nB0_2 N (fun a b c d e f g=>cI 71 [] b c d e f g (fun b c
 d e f g h=>cI 71 [] c d e f g h (fun c d e f g h i=>cI 71 [] d e f g h i (fun d e f g h
 i j=>n1≠0/\zC E [.var [.sv none 0 [] 0,.j 0,.j 0]]/\∀ k,j<=k->Q (Int.tmod (IntKind.i64.wrap (IntKind.i64.wrap (IntKind.i64.wrap
 (IntKind.i64.wrap (a*16777216)+IntKind.i64.wrap (b*65536))+IntKind.i64.wrap (c*256))+d)) n1) e f g h i k))))))):BCalls prog 32 [(Sh.int IntKind.i64),(Sh.sl 0),(Sh.int IntKind.i64),(Sh.int IntKind.i64)] [.pb 0 0 0 0,.int .i64 n1] [.var [.sv aB0_0 0 eB0_0 cB0_0,.int .i64 nB0_1,.int .i64 nB0_2]] N Q:=
  bE H0 h
theorem pC (N:Nat) (m1 c1:Nat) (I:Option Addr) (J:List D) (O:Nat) (V Y:Int) (U:List D) (Z:Nat) (Q:QT [Sh.str,(Sh.sl 0),(Sh.int IntKind.i64),(Sh.int IntKind.i64),(Sh.sl 0)]) (h:∀ E:Env,
Bel N (D.sl I 0 J O)->Bel N (D.sl none 0 U Z)->∀ b,N<=b->BCalls prog 32 [.i,.sl 0,.i,.i] [.pb 0 0 0 0,.j (m1:Int)]
 [Bx.var [.sv I 0 J O,.j V,.j Y]] b (λn a c d e f g=>b<=g->Bel g (D.sl a 0 c d)->(0<=n/\n<(m1:Int)/\(0+n.toNat
 : Nat)<U.length)/\(0+n.toNat:Nat)<U.length/\∃ s,List.getD U (0+n.toNat:Nat) default=D.t s/\zC E [.var [.sv none 0 [] 0,.j 0,.j 0],
 .arr 9 0 [] 0]/\uP g (Q s a c d e f none U Z))):BCalls prog 34 [Sh.str,(Sh.sl 0),(Sh.int IntKind.i64),(Sh.int IntKind.i64),(Sh.sl 0)] [.pb 0 0 0 0,.sb 1 0 0 m1 c1] [.var [.sv I 0 J O,.int .i64 V,.int .i64 Y],.arr 9 0 U Z] N Q:=
  bE H0 h
theorem q9 (N:Nat) (U:Option Addr) (I:List D) (V:Nat) (J O:Int) (Q:QT [(Sh.int IntKind.i64),(Sh.sl 0),(Sh.int IntKind.i64),(Sh.int IntKind.i64)]) (h:∀ E:Env,
Bel N (D.sl U 0 I V)->(0:Int)<=(33:Int)/\(0:Int)<=(45:Int)/\Br (decide (J<(I.length:Int))) ((0<=J /\
 J<(I.length:Int))/\∃ n:Int,List.getD I J.toNat default=D.lit (.int IntKind.u8 n)/\zC E [.var [.sv none 0 [] 0,.j 0,.j 0]]/\∀ a,
 N<=a->Q (IntKind.i64.wrap (BitVec.toNat (HAnd.hAnd (BitVec.ofInt 64 (IntKind.i64.wrap (IntKind.i64.wrap (BitVec.toNat (HAnd.hAnd (BitVec.ofInt 64
 (IntKind.i64.wrap (BitVec.toNat (HXor.hXor (BitVec.ofInt 64 (Int.fdiv (IntKind.i64.wrap (IntKind.i64.wrap (O*6364136223846793005)+1442695040888963407))
 8589934592)) (BitVec.ofInt 64 (Int.fdiv (IntKind.i64.wrap (IntKind.i64.wrap (O*6364136223846793005)+1442695040888963407)) 35184372088832))):Int)))
 (BitVec.ofInt 64 255)):Int)+IntKind.i64.wrap n))) (BitVec.ofInt 64 255)):Int)) U I V (IntKind.i64.wrap (J+1)) (IntKind.i64.wrap
 (IntKind.i64.wrap (O*6364136223846793005)+1442695040888963407)) a) (zC E [.var [.sv none 0 [] 0,.j 0,.j 0]]/\∀ a,N<=a->Q (IntKind.i64.wrap
 (BitVec.toNat (HAnd.hAnd (BitVec.ofInt 64 (IntKind.i64.wrap (BitVec.toNat (HXor.hXor (BitVec.ofInt 64 (Int.fdiv (IntKind.i64.wrap (IntKind.i64.wrap (O *
 6364136223846793005)+1442695040888963407)) 8589934592)) (BitVec.ofInt 64 (Int.fdiv (IntKind.i64.wrap (IntKind.i64.wrap (O*6364136223846793005) +
 1442695040888963407)) 35184372088832))):Int))) (BitVec.ofInt 64 255)):Int)) U I V J (IntKind.i64.wrap (IntKind.i64.wrap (O *
 6364136223846793005)+1442695040888963407)) a)):BCalls prog 71 [(Sh.int IntKind.i64),(Sh.sl 0),(Sh.int IntKind.i64),(Sh.int IntKind.i64)] [.pb 0 0 0 0] [.var [.sv U 0 I V,.int .i64 J,.int .i64 O]] N Q:=
  bE CD h
end Go.Proofs.YtidiofobanefmaaGreatDoor
set_option maxRecDepth 100000
namespace Go.Proofs.YtidiofobanefmaaGreatDoor
open Go Go.Proofs Go.Proofs.Tryz
def shA:FuncId->List Sh:=λf=>match Ij f [(104,[.pk,.int .i64,.str,.str,.int .i64,.dc,.dc,.dc,.dc,.row 29 9]),(63,[.pk,.int .i64,.str,.str,.int .i64,.dc,.dc,.dc,.dc,.row 29 9]),(35,[.pk,.int .i64,.str,.str,.int .i64,.dc,.dc,.dc,.dc,.row 29 9]),(69,[.row 0 1000007,.pk,.int .i64,.str,.str,.int .i64,.dc,.dc,.dc,.dc,.row 29 9]),(31,[.row 0 1000007,.pk,.int .i64,.str,.str,.int .i64,.dc,.dc,.dc,.dc,.row 29 9])]with
 | []=>sh f
 | l=>l
theorem Hm {f:FuncId}{rs:List Sh}{Q:QT rs}{N:Nat}(H:Hint){args:List PV}{F:Prop}(h:F)(hc:yj prog f=true:=by kernel_rfl)(I:F=Dg prog shA f rs Q N H 400 args:=by kernel_rfl):ACalls prog f rs args N Q:=Kd mixed hc I h
theorem Ea {f:FuncId}{full:List Sh}{Q:QT full}{N:Nat}(H:Hint){args:List PV}{bx:List Bx}{F:Env->Prop}(h:∀ E,F E)(hc:yj prog f=true:=by kernel_rfl)(I:∀ E,F E=Df prog shA f full Q N H 400 args bx E:=by intro E;kernel_rfl):BCalls prog f full args bx N Q:=Hn mixed hc I h
theorem qA {f:FuncId}{rs:List Sh}{Q:QT rs}{N0:Nat}{M:Mode}(H:Hint){I:List Item}{st:St}{F:Prop}(h:F)(J:F=qq st λst=>W prog shA f rs Q N0 M H 400 true I st:=by kernel_rfl):AT prog f rs Q N0 M I st:=LV mixed J h
def CF:Hint:=⟨[],[],[(4,hs 6 [ec 4 [21]]),(6,[en 0,en 1,en 2,en 3,eh 4,ec 5 [27,31],eh 6])]⟩
def zS:Hint:=⟨[hc 18 [0,1,4,5,6,7] [] [(5,8,29,9)]],[hc 11 [0,1,4,5] [] [(5,8,29,9)],hc 13 [0,1,4,5] [] [(5,8,29,9)],hc 16 [0,1,4,5] [] [(5,8,29,9)]],[(20,[en 0,en 1,en 2,en 3,en 4,eh 5,{ i:=6,hard:=true,cl:=[69],fs:=[5,69] },eh 7,en 8,eh 9])]⟩
def vM:Hint:=⟨[hc 10 [2,3,4,5],hc 15 [2,3,6]],[],[(6,[en 0,en 1,eh 2,en 3,eh 4,en 5,eh 6]),(12,hs 3 [ec 1 [34]]),(17,hs 4 [ec 2 [42,43]])]⟩
def CI:Hint:=⟨[],[],[(10,[en 0,en 1,eh 2,{ i:=3,hard:=true,cl:=[32],fs:=[3,32] },eh 4,en 5,eh 6])]⟩
def za (E:Env)(Q:QT [.pk,.i,.str,.str,.i,.dc,.dc,.dc,.dc,.row 29 9,.sl 0,.i,.i])(N0:Nat)(n1:Int)(I:Option Addr)(J:List D)(O:Nat)(U V Y:Int)(Z aa:ByteArray)(ab ac:Int)(ae:Option Addr)(ah:List D)(ai:Nat)(aj:Int)(ak:Option Addr)(al:List D)(ao:Nat)(aq:Option Addr)(au:List D)(aw:Nat)(ax:Int)(ay az:ByteArray)(a1 a6:Int)(a7:Option Addr)(a8:List D)(ba:Nat)(bb:Int)(bc:Option Addr)(bg:List D)(bh bi bj:Nat)(r3:List D)(q3:Nat)(N:Nat):Prop:=AT prog 31 [.pk,.i,.str,.str,.i,.dc,.dc,.dc,.dc,.row 29 9,.sl 0,.i,.i] Q N0 (.io E [.var [.sv none 0 [] 0,.int .i64 0,.int .i64 0]]) (vH prog 31 11) ⟨.pb 0 0 0 0::.int .i64 n1::an 2 (.pb 1 0 0 0::.pb 2 0 0 0::an 68 []),[.var [.sv I 0 J O,.int .i64 U,.int .i64 V],.var [.int .i64 Y,.str Z,.str aa,.int .i64 ab,.int .i64 ac,.sv ae 2 ah ai,.int .i64 aj,.sv ak 2 al ao,.sv aq 9 au aw],.var [.int .i64 ax,.str ay,.str az,.int .i64 a1,.int .i64 a6,.sv a7 2 a8 ba,.int .i64 bb,.sv bc 2 bg bh,.sb 3 9 0 bi bj],.arr 29 9 r3 q3],N,some (zq E 0 [.var [.sv none 0 [] 0,.int .i64 0,.int .i64 0]],[])⟩
def yf (E:Env)(Q:QT [.ag 2,.sl 0,.i,.i])(N0:Nat)(n4 n5:Int)(I:Option Addr)(J:List D)(O:Nat)(U V Y:Int)(Z:Option Addr)(aa:List D)(ab:Nat)(y2:D)(N:Nat):Prop:=AT prog 36 [.ag 2,.sl 0,.i,.i] Q N0 (.io E [.var [.sv none 0 [] 0,.int .i64 0,.int .i64 0]]) (zT prog 36 10) ⟨an 2 (.pb 1 0 0 0::.pb 2 0 0 0::.int .i64 n4::.int .i64 n5::an 40 []),[.var [.sv I 0 J O,.int .i64 U,.int .i64 V],.var [.int .i64 Y,.sv Z 2 aa ab],.vd y2 2],N,some (zq E 0 [.var [.sv none 0 [] 0,.int .i64 0,.int .i64 0]],[])⟩
def yg (E:Env)(Q:QT [.ag 2,.sl 0,.i,.i])(N0:Nat)(n6:Int)(I:Option Addr)(J:List D)(O:Nat)(U V Y:Int)(Z:Option Addr)(aa:List D)(ab:Nat)(y2:D)(N:Nat):Prop:=AT prog 36 [.ag 2,.sl 0,.i,.i] Q N0 (.io E [.var [.sv none 0 [] 0,.int .i64 0,.int .i64 0]]) (zT prog 36 15) ⟨an 2 (.pb 1 0 0 0::.pb 2 0 0 0::an 2 (.int .i64 n6::an 39 [])),[.var [.sv I 0 J O,.int .i64 U,.int .i64 V],.var [.int .i64 Y,.sv Z 2 aa ab],.vd y2 2],N,some (zq E 0 [.var [.sv none 0 [] 0,.int .i64 0,.int .i64 0]],[])⟩
def xF (E:Env)(Q:QT [.pk,.i,.str,.str,.i,.dc,.dc,.dc,.dc,.row 29 9,.sl 0,.i,.i])(N0:Nat)(n1:Int)(I:Option Addr)(J:List D)(O:Nat)(U V Y:Int)(Z aa:ByteArray)(ab ac:Int)(ae:Option Addr)(ah:List D)(ai:Nat)(aj:Int)(ak:Option Addr)(al:List D)(ao:Nat)(aq:Option Addr)(au:List D)(aw:Nat)(ax:Int)(ay az:ByteArray)(a1:Int)(a6 a7:D)(a8:Int)(ba:Option Addr)(bb:List D)(bc bg bh:Nat)(r3:List D)(q3:Nat)(N:Nat):Prop:=AT prog 31 [.pk,.i,.str,.str,.i,.dc,.dc,.dc,.dc,.row 29 9,.sl 0,.i,.i] Q N0 (.io E [.var [.sv none 0 [] 0,.int .i64 0,.int .i64 0]]) (vH prog 31 13) ⟨.pb 0 0 0 0::.int .i64 n1::an 2 (.pb 1 0 0 0::.pb 2 0 0 0::an 68 []),[.var [.sv I 0 J O,.int .i64 U,.int .i64 V],.var [.int .i64 Y,.str Z,.str aa,.int .i64 ab,.int .i64 ac,.sv ae 2 ah ai,.int .i64 aj,.sv ak 2 al ao,.sv aq 9 au aw],.var [.int .i64 ax,.str ay,.str az,.int .i64 a1,.dc a6,.dc a7,.int .i64 a8,.sv ba 2 bb bc,.sb 3 9 0 bg bh],.arr 29 9 r3 q3],N,some (zq E 0 [.var [.sv none 0 [] 0,.int .i64 0,.int .i64 0]],[])⟩
def xG (E:Env)(Q:QT [.pk,.i,.str,.str,.i,.dc,.dc,.dc,.dc,.row 29 9,.sl 0,.i,.i])(N0:Nat)(n1:Int)(I:Option Addr)(J:List D)(O:Nat)(U V Y:Int)(Z aa:ByteArray)(ab ac:Int)(ae:Option Addr)(ah:List D)(ai:Nat)(aj:Int)(ak:Option Addr)(al:List D)(ao:Nat)(aq:Option Addr)(au:List D)(aw:Nat)(ax:Int)(ay az:ByteArray)(a1 a6:Int)(a7:Option Addr)(a8:List D)(ba:Nat)(bb:Int)(bc:Option Addr)(bg:List D)(bh bi bj:Nat)(r3:List D)(q3:Nat)(N:Nat):Prop:=AT prog 31 [.pk,.i,.str,.str,.i,.dc,.dc,.dc,.dc,.row 29 9,.sl 0,.i,.i] Q N0 (.io E [.var [.sv none 0 [] 0,.int .i64 0,.int .i64 0]]) (vH prog 31 13) ⟨.pb 0 0 0 0::.int .i64 n1::an 2 (.pb 1 0 0 0::.pb 2 0 0 0::an 68 []),[.var [.sv I 0 J O,.int .i64 U,.int .i64 V],.var [.int .i64 Y,.str Z,.str aa,.int .i64 ab,.int .i64 ac,.sv ae 2 ah ai,.int .i64 aj,.sv ak 2 al ao,.sv aq 9 au aw],.var [.int .i64 ax,.str ay,.str az,.int .i64 a1,.int .i64 a6,.sv a7 2 a8 ba,.int .i64 bb,.sv bc 2 bg bh,.sb 3 9 0 bi bj],.arr 29 9 r3 q3],N,some (zq E 0 [.var [.sv none 0 [] 0,.int .i64 0,.int .i64 0]],[])⟩
def wS (E:Env)(Q:QT [.pk,.i,.str,.str,.i,.dc,.dc,.dc,.dc,.row 29 9,.sl 0,.i,.i])(N0:Nat)(n1:Int)(I:Option Addr)(J:List D)(O:Nat)(U V Y:Int)(Z aa:ByteArray)(ab ac:Int)(ae:Option Addr)(ah:List D)(ai:Nat)(aj:Int)(ak:Option Addr)(al:List D)(ao:Nat)(aq:Option Addr)(au:List D)(aw:Nat)(ax:Int)(ay az:ByteArray)(a1:Int)(a6 a7 a8 ba:D)(bb bc:Nat)(r3:List D)(q3:Nat)(N:Nat):Prop:=AT prog 31 [.pk,.i,.str,.str,.i,.dc,.dc,.dc,.dc,.row 29 9,.sl 0,.i,.i] Q N0 (.io E [.var [.sv none 0 [] 0,.int .i64 0,.int .i64 0]]) (vH prog 31 16) ⟨.pb 0 0 0 0::.int .i64 n1::an 2 (.pb 1 0 0 0::.pb 2 0 0 0::an 68 []),[.var [.sv I 0 J O,.int .i64 U,.int .i64 V],.var [.int .i64 Y,.str Z,.str aa,.int .i64 ab,.int .i64 ac,.sv ae 2 ah ai,.int .i64 aj,.sv ak 2 al ao,.sv aq 9 au aw],.var [.int .i64 ax,.str ay,.str az,.int .i64 a1,.dc a6,.dc a7,.dc a8,.dc ba,.sb 3 9 0 bb bc],.arr 29 9 r3 q3],N,some (zq E 0 [.var [.sv none 0 [] 0,.int .i64 0,.int .i64 0]],[])⟩
def xH (E:Env)(Q:QT [.pk,.i,.str,.str,.i,.dc,.dc,.dc,.dc,.row 29 9,.sl 0,.i,.i])(N0:Nat)(n1:Int)(I:Option Addr)(J:List D)(O:Nat)(U V Y:Int)(Z aa:ByteArray)(ab ac:Int)(ae:Option Addr)(ah:List D)(ai:Nat)(aj:Int)(ak:Option Addr)(al:List D)(ao:Nat)(aq:Option Addr)(au:List D)(aw:Nat)(ax:Int)(ay az:ByteArray)(a1:Int)(a6 a7:D)(a8:Int)(ba:Option Addr)(bb:List D)(bc bg bh:Nat)(r3:List D)(q3:Nat)(N:Nat):Prop:=AT prog 31 [.pk,.i,.str,.str,.i,.dc,.dc,.dc,.dc,.row 29 9,.sl 0,.i,.i] Q N0 (.io E [.var [.sv none 0 [] 0,.int .i64 0,.int .i64 0]]) (vH prog 31 16) ⟨.pb 0 0 0 0::.int .i64 n1::an 2 (.pb 1 0 0 0::.pb 2 0 0 0::an 68 []),[.var [.sv I 0 J O,.int .i64 U,.int .i64 V],.var [.int .i64 Y,.str Z,.str aa,.int .i64 ab,.int .i64 ac,.sv ae 2 ah ai,.int .i64 aj,.sv ak 2 al ao,.sv aq 9 au aw],.var [.int .i64 ax,.str ay,.str az,.int .i64 a1,.dc a6,.dc a7,.int .i64 a8,.sv ba 2 bb bc,.sb 3 9 0 bg bh],.arr 29 9 r3 q3],N,some (zq E 0 [.var [.sv none 0 [] 0,.int .i64 0,.int .i64 0]],[])⟩
def xI (E:Env)(Q:QT [.pk,.i,.str,.str,.i,.dc,.dc,.dc,.dc,.row 29 9,.sl 0,.i,.i])(N0:Nat)(n1:Int)(I:Option Addr)(J:List D)(O:Nat)(U V Y:Int)(Z aa:ByteArray)(ab ac:Int)(ae:Option Addr)(ah:List D)(ai:Nat)(aj:Int)(ak:Option Addr)(al:List D)(ao:Nat)(aq:Option Addr)(au:List D)(aw:Nat)(ax:Int)(ay az:ByteArray)(a1 a6:Int)(a7:Option Addr)(a8:List D)(ba:Nat)(bb bc:D)(bg bh:Nat)(r3:List D)(q3:Nat)(N:Nat):Prop:=AT prog 31 [.pk,.i,.str,.str,.i,.dc,.dc,.dc,.dc,.row 29 9,.sl 0,.i,.i] Q N0 (.io E [.var [.sv none 0 [] 0,.int .i64 0,.int .i64 0]]) (vH prog 31 16) ⟨.pb 0 0 0 0::.int .i64 n1::an 2 (.pb 1 0 0 0::.pb 2 0 0 0::an 68 []),[.var [.sv I 0 J O,.int .i64 U,.int .i64 V],.var [.int .i64 Y,.str Z,.str aa,.int .i64 ab,.int .i64 ac,.sv ae 2 ah ai,.int .i64 aj,.sv ak 2 al ao,.sv aq 9 au aw],.var [.int .i64 ax,.str ay,.str az,.int .i64 a1,.int .i64 a6,.sv a7 2 a8 ba,.dc bb,.dc bc,.sb 3 9 0 bg bh],.arr 29 9 r3 q3],N,some (zq E 0 [.var [.sv none 0 [] 0,.int .i64 0,.int .i64 0]],[])⟩
def xJ (E:Env)(Q:QT [.pk,.i,.str,.str,.i,.dc,.dc,.dc,.dc,.row 29 9,.sl 0,.i,.i])(N0:Nat)(n1:Int)(I:Option Addr)(J:List D)(O:Nat)(U V Y:Int)(Z aa:ByteArray)(ab ac:Int)(ae:Option Addr)(ah:List D)(ai:Nat)(aj:Int)(ak:Option Addr)(al:List D)(ao:Nat)(aq:Option Addr)(au:List D)(aw:Nat)(ax:Int)(ay az:ByteArray)(a1 a6:Int)(a7:Option Addr)(a8:List D)(ba:Nat)(bb:Int)(bc:Option Addr)(bg:List D)(bh bi bj:Nat)(r3:List D)(q3:Nat)(N:Nat):Prop:=AT prog 31 [.pk,.i,.str,.str,.i,.dc,.dc,.dc,.dc,.row 29 9,.sl 0,.i,.i] Q N0 (.io E [.var [.sv none 0 [] 0,.int .i64 0,.int .i64 0]]) (vH prog 31 16) ⟨.pb 0 0 0 0::.int .i64 n1::an 2 (.pb 1 0 0 0::.pb 2 0 0 0::an 68 []),[.var [.sv I 0 J O,.int .i64 U,.int .i64 V],.var [.int .i64 Y,.str Z,.str aa,.int .i64 ab,.int .i64 ac,.sv ae 2 ah ai,.int .i64 aj,.sv ak 2 al ao,.sv aq 9 au aw],.var [.int .i64 ax,.str ay,.str az,.int .i64 a1,.int .i64 a6,.sv a7 2 a8 ba,.int .i64 bb,.sv bc 2 bg bh,.sb 3 9 0 bi bj],.arr 29 9 r3 q3],N,some (zq E 0 [.var [.sv none 0 [] 0,.int .i64 0,.int .i64 0]],[])⟩
def xK (E:Env)(Q:QT [.pk,.i,.str,.str,.i,.dc,.dc,.dc,.dc,.row 29 9,.sl 0,.i,.i])(N0:Nat)(n1 n6 n7:Int)(I:Option Addr)(J:List D)(O:Nat)(U V Y:Int)(Z aa:ByteArray)(ab ac:Int)(ae:Option Addr)(ah:List D)(ai:Nat)(aj:Int)(ak:Option Addr)(al:List D)(ao:Nat)(aq:Option Addr)(au:List D)(aw:Nat)(ax:Int)(ay az:ByteArray)(a1:Int)(a6 a7 a8 ba:D)(bb bc:Nat)(r3:List D)(q3:Nat)(N:Nat):Prop:=AT prog 31 [.pk,.i,.str,.str,.i,.dc,.dc,.dc,.dc,.row 29 9,.sl 0,.i,.i] Q N0 (.io E [.var [.sv none 0 [] 0,.int .i64 0,.int .i64 0]]) (zT prog 31 18) ⟨.pb 0 0 0 0::.int .i64 n1::an 2 (.pb 1 0 0 0::.pb 2 0 0 0::.int .i64 n6::.int .i64 n7::an 66 []),[.var [.sv I 0 J O,.int .i64 U,.int .i64 V],.var [.int .i64 Y,.str Z,.str aa,.int .i64 ab,.int .i64 ac,.sv ae 2 ah ai,.int .i64 aj,.sv ak 2 al ao,.sv aq 9 au aw],.var [.int .i64 ax,.str ay,.str az,.int .i64 a1,.dc a6,.dc a7,.dc a8,.dc ba,.sb 3 9 0 bb bc],.arr 29 9 r3 q3],N,some (zq E 0 [.var [.sv none 0 [] 0,.int .i64 0,.int .i64 0]],[])⟩
def yI (E:Env)(Q:QT [.pk,.i,.str,.str,.i,.dc,.dc,.dc,.dc,.row 29 9,.sl 0,.i,.i])(N0:Nat)(n1 n6 n7:Int)(I:Option Addr)(J:List D)(O:Nat)(U V Y:Int)(Z aa:ByteArray)(ab ac:Int)(ae:Option Addr)(ah:List D)(ai:Nat)(aj:Int)(ak:Option Addr)(al:List D)(ao:Nat)(aq:Option Addr)(au:List D)(aw:Nat)(ax:Int)(ay az:ByteArray)(a1:Int)(a6 a7:D)(a8:Int)(ba:Option Addr)(bb:List D)(bc bg bh:Nat)(r3:List D)(q3:Nat)(N:Nat):Prop:=AT prog 31 [.pk,.i,.str,.str,.i,.dc,.dc,.dc,.dc,.row 29 9,.sl 0,.i,.i] Q N0 (.io E [.var [.sv none 0 [] 0,.int .i64 0,.int .i64 0]]) (zT prog 31 18) ⟨.pb 0 0 0 0::.int .i64 n1::an 2 (.pb 1 0 0 0::.pb 2 0 0 0::.int .i64 n6::.int .i64 n7::an 66 []),[.var [.sv I 0 J O,.int .i64 U,.int .i64 V],.var [.int .i64 Y,.str Z,.str aa,.int .i64 ab,.int .i64 ac,.sv ae 2 ah ai,.int .i64 aj,.sv ak 2 al ao,.sv aq 9 au aw],.var [.int .i64 ax,.str ay,.str az,.int .i64 a1,.dc a6,.dc a7,.int .i64 a8,.sv ba 2 bb bc,.sb 3 9 0 bg bh],.arr 29 9 r3 q3],N,some (zq E 0 [.var [.sv none 0 [] 0,.int .i64 0,.int .i64 0]],[])⟩
def yJ (E:Env)(Q:QT [.pk,.i,.str,.str,.i,.dc,.dc,.dc,.dc,.row 29 9,.sl 0,.i,.i])(N0:Nat)(n1 n6 n7:Int)(I:Option Addr)(J:List D)(O:Nat)(U V Y:Int)(Z aa:ByteArray)(ab ac:Int)(ae:Option Addr)(ah:List D)(ai:Nat)(aj:Int)(ak:Option Addr)(al:List D)(ao:Nat)(aq:Option Addr)(au:List D)(aw:Nat)(ax:Int)(ay az:ByteArray)(a1 a6:Int)(a7:Option Addr)(a8:List D)(ba:Nat)(bb bc:D)(bg bh:Nat)(r3:List D)(q3:Nat)(N:Nat):Prop:=AT prog 31 [.pk,.i,.str,.str,.i,.dc,.dc,.dc,.dc,.row 29 9,.sl 0,.i,.i] Q N0 (.io E [.var [.sv none 0 [] 0,.int .i64 0,.int .i64 0]]) (zT prog 31 18) ⟨.pb 0 0 0 0::.int .i64 n1::an 2 (.pb 1 0 0 0::.pb 2 0 0 0::.int .i64 n6::.int .i64 n7::an 66 []),[.var [.sv I 0 J O,.int .i64 U,.int .i64 V],.var [.int .i64 Y,.str Z,.str aa,.int .i64 ab,.int .i64 ac,.sv ae 2 ah ai,.int .i64 aj,.sv ak 2 al ao,.sv aq 9 au aw],.var [.int .i64 ax,.str ay,.str az,.int .i64 a1,.int .i64 a6,.sv a7 2 a8 ba,.dc bb,.dc bc,.sb 3 9 0 bg bh],.arr 29 9 r3 q3],N,some (zq E 0 [.var [.sv none 0 [] 0,.int .i64 0,.int .i64 0]],[])⟩
def yK (E:Env)(Q:QT [.pk,.i,.str,.str,.i,.dc,.dc,.dc,.dc,.row 29 9,.sl 0,.i,.i])(N0:Nat)(n1 n6 n7:Int)(I:Option Addr)(J:List D)(O:Nat)(U V Y:Int)(Z aa:ByteArray)(ab ac:Int)(ae:Option Addr)(ah:List D)(ai:Nat)(aj:Int)(ak:Option Addr)(al:List D)(ao:Nat)(aq:Option Addr)(au:List D)(aw:Nat)(ax:Int)(ay az:ByteArray)(a1 a6:Int)(a7:Option Addr)(a8:List D)(ba:Nat)(bb:Int)(bc:Option Addr)(bg:List D)(bh bi bj:Nat)(r3:List D)(q3:Nat)(N:Nat):Prop:=AT prog 31 [.pk,.i,.str,.str,.i,.dc,.dc,.dc,.dc,.row 29 9,.sl 0,.i,.i] Q N0 (.io E [.var [.sv none 0 [] 0,.int .i64 0,.int .i64 0]]) (zT prog 31 18) ⟨.pb 0 0 0 0::.int .i64 n1::an 2 (.pb 1 0 0 0::.pb 2 0 0 0::.int .i64 n6::.int .i64 n7::an 66 []),[.var [.sv I 0 J O,.int .i64 U,.int .i64 V],.var [.int .i64 Y,.str Z,.str aa,.int .i64 ab,.int .i64 ac,.sv ae 2 ah ai,.int .i64 aj,.sv ak 2 al ao,.sv aq 9 au aw],.var [.int .i64 ax,.str ay,.str az,.int .i64 a1,.int .i64 a6,.sv a7 2 a8 ba,.int .i64 bb,.sv bc 2 bg bh,.sb 3 9 0 bi bj],.arr 29 9 r3 q3],N,some (zq E 0 [.var [.sv none 0 [] 0,.int .i64 0,.int .i64 0]],[])⟩
theorem BT (N:Nat) (n0:Int) (Q:QT [.pk,.int .i64,.str,.str,.int .i64,.dc,.dc,.dc,.dc,.row 29 9]) (h :
uP N (Q 2 b0 b0 n0 (D.j 0) (D.sl none 2 [] 0) (D.j 0) (D.sl none 2 [] 0) [] 0)):ACalls prog 104 [.pk,.int .i64,.str,.str,.int .i64,.dc,.dc,.dc,.dc,.row 29 9] [PV.int .i64 n0] N Q:=
 Hm H0 h
theorem A1 (N:Nat) (n0:Int) (Q:QT [.pk,.int .i64,.str,.str,.int .i64,.dc,.dc,.dc,.dc,.row 29 9]) (h :
uP N (Q 3 b0 b0 n0 (D.j 0) (D.sl none 2 [] 0) (D.j 0) (D.sl none 2 [] 0) [] 0)):ACalls prog 63 [.pk,.int .i64,.str,.str,.int .i64,.dc,.dc,.dc,.dc,.row 29 9] [PV.int .i64 n0] N Q:=
 Hm H0 h
theorem tY (N:Nat) (I:ByteArray) (Q:QT [.pk,.int .i64,.str,.str,.int .i64,.dc,.dc,.dc,.dc,.row 29 9]) (h :
uP N (Q 1 I b0 0 (D.j 0) (D.sl none 2 [] 0) (D.j 0) (D.sl none 2 [] 0) [] 0)):ACalls prog 35 [.pk,.int .i64,.str,.str,.int .i64,.dc,.dc,.dc,.dc,.row 29 9] [PV.str I] N Q:=
 Hm H0 h
theorem ui (N:Nat) (a0:Option Addr) (e0:List D) (c0:Nat) (Q:QT [.ag 9]) (h :
Bel N (D.sl a0 0 e0 c0)->∀ b,N<=b->ACalls prog 17 [.cu] [.sv a0 0 e0 c0] b (λa c d n e f=>b<=f->cA 9 16 [] a c d n e f (λx _
 _ _ _ _ a=>uP a (Q x)))):ACalls prog 5 [.ag 9] [PV.sv a0 0 e0 c0] N Q:=
  Hm H0 h
theorem tv (N:Nat) (a0:Option Addr) (e0:List D) (c0:Nat) (Q:QT [.ag 9]) (h :
Bel N (D.sl a0 0 e0 c0)->∀ b,N<=b->ACalls prog 17 [.cu] [.sv a0 0 e0 c0] b (λa c d n e f=>b<=f->cA 9 16 [] a c d n e f (λx _
 _ _ _ _ a=>uP a (Q x)))):ACalls prog 14 [.ag 9] [PV.sv a0 0 e0 c0] N Q:=
  Hm H0 h
theorem pH (N:Nat) (I:Option Addr) (J:List D) (O:Nat) (U V:Int) (Q:QT [(Sh.ag 9),(Sh.sl 0),(Sh.int IntKind.i64),(Sh.int IntKind.i64)]) (h:∀ E:Env,
Bel N (D.sl I 0 J O)->∀ b,N<=b->BCalls prog 32 [.i,.sl 0,.i,.i] [.pb 0 0 0 0,.j 4] [Bx.var [.sv I 0 J O,.j
 U,.j V]] b (λn a c d e f g=>b<=g->Bel g (D.sl a 0 c d)->∀ b,g<=b->BCalls prog 31 [.pk,.i,.str,.str,.i,.dc,.dc,.dc,.dc,
 .row 29 9,.sl 0,.i,.i] [.pb 0 0 0 0,.j (IntKind.i64.wrap (1+n))] [Bx.var [.sv a 0 c d,.j e,.j f]] b (λa s c d x e f g h i j
 k l m n o=>b<=o->Bel o (D.sl j 0 k l)->Bel o (D.ag h)->∀ b,o<=b->BCalls prog 32 [.i,.sl 0,.i,.i] [.pb 0 0 0 0,.j 14]
 [Bx.var [.sv j 0 k l,.j m,.j n]] b (λj k l m n o p=>b<=p->Bel p (D.sl k 0 l m)->Br (j==0) (∀ a,p<=a ->
 BCalls prog 32 [.i,.sl 0,.i,.i] [.pb 0 0 0 0,.j 15] [Bx.var [.sv k 0 l m,.j n,.j o]] a (λb j k l m n o=>a<=o->Bel o
 (D.sl j 0 k l)->w4 (h.length=h.length/\i=i) (∀ a p,o<=p->Fresh N p a [D.ag h,x,e,f,g]->zC E [.var [.sv none 0
 [] 0,.j 0,.j 0]]/\uP p (Q (D.ag [D.j b,D.t s,D.t c,D.j d,x,e,f,g,D.sl a 9 h i]) j k l m n)))) (Br (j==1) (∀
 b,p<=b->BCalls prog 33 [.i,.sl 0,.i,.i,.sl 0] [.pb 0 0 0 0,.sb 1 0 0 5 5] [Bx.var [.sv k 0 l m,.j n,.j o],Bx.arr 3 0 [D.j 0,D.j 1,
 D.j 10006,D.j 10007,D.j (-1)] 5] b (λd j k l m n o p q r=>b<=r->Bel r (D.sl j 0 k l)->Bel r (D.sl o 0 p
 q)->w4 (h.length=h.length/\i=i) (∀ b o,r<=o->Fresh N o b [D.ag h,x,e,f,g]->zC E [.var [.sv none 0 [] 0,.j 0,
 .j 0]]/\uP o (Q (D.ag [D.j a,D.t s,D.t c,D.j d,x,e,f,g,D.sl b 9 h i]) j k l m n)))) (Br (j==2) (cP [D.t b0,D.t
 (bytes [120]),D.t (bytes [108,101,116]),D.t (bytes [97,98,99,100,101]),D.t (bytes [43])] 34 9 5 k l m n o p (λb j k l m n
 _ _ _ o=>w4 (h.length=h.length/\i=i) (∀ p q,o<=q->Fresh N q p [D.ag h,x,e,f,g]->zC E [.var [.sv none
 0 [] 0,.j 0,.j 0]]/\uP q (Q (D.ag [D.j a,D.t b,D.t c,D.j d,x,e,f,g,D.sl p 9 h i]) j k l m n)))) (Br (j==3)
 (∀ b,p<=b->ACalls prog 35 [.pk,.i,.str,.str,.i,.dc,.dc,.dc,.dc,.row 29 9] [.str (bytes [120])] b (λj p q r t u v w y
 z A=>b<=A->Bel A (D.ag y)->(y.length=y.length/\z=z)/\∀ b B,A<=B->Fresh N B b [D.ag y,t,u,v,w,
 x,e,f,g,D.ag h]->(h.length=h.length/\i=i)/\zA h [D.ag [D.j j,D.t p,D.t q,D.j r,t,u,v,w,D.sl b
 9 y z]] 136/\∀(i:Nat),w4 ((h++[D.ag [D.j j,D.t p,D.t q,D.j r,t,u,v,w,D.sl b 9 y z]]).length=(h++[D.ag
 [D.j j,D.t p,D.t q,D.j r,t,u,v,w,D.sl b 9 y z]]).length/\i=i) (∀ A C,B<=C->Fresh N C A [D.ag (h
 ++ [D.ag [D.j j,D.t p,D.t q,D.j r,t,u,v,w,D.sl b 9 y z]]),x,e,f,g]->zC E [.var [.sv none 0 [] 0,.j 0,.j 0]]/\∀
 B,C<=B->Q (D.ag [D.j a,D.t s,D.t c,D.j d,x,e,f,g,D.sl A 9 (h++[D.ag [D.j j,D.t p,D.t q,D.j r,t,u,v,
 w,D.sl b 9 y z]]) i]) k l m n o B))) (Br (j==4) (cA 2 36 [] k l m n o p (λb e j k l m n=>w4
 (h.length=h.length/\i=i) (∀ o p,n<=p->Fresh N p o [D.ag h,(b.cell 0),(b.cell 1),f,g]->zC E [.var [.sv none 0
 [] 0,.j 0,.j 0]]/\uP p (Q (D.ag [D.j a,D.t s,D.t c,D.j d,(b.cell 0),(b.cell 1),f,g,D.sl o 9 h i]) e j k l
 m)))) (Br (j==5) (cP [D.t (bytes [120]),D.t (bytes [122])] 34 9 2 k l m n o p (λb c j k l m _ _ _ n=>w4
 (h.length=h.length/\i=i) (∀ o p,n<=p->Fresh N p o [D.ag h,x,e,f,g]->zC E [.var [.sv none 0 [] 0,.j 0,.j 0]] /\
 uP p (Q (D.ag [D.j a,D.t s,D.t b,D.j d,x,e,f,g,D.sl o 9 h i]) c j k l m)))) (w4 (h.length=h.length/\i =
 i) (∀ b j,p<=j->Fresh N j b [D.ag h,x,e,f,g]->zC E [.var [.sv none 0 [] 0,.j 0,.j 0]]/\uP j (Q (D.ag [D.j a,D.t s,D.t
 c,D.j d,x,e,f,g,D.sl b 9 h i]) k l m n o)))))))))))):BCalls prog 16 [(Sh.ag 9),(Sh.sl 0),(Sh.int IntKind.i64),(Sh.int IntKind.i64)] [.pb 0 0 0 0] [.var [.sv I 0 J O,.int .i64 U,.int .i64 V]] N Q:=
  Ea CI h
theorem uj (N:Nat) (n1:Int) (I:Option Addr) (J:List D) (O:Nat) (U V:Int) (Q:QT [Sh.pk,(Sh.int IntKind.i64),Sh.str,Sh.str,(Sh.int IntKind.i64),Sh.dc,Sh.dc,Sh.dc,Sh.dc,(Sh.row (OfNat.ofNat 29) 9),(Sh.sl 0),(Sh.int IntKind.i64),(Sh.int IntKind.i64)]) (h:∀ E:Env,
Bel N (D.sl I 0 J O)->Br (decide (n1<2)) (∀ b,N<=b->BCalls prog 69 [.pk,.i,.str,.str,.i,.dc,.dc,.dc,.dc,.row 29 9,
 .sl 0,.i,.i] [.pb 0 0 0 0] [Bx.var [.sv I 0 J O,.j U,.j V]] b (λn s a c x d e f g h i j k l m o=>b<=o ->
 Bel o (D.sl i 0 j k)->Bel o (D.ag g)->zC E [.var [.sv none 0 [] 0,.j 0,.j 0]]/\(g.length=g.length/\h=h)/\uP o (Q n s a c x d e
 f g h i j k l m))) (cB 68 [.j 5] I J O U V N (λb a c d e f g=>Br b (∀ b,g<=b->BCalls prog 69 [.pk,.i,
 .str,.str,.i,.dc,.dc,.dc,.dc,.row 29 9,.sl 0,.i,.i] [.pb 0 0 0 0] [Bx.var [.sv a 0 c d,.j e,.j f]] b (λa c d e f g h
 i j k l m n o p q=>b<=q->Bel q (D.sl l 0 m n)->Bel q (D.ag j)->zC E [.var [.sv none 0 [] 0,.j 0,.j 0]]/\(j.length
 = j.length/\k=k)/\uP q (Q a c d e f g h i j k l m n o p))) (∀ b,g<=b->BCalls prog 33 [.i,.sl 0,.i,.i,.sl
 0] [.pb 0 0 0 0,.sb 1 0 0 12 12] [Bx.var [.sv a 0 c d,.j e,.j f],Bx.arr 3 0 [D.j 4,D.j 5,D.j 6,D.j 7,D.j 8,D.j 9,D.j 10,D.j 11,D.j 12,
 D.j 13,D.j 10,D.j 4] 12] b (λa c d e f g h i j k=>b<=k->Bel k (D.sl c 0 d e)->Bel k (D.sl h 0 i j)->Br
 (a==4) (cP [D.t (bytes [43]),D.t (bytes [45]),D.t (bytes [42]),D.t (bytes [61]),D.t (bytes [60]),D.t (bytes [38]),D.t (bytes [124]),D.t (bytes
 [33])] 34 9 8 c d e f g k (λb c d e f g _ _ _ h=>za E Q N n1 c d e f g 0 b0 b0 0 0 none []
 0 0 none [] 0 none [] 0 a b b0 0 0 none [] 0 0 none [] 0 0 0 [] 0 h)) (Br (a==6) (cP [D.t (bytes [120]),D.t (bytes [121]),D.t (bytes [102])] 34 9
 3 c d e f g k (λb c d e f g _ _ _ h=>za E Q N n1 c d e f g 0 b0 b0 0 0 none [] 0 0 none
 [] 0 none [] 0 a b b0 0 0 none [] 0 0 none [] 0 0 0 [] 0 h)) (Br (a==8) (cP [D.t (bytes [120]),D.t (bytes [121]),D.t (bytes [102])] 34 9 3 c
 d e f g k (λb c d e f g _ _ _ h=>za E Q N n1 c d e f g 0 b0 b0 0 0 none [] 0 0 none
 [] 0 none [] 0 a b b0 0 0 none [] 0 0 none [] 0 0 0 [] 0 h)) (Br (a==9) (cP [D.t (bytes [120]),D.t (bytes [121]),D.t (bytes [102])] 34 9 3 c
 d e f g k (λb c d e f g _ _ _ h=>za E Q N n1 c d e f g 0 b0 b0 0 0 none [] 0 0 none
 [] 0 none [] 0 a b b0 0 0 none [] 0 0 none [] 0 0 0 [] 0 h)) (za E Q N n1 c d e f g 0 b0 b0 0 0 none [] 0 0 none [] 0 none [] 0
 a b0 b0 0 0 none [] 0 0 none [] 0 0 0 [] 0 k))))))))):BCalls prog 31 [Sh.pk,(Sh.int IntKind.i64),Sh.str,Sh.str,(Sh.int IntKind.i64),Sh.dc,Sh.dc,Sh.dc,Sh.dc,(Sh.row (OfNat.ofNat 29) 9),(Sh.sl 0),(Sh.int IntKind.i64),(Sh.int IntKind.i64)] [.pb 0 0 0 0,.int .i64 n1] [.var [.sv I 0 J O,.int .i64 U,.int .i64 V]] N Q:=
  Ea zS h
theorem tw (N:Nat) (m1 c1:Nat) (I:Option Addr) (J:List D) (O:Nat) (V Y:Int) (U:List D) (Z:Nat) (Q:QT [(Sh.int IntKind.i64),(Sh.sl 0),(Sh.int IntKind.i64),(Sh.int IntKind.i64),(Sh.sl 0)]) (h:∀ E:Env,
Bel N (D.sl I 0 J O)->Bel N (D.sl none 0 U Z)->∀ b,N<=b->BCalls prog 32 [.i,.sl 0,.i,.i] [.pb 0 0 0 0,.j (m1:Int)]
 [Bx.var [.sv I 0 J O,.j V,.j Y]] b (λn a c d e f g=>b<=g->Bel g (D.sl a 0 c d)->(0<=n/\n<(m1:Int)/\(0+n.toNat
 : Nat)<U.length)/\(0+n.toNat:Nat)<U.length/\∃ b:Int,List.getD U (0+n.toNat:Nat) default=D.j b/\zC E [.var [.sv none 0 [] 0,.j
 0,.j 0],.arr 3 0 [] 0]/\uP g (Q b a c d e f none U Z))):BCalls prog 33 [(Sh.int IntKind.i64),(Sh.sl 0),(Sh.int IntKind.i64),(Sh.int IntKind.i64),(Sh.sl 0)] [.pb 0 0 0 0,.sb 1 0 0 m1 c1] [.var [.sv I 0 J O,.int .i64 V,.int .i64 Y],.arr 3 0 U Z] N Q:=
  Ea H0 h
theorem pD (N:Nat) (I:Option Addr) (J:List D) (O:Nat) (U V:Int) (Q:QT [(Sh.ag 2),(Sh.sl 0),(Sh.int IntKind.i64),(Sh.int IntKind.i64)]) (h:∀ E:Env,
Bel N (D.sl I 0 J O)->cA 2 70 [.j 4] I J O U V N (λx a b c n d e=>∀ f,e<=f->BCalls prog 32 [.i,
 .sl 0,.i,.i] [.pb 0 0 0 0,.j 10] [Bx.var [.sv a 0 b c,.j n,.j d]] f (λa b c d e g h=>f<=h->Bel h (D.sl b 0 c d)->Br
 (a==0) (∀ a,h<=a->BCalls prog 32 [.i,.sl 0,.i,.i] [.pb 0 0 0 0,.j 6] [Bx.var [.sv b 0 c d,.j e,.j g]] a (λb c d e f
 g h=>a<=h->Bel h (D.sl c 0 d e)->zC E [.var [.sv none 0 [] 0,.j 0,.j 0]]/\uP h (Q (D.ag [D.j b,(x.cell 1)]) c d e f g)))
 (Br (a==1) (∃ a f,∃ i:Nat,(x.cell 1)=D.sl a 2 f i/\kA 2 72 [] h (λh j=>KT a f i [h]/\zA f [h] 32/\∀
 (a:Nat),w4 ((f++[h]).length=(f++[h]).length/\a=a) (∀ i k,j<=k->Fresh N k i [D.ag (f++[h]),(x.cell 0)]->zC E
 [.var [.sv none 0 [] 0,.j 0,.j 0]]/\uP k (Q (D.ag [(x.cell 0),D.sl i 2 (f++[h]) a]) b c d e g)))) (Br (a==2) (∀ a,h<=a ->
 BCalls prog 32 [.i,.sl 0,.i,.i] [.pb 0 0 0 0,.j 6] [Bx.var [.sv b 0 c d,.j e,.j g]] a (λb c d e f g h=>a<=h->Bel
 h (D.sl c 0 d e)->yf E Q N (IntKind.i64.wrap (1+b)) 0 c d e f g 0 none [] 0 x h)) (Br (a==3) (yg E Q
 N 0 b c d e g 0 none [] 0 x h) (zC E [.var [.sv none 0 [] 0,.j 0,.j 0]]/\uP h (Q x b c d e g)))))))):BCalls prog 36 [(Sh.ag 2),(Sh.sl 0),(Sh.int IntKind.i64),(Sh.int IntKind.i64)] [.pb 0 0 0 0] [.var [.sv I 0 J O,.int .i64 U,.int .i64 V]] N Q:=
  Ea vM h
theorem pI (N:Nat) (I:Option Addr) (J:List D) (O:Nat) (U V:Int) (Q:QT [Sh.pk,(Sh.int IntKind.i64),Sh.str,Sh.str,(Sh.int IntKind.i64),Sh.dc,Sh.dc,Sh.dc,Sh.dc,(Sh.row (OfNat.ofNat 29) 9),(Sh.sl 0),(Sh.int IntKind.i64),(Sh.int IntKind.i64)]) (h:∀ E:Env,
Bel N (D.sl I 0 J O)->∀ b,N<=b->BCalls prog 32 [.i,.sl 0,.i,.i] [.pb 0 0 0 0,.j 4] [Bx.var [.sv I 0 J O,.j
 U,.j V]] b (λn a c d e f g=>b<=g->Bel g (D.sl a 0 c d)->Br (n==0) (∀ b,g<=b->BCalls prog 33 [.i,.sl 0,.i,.i,.sl 0] [.pb
 0 0 0 0,.sb 1 0 0 5 5] [Bx.var [.sv a 0 c d,.j e,.j f],Bx.arr 3 0 [D.j 0,D.j 1,D.j 2,D.j 3,D.j 10006] 5] b (λa c d e f g h i
 j k=>b<=k->Bel k (D.sl c 0 d e)->Bel k (D.sl h 0 i j)->∀ b,k<=b->ACalls prog 104 [.pk,.i,.str,.str,.i,.dc,.dc,.dc,.dc,
 .row 29 9] [.j a] b (λa s h i x j k l m n o=>b<=o->Bel o (D.ag m)->zC E [.var [.sv none 0 [] 0,.j 0,.j 0]]/\(m.length
 = m.length/\n=n)/\uP o (Q a s h i x j k l m n c d e f g)))) (Br (n==1) (∀ b,g<=b->BCalls prog 32 [.i,.sl 0,.i,
 .i] [.pb 0 0 0 0,.j 2] [Bx.var [.sv a 0 c d,.j e,.j f]] b (λa c d e f g h=>b<=h->Bel h (D.sl c 0 d e)->∀ b,h<=b
 -> ACalls prog 63 [.pk,.i,.str,.str,.i,.dc,.dc,.dc,.dc,.row 29 9] [.j a] b (λa h i j k l m n o p q=>b<=q->Bel
 q (D.ag o)->zC E [.var [.sv none 0 [] 0,.j 0,.j 0]]/\(o.length=o.length/\p=p)/\uP q (Q a h i j k l m n o p
 c d e f g)))) (cP [D.t (bytes [120]),D.t (bytes [121]),D.t (bytes [102])] 34 9 3 a c d e f g (λa b c d e f _ _ _
 g=>∀ h,g<=h->ACalls prog 35 [.pk,.i,.str,.str,.i,.dc,.dc,.dc,.dc,.row 29 9] [.str a] h (λa g i j k l m n o
 p q=>h<=q->Bel q (D.ag o)->zC E [.var [.sv none 0 [] 0,.j 0,.j 0]]/\(o.length=o.length/\p=p)/\uP q (Q a g i j
 k l m n o p b c d e f))))))):BCalls prog 69 [Sh.pk,(Sh.int IntKind.i64),Sh.str,Sh.str,(Sh.int IntKind.i64),Sh.dc,Sh.dc,Sh.dc,Sh.dc,(Sh.row (OfNat.ofNat 29) 9),(Sh.sl 0),(Sh.int IntKind.i64),(Sh.int IntKind.i64)] [.pb 0 0 0 0] [.var [.sv I 0 J O,.int .i64 U,.int .i64 V]] N Q:=
  Ea H0 h
theorem pA (N:Nat) (n1:Int) (I:Option Addr) (J:List D) (O:Nat) (U V:Int) (Q:QT [Sh.bool,(Sh.sl 0),(Sh.int IntKind.i64),(Sh.int IntKind.i64)]) (h:∀ E:Env,
Bel N (D.sl I 0 J O)->∀ b,N<=b->BCalls prog 32 [.i,.sl 0,.i,.i] [.pb 0 0 0 0,.j n1] [Bx.var [.sv I 0 J O,.j
 U,.j V]] b (λn a c d e f g=>b<=g->Bel g (D.sl a 0 c d)->zC E [.var [.sv none 0 [] 0,.j 0,.j 0]]/\uP g (Q (n==0) a c d e
 f))):BCalls prog 68 [Sh.bool,(Sh.sl 0),(Sh.int IntKind.i64),(Sh.int IntKind.i64)] [.pb 0 0 0 0,.int .i64 n1] [.var [.sv I 0 J O,.int .i64 U,.int .i64 V]] N Q:=
  Ea H0 h
theorem AJ (E:Env) (Q:QT [Sh.pk,(Sh.int IntKind.i64),Sh.str,Sh.str,(Sh.int IntKind.i64),Sh.dc,Sh.dc,Sh.dc,Sh.dc,(Sh.row (OfNat.ofNat 29) 9),(Sh.sl 0),(Sh.int IntKind.i64),(Sh.int IntKind.i64)]) (N0:Nat) (n1:Int) (J:Option Addr) (O:List D) (U:Nat) (V Y Z:Int) (aa ab:ByteArray) (ac ae:Int) (ah:Option Addr) (ai:List D) (aj:Nat) (ak:Int) (al:Option Addr) (ao:List D) (aq:Nat) (au:Option Addr) (aw:List D) (ax:Nat) (I:Int) (ay az:ByteArray) (a1 bg:Int) (bh:Option Addr) (bi:List D) (bj:Nat) (a6:Int) (a7:Option Addr) (a8:List D) (ba bb bc:Nat) (r3:List D) (q3:Nat) (N:Nat) (h :
Br (I==6) (cA 2 70 [.j 2] J O U V Y N (λx a b c n d e=>xF E Q N0 n1 a b c n d Z aa ab ac ae ah
 ai aj ak al ao aq au aw ax I ay az a1 (x.cell 0) (x.cell 1) a6 a7 a8 ba bb bc r3 q3 e)) (Br (I==9) (cA 2 70 [.j 2]
 J O U V Y N (λa b c d e f g=>xF E Q N0 n1 b c d e f Z aa ab ac ae ah ai aj ak al
 ao aq au aw ax I ay az a1 (a.cell 0) (a.cell 1) a6 a7 a8 ba bb bc r3 q3 g)) (xG E Q N0 n1 J O U
 V Y Z aa ab ac ae ah ai aj ak al ao aq au aw ax I ay az a1 bg bh bi bj a6 a7 a8 ba bb bc r3 q3
 N))):za E Q N0 n1 J O U V Y Z aa ab ac ae ah ai aj ak al ao aq au aw ax I ay az a1 bg bh bi bj a6 a7 a8 ba bb bc r3 q3 N:=
  qA zS h
theorem vm (N:Nat) (n1:Int) (I:Option Addr) (J:List D) (O:Nat) (U V:Int) (Q:QT [(Sh.ag 2),(Sh.sl 0),(Sh.int IntKind.i64),(Sh.int IntKind.i64)]) (h:∀ E:Env,
Bel N (D.sl I 0 J O)->Br (decide (n1<2)) (∀ b,N<=b->BCalls prog 33 [.i,.sl 0,.i,.i,.sl 0] [.pb 0 0 0 0,.sb 1 0 0 3 3]
 [Bx.var [.sv I 0 J O,.j U,.j V],Bx.arr 3 0 [D.j 1,D.j 1,D.j 2] 3] b (λn a c d e f g h i j=>b<=j->Bel j (D.sl a
 0 c d)->Bel j (D.sl g 0 h i)->zC E [.var [.sv none 0 [] 0,.j 0,.j 0]]/\uP j (Q (D.ag [D.j n,D.sl none 2 [] 0]) a c d e f))) (cB 68 [.j 2]
 I J O U V N (λb a c d e f g=>Br b (∀ b,g<=b->BCalls prog 33 [.i,.sl 0,.i,.i,.sl 0] [.pb 0 0 0 0,.sb 1 0 0 3 3]
 [Bx.var [.sv a 0 c d,.j e,.j f],Bx.arr 3 0 [D.j 1,D.j 1,D.j 2] 3] b (λa c d e f g h i j k=>b<=k->Bel k (D.sl c
 0 d e)->Bel k (D.sl h 0 i j)->zC E [.var [.sv none 0 [] 0,.j 0,.j 0]]/\uP k (Q (D.ag [D.j a,D.sl none 2 [] 0]) c d e f g)))
 (cB 68 [.j 2] a c d e f g (λa b c d e f g=>Br a (cA 2 70 [.j (IntKind.i64.wrap (n1 - 1))] b c d e f g (λx a
 b c d e f=>kA 2 73 [.dg 2 x] f (λf g=>zC E [.var [.sv none 0 [] 0,.j 0,.j 0]]/\uP g (Q f a b c d e)))) (cA 2 70
 [.j (IntKind.i64.wrap (n1 - 1))] b c d e f g (λa b c d e f g=>cA 2 70 [.j (IntKind.i64.wrap (n1 - 1))] b c d e f
 g (λb c d e f g h=>kA 2 74 [.dg 2 a,.dg 2 b] h (λa b=>zC E [.var [.sv none 0 [] 0,.j 0,.j 0]]/\uP b (Q a c
 d e f g)))))))))):BCalls prog 70 [(Sh.ag 2),(Sh.sl 0),(Sh.int IntKind.i64),(Sh.int IntKind.i64)] [.pb 0 0 0 0,.int .i64 n1] [.var [.sv I 0 J O,.int .i64 U,.int .i64 V]] N Q:=
  Ea CF h
theorem vi (E:Env) (Q:QT [(Sh.ag 2),(Sh.sl 0),(Sh.int IntKind.i64),(Sh.int IntKind.i64)]) (N0:Nat) (n4 n5:Int) (I:Option Addr) (J:List D) (O:Nat) (U V Y:Int) (Z:Option Addr) (aa:List D) (ab:Nat) (y2:D) (N:Nat) (h :
Br (decide (n5<n4)) (kA 2 73 [.dg 2 y2] N (λx a=>yf E Q N0 n4 (IntKind.i64.wrap (n5+1)) I J O U V Y Z aa
 ab x a)) (zC E [.var [.sv none 0 [] 0,.j 0,.j 0]]/\uP N (Q y2 I J O U V))):yf E Q N0 n4 n5 I J O U V Y Z aa ab y2 N:=
  qA vM h
theorem vk (E:Env) (Q:QT [(Sh.ag 2),(Sh.sl 0),(Sh.int IntKind.i64),(Sh.int IntKind.i64)]) (N0:Nat) (n6:Int) (I:Option Addr) (J:List D) (O:Nat) (U V Y:Int) (Z:Option Addr) (aa:List D) (ab:Nat) (y2:D) (N:Nat) (h :
Br (decide (n6<3)) (kA 2 74 [.dg 2 y2,.dg 2 y2] N (λx a=>yg E Q N0 (IntKind.i64.wrap (n6+1)) I J O U V Y Z
 aa ab x a)) (zC E [.var [.sv none 0 [] 0,.j 0,.j 0]]/\uP N (Q y2 I J O U V))):yg E Q N0 n6 I J O U V Y Z aa ab y2 N:=
  qA vM h
theorem AK (E:Env) (Q:QT [Sh.pk,(Sh.int IntKind.i64),Sh.str,Sh.str,(Sh.int IntKind.i64),Sh.dc,Sh.dc,Sh.dc,Sh.dc,(Sh.row (OfNat.ofNat 29) 9),(Sh.sl 0),(Sh.int IntKind.i64),(Sh.int IntKind.i64)]) (N0:Nat) (n1:Int) (J:Option Addr) (O:List D) (U:Nat) (V Y Z:Int) (aa ab:ByteArray) (ac ae:Int) (ah:Option Addr) (ai:List D) (aj:Nat) (ak:Int) (al:Option Addr) (ao:List D) (aq:Nat) (au:Option Addr) (aw:List D) (ax:Nat) (I:Int) (ay ba:ByteArray) (az:Int) (a1 a6:D) (bb:Int) (bc:Option Addr) (bg:List D) (bh a7 a8:Nat) (r3:List D) (q3:Nat) (N:Nat) (h :
Br (I==9) (cP [D.t (bytes [122]),D.t (bytes [119])] 34 9 2 J O U V Y N (λs a b c n d _ _ _ e=>cA 2 70 [.j 2] a b c n
 d e (λx a b c d e f=>wS E Q N0 n1 a b c d e Z aa ab ac ae ah ai aj ak al ao aq au aw
 ax I ay s az a1 a6 (x.cell 0) (x.cell 1) a7 a8 r3 q3 f))) (xH E Q N0 n1 J O U V Y Z aa ab ac ae ah
 ai aj ak al ao aq au aw ax I ay ba az a1 a6 bb bc bg bh a7 a8 r3 q3 N)):xF E Q N0 n1 J O U V Y Z aa ab ac ae ah ai aj ak al ao aq au aw ax I ay ba az a1 a6 bb bc bg bh a7 a8 r3 q3 N:=
  qA zS h
theorem sf (E:Env) (Q:QT [Sh.pk,(Sh.int IntKind.i64),Sh.str,Sh.str,(Sh.int IntKind.i64),Sh.dc,Sh.dc,Sh.dc,Sh.dc,(Sh.row (OfNat.ofNat 29) 9),(Sh.sl 0),(Sh.int IntKind.i64),(Sh.int IntKind.i64)]) (N0:Nat) (n1:Int) (J:Option Addr) (O:List D) (U:Nat) (V Y Z:Int) (aa ab:ByteArray) (ac ae:Int) (ah:Option Addr) (ai:List D) (aj:Nat) (ak:Int) (al:Option Addr) (ao:List D) (aq:Nat) (au:Option Addr) (aw:List D) (ax:Nat) (I:Int) (ay bc:ByteArray) (az a1:Int) (a6:Option Addr) (a7:List D) (a8:Nat) (bg:Int) (bh:Option Addr) (bi:List D) (bj ba bb:Nat) (r3:List D) (q3:Nat) (N:Nat) (h :
Br (I==9) (cP [D.t (bytes [122]),D.t (bytes [119])] 34 9 2 J O U V Y N (λs a b c n d _ _ _ e=>cA 2 70 [.j 2] a b c n
 d e (λx a b c d e f=>xI E Q N0 n1 a b c d e Z aa ab ac ae ah ai aj ak al ao aq au aw
 ax I ay s az a1 a6 a7 a8 (x.cell 0) (x.cell 1) ba bb r3 q3 f))) (xJ E Q N0 n1 J O U V Y Z aa ab ac
 ae ah ai aj ak al ao aq au aw ax I ay bc az a1 a6 a7 a8 bg bh bi bj ba bb r3 q3 N)):xG E Q N0 n1 J O U V Y Z aa ab ac ae ah ai aj ak al ao aq au aw ax I ay bc az a1 a6 a7 a8 bg bh bi bj ba bb r3 q3 N:=
  qA zS h
theorem AL (E:Env) (Q:QT [Sh.pk,(Sh.int IntKind.i64),Sh.str,Sh.str,(Sh.int IntKind.i64),Sh.dc,Sh.dc,Sh.dc,Sh.dc,(Sh.row (OfNat.ofNat 29) 9),(Sh.sl 0),(Sh.int IntKind.i64),(Sh.int IntKind.i64)]) (N0:Nat) (n1:Int) (a0_0:Option Addr) (e0_0:List D) (c0_0:Nat) (n0_1 n0_2 n1_0:Int) (s1_1 s1_2:ByteArray) (n1_3 n1_4:Int) (a1_5:Option Addr) (e1_5:List D) (c1_5:Nat) (n1_6:Int) (a1_7:Option Addr) (e1_7:List D) (c1_7:Nat) (a1_8:Option Addr) (e1_8:List D) (c1_8:Nat) (n2_0:Int) (s2_1 s2_2:ByteArray) (n2_3:Int) (x2_4 x2_5 x2_6 x2_7:D) (m2_8 c2_8:Nat) (r3:List D) (q3:Nat) (N:Nat) (h :
(m2_8=r3.length/\c2_8=q3)/\∀ a,ApA a r3->∀ b,N<=b->GO b [a]->ACalls prog 58 [.i] [.dg 9 (D.ag [D.j n2_0,D.t s2_1,D.t s2_2,D.j n2_3,
 x2_4,x2_5,x2_6,x2_7,D.sl a 9 r3 c2_8])] b (fun n a=>b<=a->xK E Q N0 n1 n 0 a0_0 e0_0 c0_0 n0_1 n0_2 n1_0 s1_1 s1_2 n1_3 n1_4 a1_5 e1_5
 c1_5 n1_6 a1_7 e1_7 c1_7 a1_8 e1_8 c1_8 n2_0 s2_1 s2_2 n2_3 x2_4 x2_5 x2_6 x2_7 m2_8 c2_8 r3 q3 a)):wS E Q N0 n1 a0_0 e0_0 c0_0 n0_1 n0_2 n1_0 s1_1 s1_2 n1_3 n1_4 a1_5 e1_5 c1_5 n1_6 a1_7 e1_7 c1_7 a1_8 e1_8 c1_8 n2_0 s2_1 s2_2 n2_3 x2_4 x2_5 x2_6 x2_7 m2_8 c2_8 r3 q3 N:=
  qA zS h
theorem sg (E:Env) (Q:QT [Sh.pk,(Sh.int IntKind.i64),Sh.str,Sh.str,(Sh.int IntKind.i64),Sh.dc,Sh.dc,Sh.dc,Sh.dc,(Sh.row (OfNat.ofNat 29) 9),(Sh.sl 0),(Sh.int IntKind.i64),(Sh.int IntKind.i64)]) (N0:Nat) (n1:Int) (a0_0:Option Addr) (e0_0:List D) (c0_0:Nat) (n0_1 n0_2 n1_0:Int) (s1_1 s1_2:ByteArray) (n1_3 n1_4:Int) (a1_5:Option Addr) (e1_5:List D) (c1_5:Nat) (n1_6:Int) (a1_7:Option Addr) (e1_7:List D) (c1_7:Nat) (a1_8:Option Addr) (e1_8:List D) (c1_8:Nat) (n2_0:Int) (s2_1 s2_2:ByteArray) (n2_3:Int) (x2_4 x2_5:D) (n2_6:Int) (a2_7:Option Addr) (e2_7:List D) (c2_7 m2_8 c2_8:Nat) (r3:List D) (q3:Nat) (N:Nat) (h :
(m2_8=r3.length/\c2_8=q3)/\∀ a,ApA a r3->∀ b,N<=b->GO b [a]->ACalls prog 58 [.i] [.dg 9 (D.ag [D.j n2_0,D.t s2_1,D.t s2_2,D.j n2_3,
 x2_4,x2_5,D.j n2_6,D.sl a2_7 2 e2_7 c2_7,D.sl a 9 r3 c2_8])] b (fun n a=>b<=a->yI E Q N0 n1 n 0 a0_0 e0_0 c0_0 n0_1 n0_2 n1_0 s1_1
 s1_2 n1_3 n1_4 a1_5 e1_5 c1_5 n1_6 a1_7 e1_7 c1_7 a1_8 e1_8 c1_8 n2_0 s2_1 s2_2 n2_3 x2_4 x2_5 n2_6 a2_7 e2_7 c2_7 m2_8 c2_8 r3 q3 a)):xH E Q N0 n1 a0_0 e0_0 c0_0 n0_1 n0_2 n1_0 s1_1 s1_2 n1_3 n1_4 a1_5 e1_5 c1_5 n1_6 a1_7 e1_7 c1_7 a1_8 e1_8 c1_8 n2_0 s2_1 s2_2 n2_3 x2_4 x2_5 n2_6 a2_7 e2_7 c2_7 m2_8 c2_8 r3 q3 N:=
  qA zS h
theorem si (E:Env) (Q:QT [Sh.pk,(Sh.int IntKind.i64),Sh.str,Sh.str,(Sh.int IntKind.i64),Sh.dc,Sh.dc,Sh.dc,Sh.dc,(Sh.row (OfNat.ofNat 29) 9),(Sh.sl 0),(Sh.int IntKind.i64),(Sh.int IntKind.i64)]) (N0:Nat) (n1:Int) (a0_0:Option Addr) (e0_0:List D) (c0_0:Nat) (n0_1 n0_2 n1_0:Int) (s1_1 s1_2:ByteArray) (n1_3 n1_4:Int) (a1_5:Option Addr) (e1_5:List D) (c1_5:Nat) (n1_6:Int) (a1_7:Option Addr) (e1_7:List D) (c1_7:Nat) (a1_8:Option Addr) (e1_8:List D) (c1_8:Nat) (n2_0:Int) (s2_1 s2_2:ByteArray) (n2_3 n2_4:Int) (a2_5:Option Addr) (e2_5:List D) (c2_5:Nat) (x2_6 x2_7:D) (m2_8 c2_8:Nat) (r3:List D) (q3:Nat) (N:Nat) (h :
(m2_8=r3.length/\c2_8=q3)/\∀ a,ApA a r3->∀ b,N<=b->GO b [a]->ACalls prog 58 [.i] [.dg 9 (D.ag [D.j n2_0,D.t s2_1,D.t s2_2,D.j n2_3,D.j
 n2_4,D.sl a2_5 2 e2_5 c2_5,x2_6,x2_7,D.sl a 9 r3 c2_8])] b (fun n a=>b<=a->yJ E Q N0 n1 n 0 a0_0 e0_0 c0_0 n0_1 n0_2 n1_0 s1_1 s1_2
 n1_3 n1_4 a1_5 e1_5 c1_5 n1_6 a1_7 e1_7 c1_7 a1_8 e1_8 c1_8 n2_0 s2_1 s2_2 n2_3 n2_4 a2_5 e2_5 c2_5 x2_6 x2_7 m2_8 c2_8 r3 q3 a)):xI E Q N0 n1 a0_0 e0_0 c0_0 n0_1 n0_2 n1_0 s1_1 s1_2 n1_3 n1_4 a1_5 e1_5 c1_5 n1_6 a1_7 e1_7 c1_7 a1_8 e1_8 c1_8 n2_0 s2_1 s2_2 n2_3 n2_4 a2_5 e2_5 c2_5 x2_6 x2_7 m2_8 c2_8 r3 q3 N:=
  qA zS h
theorem sj (E:Env) (Q:QT [Sh.pk,(Sh.int IntKind.i64),Sh.str,Sh.str,(Sh.int IntKind.i64),Sh.dc,Sh.dc,Sh.dc,Sh.dc,(Sh.row (OfNat.ofNat 29) 9),(Sh.sl 0),(Sh.int IntKind.i64),(Sh.int IntKind.i64)]) (N0:Nat) (n1:Int) (a0_0:Option Addr) (e0_0:List D) (c0_0:Nat) (n0_1 n0_2 n1_0:Int) (s1_1 s1_2:ByteArray) (n1_3 n1_4:Int) (a1_5:Option Addr) (e1_5:List D) (c1_5:Nat) (n1_6:Int) (a1_7:Option Addr) (e1_7:List D) (c1_7:Nat) (a1_8:Option Addr) (e1_8:List D) (c1_8:Nat) (n2_0:Int) (s2_1 s2_2:ByteArray) (n2_3 n2_4:Int) (a2_5:Option Addr) (e2_5:List D) (c2_5:Nat) (n2_6:Int) (a2_7:Option Addr) (e2_7:List D) (c2_7 m2_8 c2_8:Nat) (r3:List D) (q3:Nat) (N:Nat) (h :
(m2_8=r3.length/\c2_8=q3)/\∀ a,ApA a r3->∀ b,N<=b->GO b [a]->ACalls prog 58 [.i] [.dg 9 (D.ag [D.j n2_0,D.t s2_1,D.t s2_2,D.j n2_3,D.j
 n2_4,D.sl a2_5 2 e2_5 c2_5,D.j n2_6,D.sl a2_7 2 e2_7 c2_7,D.sl a 9 r3 c2_8])] b (fun n a=>b<=a->yK E Q N0 n1 n 0 a0_0 e0_0 c0_0 n0_1
 n0_2 n1_0 s1_1 s1_2 n1_3 n1_4 a1_5 e1_5 c1_5 n1_6 a1_7 e1_7 c1_7 a1_8 e1_8 c1_8 n2_0 s2_1 s2_2 n2_3 n2_4 a2_5 e2_5 c2_5 n2_6 a2_7 e2_7 c2_7 m2_8 c2_8 r3 q3 a)):xJ E Q N0 n1 a0_0 e0_0 c0_0 n0_1 n0_2 n1_0 s1_1 s1_2 n1_3 n1_4 a1_5 e1_5 c1_5 n1_6 a1_7 e1_7 c1_7 a1_8 e1_8 c1_8 n2_0 s2_1 s2_2 n2_3 n2_4 a2_5 e2_5 c2_5 n2_6 a2_7 e2_7 c2_7 m2_8 c2_8 r3 q3 N:=
  qA zS h
theorem uS (E:Env) (Q:QT [Sh.pk,(Sh.int IntKind.i64),Sh.str,Sh.str,(Sh.int IntKind.i64),Sh.dc,Sh.dc,Sh.dc,Sh.dc,(Sh.row (OfNat.ofNat 29) 9),(Sh.sl 0),(Sh.int IntKind.i64),(Sh.int IntKind.i64)]) (N0:Nat) (n1 n6 n7:Int) (Y:Option Addr) (Z:List D) (aa:Nat) (ab ac al:Int) (ao aq:ByteArray) (au aw:Int) (ax:Option Addr) (ay:List D) (az:Nat) (a1:Int) (a6:Option Addr) (a7:List D) (a8:Nat) (ba:Option Addr) (bb:List D) (bc:Nat) (ae:Int) (ah ai:ByteArray) (aj:Int) (I J O U:D) (ak V:Nat) (r3:List D) (q3:Nat) (N:Nat) (h :
Br (decide (n7<n6)) (∀ b,N<=b->BCalls prog 31 [.pk,.i,.str,.str,.i,.dc,.dc,.dc,.dc,.row 29 9,.sl 0,.i,.i] [.pb 0 0 0 0,.j
 (IntKind.i64.wrap (n1 - 1))] [Bx.var [.sv Y 0 Z aa,.j ab,.j ac]] b (λn s a c x d e f g h i j k l m o=>b<=o->Bel o
 (D.sl i 0 j k)->Bel o (D.ag g)->(g.length=g.length/\h=h)/\∀ b p,o<=p->Fresh N0 p b [D.ag g,x,d,e,f,I,J,O,
 U,D.ag r3]->(ak=r3.length/\V=q3)/\zA r3 [D.ag [D.j n,D.t s,D.t a,D.j c,x,d,e,f,D.sl b 9 g h]] 136/\∀(o:Nat),
 xK E Q N0 n1 n6 (IntKind.i64.wrap (n7+1)) i j k l m al ao aq au aw ax ay az a1 a6 a7 a8 ba bb bc ae ah
 ai aj I J O U (r3++[D.ag [D.j n,D.t s,D.t a,D.j c,x,d,e,f,D.sl b 9 g h]]).length o (r3++[D.ag [D.j n,D.t s,D.t a,
 D.j c,x,d,e,f,D.sl b 9 g h]]) o p)) (zC E [.var [.sv none 0 [] 0,.j 0,.j 0]]/\(ak=r3.length/\V=q3)/\uP N (Q ae ah ai
 aj I J O U r3 V Y Z aa ab ac))):xK E Q N0 n1 n6 n7 Y Z aa ab ac al ao aq au aw ax ay az a1 a6 a7 a8 ba bb bc ae ah ai aj I J O U ak V r3 q3 N:=
  qA zS h
theorem wq (E:Env) (Q:QT [Sh.pk,(Sh.int IntKind.i64),Sh.str,Sh.str,(Sh.int IntKind.i64),Sh.dc,Sh.dc,Sh.dc,Sh.dc,(Sh.row (OfNat.ofNat 29) 9),(Sh.sl 0),(Sh.int IntKind.i64),(Sh.int IntKind.i64)]) (N0:Nat) (n1 n6 n7:Int) (Z:Option Addr) (aa:List D) (ab:Nat) (ac ae aq:Int) (au aw:ByteArray) (ax ay:Int) (az:Option Addr) (a1:List D) (a6:Nat) (a7:Int) (a8:Option Addr) (ba:List D) (bb:Nat) (bc:Option Addr) (bg:List D) (bh:Nat) (ah:Int) (ai aj:ByteArray) (ak:Int) (I J:D) (al:Int) (O:Option Addr) (U:List D) (V ao Y:Nat) (r3:List D) (q3:Nat) (N:Nat) (h :
Br (decide (n7<n6)) (∀ b,N<=b->BCalls prog 31 [.pk,.i,.str,.str,.i,.dc,.dc,.dc,.dc,.row 29 9,.sl 0,.i,.i] [.pb 0 0 0 0,.j
 (IntKind.i64.wrap (n1 - 1))] [Bx.var [.sv Z 0 aa ab,.j ac,.j ae]] b (λn s a c x d e f g h i j k l m o=>b<=o->Bel o
 (D.sl i 0 j k)->Bel o (D.ag g)->(g.length=g.length/\h=h)/\∀ b p,o<=p->Fresh N0 p b [D.ag g,x,d,e,f,I,J,D.sl O
 2 U V,D.ag r3]->(ao=r3.length/\Y=q3)/\zA r3 [D.ag [D.j n,D.t s,D.t a,D.j c,x,d,e,f,D.sl b 9 g h]] 136/\∀(o :
 Nat),yI E Q N0 n1 n6 (IntKind.i64.wrap (n7+1)) i j k l m aq au aw ax ay az a1 a6 a7 a8 ba bb bc bg bh
 ah ai aj ak I J al O U V (r3++[D.ag [D.j n,D.t s,D.t a,D.j c,x,d,e,f,D.sl b 9 g h]]).length o (r3++[D.ag
 [D.j n,D.t s,D.t a,D.j c,x,d,e,f,D.sl b 9 g h]]) o p)) (zC E [.var [.sv none 0 [] 0,.j 0,.j 0]]/\(ao=r3.length/\Y=q3) /\
 uP N (Q ah ai aj ak I J (D.j al) (D.sl O 2 U V) r3 Y Z aa ab ac ae))):yI E Q N0 n1 n6 n7 Z aa ab ac ae aq au aw ax ay az a1 a6 a7 a8 ba bb bc bg bh ah ai aj ak I J al O U V ao Y r3 q3 N:=
  qA zS h
theorem wr (E:Env) (Q:QT [Sh.pk,(Sh.int IntKind.i64),Sh.str,Sh.str,(Sh.int IntKind.i64),Sh.dc,Sh.dc,Sh.dc,Sh.dc,(Sh.row (OfNat.ofNat 29) 9),(Sh.sl 0),(Sh.int IntKind.i64),(Sh.int IntKind.i64)]) (N0:Nat) (n1 n6 n7:Int) (Z:Option Addr) (aa:List D) (ab:Nat) (ac ae aq:Int) (au aw:ByteArray) (ax ay:Int) (az:Option Addr) (a1:List D) (a6:Nat) (a7:Int) (a8:Option Addr) (ba:List D) (bb:Nat) (bc:Option Addr) (bg:List D) (bh:Nat) (ah:Int) (ai aj:ByteArray) (ak al:Int) (I:Option Addr) (J:List D) (O:Nat) (U V:D) (ao Y:Nat) (r3:List D) (q3:Nat) (N:Nat) (h :
Br (decide (n7<n6)) (∀ b,N<=b->BCalls prog 31 [.pk,.i,.str,.str,.i,.dc,.dc,.dc,.dc,.row 29 9,.sl 0,.i,.i] [.pb 0 0 0 0,.j
 (IntKind.i64.wrap (n1 - 1))] [Bx.var [.sv Z 0 aa ab,.j ac,.j ae]] b (λn s a c x d e f g h i j k l m o=>b<=o->Bel o
 (D.sl i 0 j k)->Bel o (D.ag g)->(g.length=g.length/\h=h)/\∀ b p,o<=p->Fresh N0 p b [D.ag g,x,d,e,f,D.sl I 2 J
 O,U,V,D.ag r3]->(ao=r3.length/\Y=q3)/\zA r3 [D.ag [D.j n,D.t s,D.t a,D.j c,x,d,e,f,D.sl b 9 g h]] 136/\∀(o
 : Nat),yJ E Q N0 n1 n6 (IntKind.i64.wrap (n7+1)) i j k l m aq au aw ax ay az a1 a6 a7 a8 ba bb bc bg
 bh ah ai aj ak al I J O U V (r3++[D.ag [D.j n,D.t s,D.t a,D.j c,x,d,e,f,D.sl b 9 g h]]).length o (r3 ++
 [D.ag [D.j n,D.t s,D.t a,D.j c,x,d,e,f,D.sl b 9 g h]]) o p)) (zC E [.var [.sv none 0 [] 0,.j 0,.j 0]]/\(ao=r3.length/\Y =
 q3)/\uP N (Q ah ai aj ak (D.j al) (D.sl I 2 J O) U V r3 Y Z aa ab ac ae))):yJ E Q N0 n1 n6 n7 Z aa ab ac ae aq au aw ax ay az a1 a6 a7 a8 ba bb bc bg bh ah ai aj ak al I J O U V ao Y r3 q3 N:=
  qA zS h
theorem wu (E:Env) (Q:QT [Sh.pk,(Sh.int IntKind.i64),Sh.str,Sh.str,(Sh.int IntKind.i64),Sh.dc,Sh.dc,Sh.dc,Sh.dc,(Sh.row (OfNat.ofNat 29) 9),(Sh.sl 0),(Sh.int IntKind.i64),(Sh.int IntKind.i64)]) (N0:Nat) (n1 n6 n7:Int) (aa:Option Addr) (ab:List D) (ac:Nat) (ae ah aw:Int) (ax ay:ByteArray) (az a1:Int) (a6:Option Addr) (a7:List D) (a8:Nat) (ba:Int) (bb:Option Addr) (bc:List D) (bg:Nat) (bh:Option Addr) (bi:List D) (bj:Nat) (ai:Int) (aj ak:ByteArray) (al ao:Int) (I:Option Addr) (J:List D) (O:Nat) (aq:Int) (U:Option Addr) (V:List D) (Y au Z:Nat) (r3:List D) (q3:Nat) (N:Nat) (h :
Br (decide (n7<n6)) (∀ b,N<=b->BCalls prog 31 [.pk,.i,.str,.str,.i,.dc,.dc,.dc,.dc,.row 29 9,.sl 0,.i,.i] [.pb 0 0 0 0,.j
 (IntKind.i64.wrap (n1 - 1))] [Bx.var [.sv aa 0 ab ac,.j ae,.j ah]] b (λn s a c x d e f g h i j k l m o=>b<=o->Bel o
 (D.sl i 0 j k)->Bel o (D.ag g)->(g.length=g.length/\h=h)/\∀ b p,o<=p->Fresh N0 p b [D.ag g,x,d,e,f,D.sl I 2 J
 O,D.sl U 2 V Y,D.ag r3]->(au=r3.length/\Z=q3)/\zA r3 [D.ag [D.j n,D.t s,D.t a,D.j c,x,d,e,f,D.sl b 9 g h]]
 136/\∀(o:Nat),yK E Q N0 n1 n6 (IntKind.i64.wrap (n7+1)) i j k l m aw ax ay az a1 a6 a7 a8 ba bb bc bg
 bh bi bj ai aj ak al ao I J O aq U V Y (r3++[D.ag [D.j n,D.t s,D.t a,D.j c,x,d,e,f,D.sl b 9 g
 h]]).length o (r3++[D.ag [D.j n,D.t s,D.t a,D.j c,x,d,e,f,D.sl b 9 g h]]) o p)) (zC E [.var [.sv none 0 [] 0,.j 0,.j 0]]/\(au
 = r3.length/\Z=q3)/\uP N (Q ai aj ak al (D.j ao) (D.sl I 2 J O) (D.j aq) (D.sl U 2 V Y) r3 Z aa ab ac ae ah))):yK E Q N0 n1 n6 n7 aa ab ac ae ah aw ax ay az a1 a6 a7 a8 ba bb bc bg bh bi bj ai aj ak al ao I J O aq U V Y au Z r3 q3 N:=
  qA zS h
end Go.Proofs.YtidiofobanefmaaGreatDoor
set_option maxRecDepth 100000
namespace Go.Proofs.YtidiofobanefmaaGreatDoor
open Go Go.Proofs Go.Proofs.Tryz
def rh:Hint:=⟨[],[],[(4,hs 3 [ec 1 [17]]),(6,hs 28 [ec 2 [25],ec 7 [30],ec 15 [37,38],ec 23 [46]]),(12,[en 0,en 1,en 2,en 3,en 4,en 5,en 6,en 7,en 9,ec 8 [73],en 10,en 11,en 12,en 13,en 14,en 16,ec 15 [80],ec 17 [82],en 18,en 19,en 20])]⟩
theorem G4 (N:Nat) (a0:Option Addr) (e0:List D) (c0:Nat) (Q:QT [.bool]) (h :
Bel N (D.sl a0 0 e0 c0)->∀ a,N<=a->Q (decide ((e0.length:Int)>1048576)) a):ACalls prog 4 [.bool] [PV.sv a0 0 e0 c0] N Q:=
 eE H0 h
theorem qR (N:Nat) (a0:Option Addr) (e0:List D) (c0:Nat) (Q:QT [.bool]) (h :
Bel N (D.sl a0 0 e0 c0)->kB 4 [.sv a0 0 e0 c0] N (λb a=>Br b (uP a (Q true)) (kA 9 5 [.sv a0 0 e0 c0] a (λx a=>kS 6 [.dg 9 x] a (λs a
 => kAB 9 7 [.str s] a (λa b c=>kS 8 [.dg 9 x] c (λc d=>Br (!(ByteArray.toList s==ByteArray.toList c)) (uP d (Q false)) (kB 9 [.dg 9
 x] d (λc d=>Br (!(b==c)) (uP d (Q false)) (Br b (kB 10 [.dg 9 a,.dg 9 x] d (λa c=>Br (!a) (uP c (Q false)) (Br b (kS 11
 [.dg 9 x] c (λa b=>Br (!(ByteArray.toList a==ByteArray.toList s)) (uP b (Q false)) (kS 12 [.sv a0 0 e0 c0] b (λa b=>kAB 9 7 [.str
 a] b (λb c d=>kAB 9 13 [.str a] d (λ_ d e=>kA 9 14 [.sv a0 0 e0 c0] e (λe f=>Br (c==d) (Br (!c) (kS 11 [.dg 9
 e] f (λa b=>kS 15 [.dg 9 e] b (λb c=>uP c (Q (ByteArray.toList a==ByteArray.toList b))))) (kS 6 [.dg 9 b] f (λb c
 => Br (ByteArray.toList b==ByteArray.toList a) (kS 11 [.dg 9 e] c (λa b=>kS 15 [.dg 9 e] b (λb c=>uP c (Q (ByteArray.toList
 a==ByteArray.toList b))))) (uP c (Q false))))) (uP f (Q false))))))))) (kS 12 [.sv a0 0 e0 c0] c (λa b=>kAB 9 7 [.str a] b (λb c
 d=>kAB 9 13 [.str a] d (λ_ d e=>kA 9 14 [.sv a0 0 e0 c0] e (λe f=>Br (c==d) (Br (!c) (kS 11 [.dg 9 e] f (λa b
 => kS 15 [.dg 9 e] b (λb c=>uP c (Q (ByteArray.toList a==ByteArray.toList b))))) (kS 6 [.dg 9 b] f (λb c=>Br
 (ByteArray.toList b==ByteArray.toList a) (kS 11 [.dg 9 e] c (λa b=>kS 15 [.dg 9 e] b (λb c=>uP c (Q (ByteArray.toList a
 == ByteArray.toList b))))) (uP c (Q false))))) (uP f (Q false)))))))))) (Br b (kS 11 [.dg 9 x] d (λa b=>Br (!(ByteArray.toList a ==
 ByteArray.toList s)) (uP b (Q false)) (kS 12 [.sv a0 0 e0 c0] b (λa b=>kAB 9 7 [.str a] b (λb c d=>kAB 9 13 [.str a] d (fun
 _ d e=>kA 9 14 [.sv a0 0 e0 c0] e (λe f=>Br (c==d) (Br (!c) (kS 11 [.dg 9 e] f (λa b=>kS 15 [.dg 9 e] b (fun
 b c=>uP c (Q (ByteArray.toList a==ByteArray.toList b))))) (kS 6 [.dg 9 b] f (λb c=>Br (ByteArray.toList b==ByteArray.toList
 a) (kS 11 [.dg 9 e] c (λa b=>kS 15 [.dg 9 e] b (λb c=>uP c (Q (ByteArray.toList a==ByteArray.toList b))))) (uP c (Q
 false))))) (uP f (Q false))))))))) (kS 12 [.sv a0 0 e0 c0] d (λa b=>kAB 9 7 [.str a] b (λb c d=>kAB 9 13 [.str a] d (fun
 _ d e=>kA 9 14 [.sv a0 0 e0 c0] e (λe f=>Br (c==d) (Br (!c) (kS 11 [.dg 9 e] f (λa b=>kS 15 [.dg 9 e] b
 (λb c=>uP c (Q (ByteArray.toList a==ByteArray.toList b))))) (kS 6 [.dg 9 b] f (λb c=>Br (ByteArray.toList b ==
 ByteArray.toList a) (kS 11 [.dg 9 e] c (λa b=>kS 15 [.dg 9 e] b (λb c=>uP c (Q (ByteArray.toList a ==
 ByteArray.toList b))))) (uP c (Q false))))) (uP f (Q false)))))))))))))))))):ACalls prog 3 [.bool] [PV.sv a0 0 e0 c0] N Q:=
  eE rh h
end Go.Proofs.YtidiofobanefmaaGreatDoor
