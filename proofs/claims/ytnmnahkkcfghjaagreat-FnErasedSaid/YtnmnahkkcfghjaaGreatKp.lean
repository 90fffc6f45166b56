/- Printed by gen.py: what the functions come to. -/
import Derived.Test.YtnmnahkkcfghjaaGreatJh
set_option linter.unusedVariables false
set_option maxRecDepth 100000
namespace Go.Proofs.YtnmnahkkcfghjaaGreat
open Go Go.Proofs Go.Proofs.Tryz
def zCi:Hint:=⟨[hc 3 [0,1,5,6] [(5,5,0)]],[],[]⟩
def zFy:Hint:=⟨[],[],[(7,[en 0,en 1,en 2,en 3,en 7,en 8,en 9,en 10,ec 4 [14],en 5,en 6,ec 11 [21],en 12,en 13,en 14]),(8,hs 8 [ec 4 [28]])]⟩
def zFQ:Hint:=⟨[],[],[(5,[en 0,en 1,en 2,en 3,en 4,en 5,en 9,en 10,en 11,ec 6 [20],en 7,en 8,en 12,en 13,en 14]),(9,[en 0,en 1,en 2,en 3,en 4,eh 5,en 6,en 7,en 8]),(11,[en 0,en 1,en 2,en 3,en 4,en 5,en 6,en 7,en 8,en 9,en 13,en 14,en 18,en 19,en 20,ec 10 [56],en 11,en 12,ec 15 [61],en 16,en 17,en 21,en 22,en 23])]⟩
def qa:Hint:=⟨[hc 3 [1,3,4] [(3,9,0)]],[],[(5,hs 10 [ec 6 [18]]),(16,[en 0,en 1,en 2,en 3,en 4,en 5,en 6,en 7,en 8,en 9,en 10,en 11,en 12]),(21,hs 4 [ec 2 [77]])]⟩
def zAS:Hint:=⟨[],[],[(1,hs 3 [ec 1 [3]]),(3,hs 3 [ec 1 [6]])]⟩
def pA:Hint:=⟨[hc 9 [0,6,7,8,9]],[],[]⟩
def zEt:Hint:=⟨[],[],[(1,[en 0,en 1,en 2,en 3,en 4,en 5,en 6,en 7,en 8,en 9,en 10,en 11,en 12,en 13,en 14,en 15,en 16,en 17,en 18,en 19,en 20,en 21,en 22,en 23,en 24,en 25,en 26,en 27,en 28,en 29,en 30,en 31,en 32,en 33,en 34,en 35,en 36,en 37,en 38])]⟩
def qf:Hint:=⟨[hc 2 [0,3]],[],[(2,[en 0,en 1,en 2,en 3,en 4,en 5,en 6,en 7,en 8,en 9,en 10,en 11,en 12,en 13,en 14,en 15,en 16,en 17,en 18,en 19,en 20,en 21,en 22,en 23,en 24,en 25,en 26,en 27,en 28,en 29,en 30,en 31,en 32,en 33,en 34,en 35,en 36,en 37,en 38,en 39,en 40,en 41,en 42,en 43,en 44,en 45,en 46,en 47,en 48,en 49,en 50,en 51,en 52,en 53,en 54,en 55,en 56,en 57]),(4,[en 0,en 1,en 2,en 3,en 4,en 5,en 6,en 7,en 8,en 9,en 10])]⟩
def tI:Hint:=⟨[hc 2 [0,2,3,5,8,9]],[],[(6,[en 0,en 1,en 2,en 3,eh 4,en 5,eh 6,en 7,eh 8])]⟩
def zGg:Hint:=⟨[],[],[(9,hs 5 [ec 3 [27]])]⟩
def zE7:Hint:=⟨[],[],[(3,hs 5 [ec 3 [14]]),(4,[en 0,en 1,en 2,en 3,en 4,en 5,en 6,en 7,en 8,en 9,en 10,en 11,en 12,en 13,en 14,en 15,en 16,en 17,en 18,eh 19]),(5,[en 0,en 1,en 2,en 3,en 4,en 5,en 6,en 7,en 8,en 9,en 10,en 11,en 12,en 13,en 14,en 15,en 16,en 17,en 18,eh 19,en 20,en 21]),(9,[en 0,en 1,en 2,en 3,en 4,en 5,en 6,en 7,en 8,en 9,en 10,en 11,en 12,en 13,en 14,eh 15]),(11,hs 5 [ec 3 [87]])]⟩
def zFo:Hint:=⟨[],[],[(7,hs 5 [ec 3 [21]]),(11,hs 5 [ec 3 [33]]),(15,hs 5 [ec 3 [46]]),(17,hs 5 [ec 3 [53]]),(19,hs 5 [ec 3 [60]]),(21,hs 5 [ec 3 [67]]),(22,hs 7 [ec 5 [73]])]⟩
def zFz:Hint:=⟨[],[],[(1,[en 0,en 1,en 2,en 3,en 4,en 5,en 6,en 7,en 8,en 9,en 10,en 11,en 12,en 13,en 14,en 15,en 16,en 17,en 18,en 19,en 20,en 21,en 22,eh 23]),(16,[en 0,en 1,en 2,en 3,en 4,en 5,en 6,en 7,en 8,en 9,en 10,en 11,en 12,en 13,en 14,en 15,en 16,en 17,en 18,en 19,en 20,en 21,en 22])]⟩
def zBb:Hint:=⟨[],[],[(3,hs 19 [ec 15 [25]])]⟩
def wJ (Q:QT [.str]) (N0:Nat) (a0:Option Addr) (e0:List D) (c0:Nat) (I:ByteArray) (J O:Nat) (U:Int) (r0:List D) (Y:Nat) (N:Nat):Prop:=AT prog 134 [.str] Q N0 .ord (zE prog 134 3) ⟨.sv a0 0 e0 c0::.str I::an 3 (.sb 0 0 0 J O::.int .i64 U::an 20 []),[.arr 5 0 r0 Y],N,none⟩
def wS (Q:QT [.str]) (N0:Nat) (I J:Nat) (O:Int) (U:D) (r1:List D) (Y:Nat) (N:Nat):Prop:=AT prog 120 [.str] Q N0 .ord (zE prog 120 3) ⟨an 1 (.pb 0 0 0 0::an 1 (.sb 1 0 0 I J::.int .i64 O::an 75 [])),[.vd U 9,.arr 9 0 r1 Y],N,none⟩
def zr (Q:QT [.int .i64,.bool]) (N0:Nat) (I:ByteArray) (J:Bool) (O:ByteArray) (U Y:Int) (N:Nat):Prop:=AT prog 133 [.int .i64,.bool] Q N0 .ord (zE prog 133 9) ⟨.str I::an 5 (.bool J::.str O::.int .i64 U::.int .i64 Y::an 53 []),[],N,none⟩
def yI (E:Env) (Q:QT [.str,.str,.i,.bool]) (N0:Nat) (U:Int) (I:ByteArray) (J:Int) (O:Bool) (N:Nat):Prop:=AT prog 118 [.str,.str,.i,.bool] Q N0 (.io E [.var [.str b0,.int .i64 0,.bool false]]) (zE prog 118 2) ⟨.pb 0 0 0 0::an 2 (.int .i64 U::an 80 []),[.var [.str I,.int .i64 J,.bool O]],N,some (yi E 0 [.var [.str b0,.int .i64 0,.bool false]],[])⟩
def sa (E:Env) (Q:QT [.ag 9,.str,.i,.bool]) (N0:Nat) (n2 n3 n9:Int) (I:ByteArray) (J:Int) (O:Bool) (y1:D) (U:Int) (Y aa:ByteArray) (ab ac:Int) (ae:Option Addr) (ah:List D) (ai:Nat) (aj:Int) (ak:Option Addr) (al:List D) (am:Nat) (ao:Option Addr) (aq:List D) (au:Nat) (N:Nat):Prop:=AT prog 125 [.ag 9,.str,.i,.bool] Q N0 (.io E [.var [.str b0,.int .i64 0,.bool false]]) (zE prog 125 2) ⟨.pb 0 0 0 0::an 1 (.int .i64 n2::.int .i64 n3::an 1 (.pb 1 0 0 0::an 2 (.pb 2 0 0 0::.int .i64 n9::an 27 []))),[.var [.str I,.int .i64 J,.bool O],.vd y1 9,.var [.int .i64 U,.str Y,.str aa,.int .i64 ab,.int .i64 ac,.sv ae 2 ah ai,.int .i64 aj,.sv ak 2 al am,.sv ao 9 aq au]],N,some (yi E 0 [.var [.str b0,.int .i64 0,.bool false]],[])⟩
def zX (E:Env) (Q:QT [.ag 9,.str,.i,.bool]) (N0:Nat) (n2 n3 n9:Int) (I:ByteArray) (J:Int) (O:Bool) (U Y aa ab ac ae ah ai:D) (aj ak:Nat) (al:Int) (am ao:ByteArray) (aq au:Int) (aw:Option Addr) (ax:List D) (ay:Nat) (az:Int) (a2:Option Addr) (a3:List D) (a4:Nat) (a5:Option Addr) (a6:List D) (a7:Nat) (r3:List D) (q3:Nat) (N:Nat):Prop:=AT prog 125 [.ag 9,.str,.i,.bool] Q N0 (.io E [.var [.str b0,.int .i64 0,.bool false]]) (zE prog 125 2) ⟨.pb 0 0 0 0::an 1 (.int .i64 n2::.int .i64 n3::an 1 (.pb 1 0 0 0::an 2 (.pb 2 0 0 0::.int .i64 n9::an 27 []))),[.var [.str I,.int .i64 J,.bool O],.var [.dc U,.dc Y,.dc aa,.dc ab,.dc ac,.dc ae,.dc ah,.dc ai,.sb 3 9 0 aj ak],.var [.int .i64 al,.str am,.str ao,.int .i64 aq,.int .i64 au,.sv aw 2 ax ay,.int .i64 az,.sv a2 2 a3 a4,.sv a5 9 a6 a7],.arr 29 9 r3 q3],N,some (yi E 0 [.var [.str b0,.int .i64 0,.bool false]],[])⟩
theorem zIA (N:Nat) (a0:Option Addr) (e0:List D) (c0:Nat) (I:ByteArray) (Q:QT [.str]) (h :
Bel N (D.sl a0 0 e0 c0)->wJ Q N a0 e0 c0 I 0 0 0 [] 0 N):ACalls prog 134 [.str] [PV.sv a0 0 e0 c0,PV.str I] N Q:=
 eE zCi h
theorem vY (N:Nat) (I:D) (Q:QT [.str]) (h :
Bel N I->∃ n:Int,(I.cell 0)=D.j n/\Br (n==1) (uP N (Q (bytes [73]))) (Br (n==2) (uP N (Q (bytes [66]))) (Br (n==3) (∃ a b,∃ c:Nat,
 (I.cell 1)=D.sl a 2 b c/\((0:Int)<=(0:Int)/\0<(b.length:Int))/\∃ a c,∃ d:Nat,(I.cell 1)=D.sl a 2 c d/\((0:Int)<=(1 :
 Int)/\1<(c.length:Int))/\kS 135 [.dg 2 (List.getD b 0 default)] N (λs a=>(1+s.size:Nat)<=9223372036854775807/\(ByteArray.size (bytes [40]
 ++ s)+1:Nat)<=9223372036854775807/\kS 135 [.dg 2 (List.getD c 1 default)] a (λa b=>(ByteArray.size (bytes [40]++s++bytes [62])+a.size
 : Nat)<=9223372036854775807/\(ByteArray.size (bytes [40]++s++bytes [62]++a)+1:Nat)<=9223372036854775807/\uP b (Q (bytes [40]++s++bytes [62]
 ++ a++bytes [41]))))) (∃ a b,∃ c:Nat,(I.cell 1)=D.sl a 2 b c/\((0:Int)<=(0:Int)/\0<(b.length:Int))/\kS 135 [.dg 2
 (List.getD b 0 default)] N (λa b=>(1+a.size:Nat)<=9223372036854775807/\(ByteArray.size (bytes [60]++a)+1:Nat)<=9223372036854775807 /\
 uP b (Q (bytes [60]++a++bytes [62]))))))):ACalls prog 135 [.str] [PV.dg 2 I] N Q:=
  eE zFy h
theorem zFt (N:Nat) (I:D) (a1:Option Addr) (e1:List D) (c1:Nat) (Q:QT [.str]) (h :
Bel N I->Bel N (D.sl a1 0 e1 c1)->∃ n:Int,(I.cell 0)=D.j n/\Br (n==5) (kS 134 [.sv a1 0 e1 c1,.str (bytes [32])] N (λs a=>(4+s.size :
 Nat)<=9223372036854775807/\(ByteArray.size (bytes [40,105,102,32]++s)+1:Nat)<=9223372036854775807/\uP a (Q (bytes [40,105,102,32]++s++bytes
 [41])))) (Br (n==6) (∃ a,(I.cell 1)=D.t a/\(2+a.size:Nat)<=9223372036854775807/\(ByteArray.size (bytes [40,92]++a)+1:Nat) <=
 9223372036854775807/\((0:Int)<=(0:Int)/\0<(e1.length:Int))/\∃ b,List.getD e1 0 default=D.t b/\kS 135 [.dg 2 (D.sub I 4 2)] N (λc d=>
 (ByteArray.size (bytes [40,92]++a++bytes [58])+c.size:Nat)<=9223372036854775807/\(ByteArray.size (bytes [40,92]++a++bytes [58]++c)+1
 : Nat)<=9223372036854775807/\(ByteArray.size (bytes [40,92]++a++bytes [58]++c++bytes [46])+b.size:Nat)<=9223372036854775807 /\
 (ByteArray.size (bytes [40,92]++a++bytes [58]++c++bytes [46]++b)+1:Nat)<=9223372036854775807/\uP d (Q (bytes [40,92]++a++bytes
 [58]++c++bytes [46]++b++bytes [41])))) (Br (n==7) (kS 134 [.sv a1 0 e1 c1,.str (bytes [32])] N (λa b=>(1+a.size:Nat) <=
 9223372036854775807/\(ByteArray.size (bytes [40]++a)+1:Nat)<=9223372036854775807/\uP b (Q (bytes [40]++a++bytes [41])))) (Br (n==8) (∃ a,
 (I.cell 1)=D.t a/\(5+a.size:Nat)<=9223372036854775807/\(ByteArray.size (bytes [40,108,101,116,32]++a)+1:Nat)<=9223372036854775807 /\
 kS 134 [.sv a1 0 e1 c1,.str (bytes [32])] N (λb c=>(ByteArray.size (bytes [40,108,101,116,32]++a++bytes [61])+b.size:Nat) <=
 9223372036854775807/\(ByteArray.size (bytes [40,108,101,116,32]++a++bytes [61]++b)+1:Nat)<=9223372036854775807/\uP c (Q (bytes [40,108,
 101,116,32]++a++bytes [61]++b++bytes [41])))) (Br (n==9) (∃ a,(I.cell 1)=D.t a/\(5+a.size:Nat)<=9223372036854775807 /\
 (ByteArray.size (bytes [40,114,101,99,32]++a)+1:Nat)<=9223372036854775807/\∃ b,(I.cell 2)=D.t b/\(ByteArray.size (bytes [40,114,101,
 99,32]++a++bytes [32])+b.size:Nat)<=9223372036854775807/\(ByteArray.size (bytes [40,114,101,99,32]++a++bytes [32]++b)+1:Nat) <=
 9223372036854775807/\((0:Int)<=(0:Int)/\0<(e1.length:Int))/\∃ c,List.getD e1 0 default=D.t c/\kS 135 [.dg 2 (D.sub I 4 2)] N (λd e
 => (ByteArray.size (bytes [40,114,101,99,32]++a++bytes [32]++b++bytes [58])+d.size:Nat)<=9223372036854775807/\(ByteArray.size (bytes
 [40,114,101,99,32]++a++bytes [32]++b++bytes [58]++d)+1:Nat)<=9223372036854775807/\kS 135 [.dg 2 (D.sub I 6 2)] e (λe f=>
 (ByteArray.size (bytes [40,114,101,99,32]++a++bytes [32]++b++bytes [58]++d++bytes [62])+e.size:Nat)<=9223372036854775807 /\
 (ByteArray.size (bytes [40,114,101,99,32]++a++bytes [32]++b++bytes [58]++d++bytes [62]++e)+1:Nat)<=9223372036854775807 /\
 (ByteArray.size (bytes [40,114,101,99,32]++a++bytes [32]++b++bytes [58]++d++bytes [62]++e++bytes [46])+c.size:Nat) <=
 9223372036854775807/\(ByteArray.size (bytes [40,114,101,99,32]++a++bytes [32]++b++bytes [58]++d++bytes [62]++e++bytes [46] ++
 c)+1:Nat)<=9223372036854775807/\uP f (Q (bytes [40,114,101,99,32]++a++bytes [32]++b++bytes [58]++d++bytes [62]++e++bytes
 [46]++c++bytes [41]))))) (Br (n==12) (((0:Int)<=(0:Int)/\0<(e1.length:Int))/\∃ a,List.getD e1 0 default=D.t a/\(5+a.size :
 Nat)<=9223372036854775807/\(ByteArray.size (bytes [40,114,117,110,32]++a)+1:Nat)<=9223372036854775807/\uP N (Q (bytes [40,114,117,110,32]
 ++ a++bytes [41]))) (((0:Int)<=(0:Int)/\0<(e1.length:Int))/\∃ a,List.getD e1 0 default=D.t a/\(6+a.size:Nat) <=
 9223372036854775807/\(ByteArray.size (bytes [40,108,105,102,116,32]++a)+1:Nat)<=9223372036854775807/\uP N (Q (bytes [40,108,105,102,116,
 32]++a++bytes [41]))))))))):ACalls prog 132 [.str] [PV.dg 9 I,PV.sv a1 0 e1 c1] N Q:=
  eE zFQ h
theorem zFu (N:Nat) (I:D) (Q:QT [.str]) (h :
Bel N I->wS Q N 0 0 0 I [] 0 N):ACalls prog 120 [.str] [PV.dg 9 I] N Q:=
 eE qa h
theorem zAb (N:Nat) (I:D) (Q:QT [.str]) (h :
Bel N I->kB 119 [.dg 9 I] N (λb a=>Br (!b) (uP a (Q b0)) (kS 120 [.dg 9 I] a (λs a=>uP a (Q s))))):ACalls prog 104 [.str] [PV.dg 9 I] N Q:=
 eE zAS h
theorem zFL (N:Nat) (I:ByteArray) (n1:Int) (Q:QT [.int .i64,.bool]) (h :
Br (decide ((I.size:Int)>0)) (((0:Int)<=(0:Int)/\0<(I.size:Int))/\Br ((UInt8.toNat (Array.getD (ByteArray.data I) 0 (OfNat.ofNat 0)) :
 Int)==45) (((0:Int)<=(1:Int)/\1<=(I.size:Int)/\(I.size:Int)<=(I.size:Int))/\Br (decide ((ByteArray.size (ByteArray.extract I 1 ((I.size :
 Int)).toNat):Int)<1)) (uP N (Q 0 false)) (Br (decide ((ByteArray.size (ByteArray.extract I 1 ((I.size:Int)).toNat):Int)>n1)) (uP N (Q 0 false))
 (zr Q N I ((UInt8.toNat (Array.getD (ByteArray.data I) 0 (OfNat.ofNat 0)):Int)==45) (ByteArray.extract I 1 ((I.size:Int)).toNat) 0 0 N)))
 (Br (decide ((I.size:Int)<1)) (uP N (Q 0 false)) (Br (decide ((I.size:Int)>n1)) (uP N (Q 0 false)) (zr Q N I ((UInt8.toNat (Array.getD
 (ByteArray.data I) 0 (OfNat.ofNat 0)):Int)==45) I 0 0 N)))) (Br (decide ((I.size:Int)<1)) (uP N (Q 0 false)) (Br (decide ((I.size:Int)>n1)) (uP
 N (Q 0 false)) (zr Q N I false I 0 0 N)))):ACalls prog 133 [.int .i64,.bool] [PV.str I,PV.int .i64 n1] N Q:=
  eE pA h
theorem ph (N:Nat) (I:ByteArray) (Q:QT [.int .i64,.bool]) (h :
kIB 133 [.str I,.j 6] N (λn b a=>Br (!b) (uP a (Q 0 false)) (Br (decide (n<0)) (uP a (Q 0 false)) (uP a (Q n true))))):ACalls prog 128 [.int .i64,.bool] [PV.str I] N Q:=
 eE H0 h
theorem zBd (N:Nat) (I:ByteArray) (Q:QT [.ag 9,.bool]) (h :
rA 9 103 [.j 1] I 0 false N (λx _ n b a=>Br b (∀ b,a<=b->Q (D.ag [D.j 0,D.t b0,D.t b0,D.j 0,D.j 0,D.sl none 2 [] 0,D.j 0,D.sl none 2 []
 0,D.sl none 9 [] 0]) false b) (Br (bne n (I.size:Int)) (∀ b,a<=b->Q (D.ag [D.j 0,D.t b0,D.t b0,D.j 0,D.j 0,D.sl none 2 [] 0,D.j 0,D.sl none 2
 [] 0,D.sl none 9 [] 0]) false b) (kS 104 [.dg 9 x] a (λa b=>Br (!(ByteArray.toList a==ByteArray.toList I)) (∀ a,b<=a->Q (D.ag [D.j 0,D.t
 b0,D.t b0,D.j 0,D.j 0,D.sl none 2 [] 0,D.j 0,D.sl none 2 [] 0,D.sl none 9 [] 0]) false a) (uP b (Q x true))))))):ACalls prog 82 [.ag 9,.bool] [PV.str I] N Q:=
  eE zBb h
theorem qe (Q:QT [.str]) (N0:Nat) (a0:Option Addr) (e0:List D) (c0:Nat) (J:ByteArray) (O U:Nat) (I:Int) (r0:List D) (Y:Nat) (N:Nat) (h :
Br (decide (I<(e0.length:Int))) (Br (decide (I>0)) ((O=r0.length/\U=Y)/\zA r0 (xM J) 1/\∀ (c:Nat),(0<=I/\I<(e0.length
 : Int))/\∃ s,List.getD e0 I.toNat default=D.t s/\((r0++xM J).length=(r0++xM J).length/\c=c)/\zA (r0++xM J) (xM s) 1 /\
 ∀ (a:Nat),wJ Q N0 a0 e0 c0 J (r0++xM J++xM s).length a (IntKind.i64.wrap (I+1)) (r0++xM J++xM s) a N) ((0<=I
 /\ I<(e0.length:Int))/\∃ a,List.getD e0 I.toNat default=D.t a/\(O=r0.length/\U=Y)/\zA r0 (xM a) 1/\∀ (b:Nat),
 wJ Q N0 a0 e0 c0 J (r0++xM a).length b (IntKind.i64.wrap (I+1)) (r0++xM a) b N)) (O<=r0.length/\∃ a:List Int,List.take
 O r0=List.map (λn=>D.lit (.int IntKind.u8 n)) a/\uP N (Q (bytesOf a)))):wJ Q N0 a0 e0 c0 J O U I r0 Y N:=
  hE zCi h
theorem sf (Q:QT [.str]) (N0:Nat) (J U:Nat) (O:Int) (I:D) (r1:List D) (Y:Nat) (N:Nat) (h :
∃ a b,∃ c:Nat,(I.cell 8)=D.sl a 9 b c/\Br (decide (O<(b.length:Int))) (∃ a b,∃ c:Nat,(I.cell 8)=D.sl a 9 b c/\(0<=O
 /\ O<(b.length:Int))/\kS 120 [.dg 9 (List.getD b O.toNat default)] N (λs a=>(J=r1.length/\U=Y)/\zA r1 [D.t s] 16/\∀ (b :
 Nat),wS Q N0 (r1++[D.t s]).length b (IntKind.i64.wrap (O+1)) I (r1++[D.t s]) b a)) (∃ n:Int,(I.cell 0)=D.j n/\Br (n==1) (∃
 a,(I.cell 1)=D.t a/\uP N (Q a)) (Br (n==2) (∃ a:Int,(I.cell 3)=D.j a/\kS 131 [.j a] N (λa b=>uP b (Q a))) (Br (n==3) (∃
 a:Int,(I.cell 3)=D.j a/\∃ b:Int,(I.cell 3)=D.j b/\(0<=a/\a<=IntKind.i64.wrap (b+1)/\IntKind.i64.wrap (b+1)<=2)/\(1 +
 ByteArray.size (ByteArray.extract (bytes [102,116]) a.toNat (IntKind.i64.wrap (b+1)).toNat):Nat)<=9223372036854775807/\∀ c,N<=c->Q (bytes [35]
 ++ ByteArray.extract (bytes [102,116]) a.toNat (IntKind.i64.wrap (b+1)).toNat) c) (Br (n==4) (Br ((J:Int)==1) (((0:Int)<=(0:Int)/\0<(J :
 Int)/\0<r1.length)/\0<r1.length/\∃ a,List.getD r1 0 default=D.t a/\(2+a.size:Nat)<=9223372036854775807/\(ByteArray.size (bytes [40,33]
 ++ a)+1:Nat)<=9223372036854775807/\uP N (Q (bytes [40,33]++a++bytes [41]))) (((0:Int)<=(0:Int)/\0<(J:Int)/\0<r1.length)/\0 <
 r1.length/\∃ a,List.getD r1 0 default=D.t a/\(1+a.size:Nat)<=9223372036854775807/\∃ b,(I.cell 1)=D.t b/\(ByteArray.size (bytes [40] ++
 a)+b.size:Nat)<=9223372036854775807/\((0:Int)<=(1:Int)/\1<(J:Int)/\1<r1.length)/\1<r1.length/\∃ c,List.getD r1 1 default=D.t
 c/\(ByteArray.size (bytes [40]++a++b)+c.size:Nat)<=9223372036854775807/\(ByteArray.size (bytes [40]++a++b++c)+1:Nat) <=
 9223372036854775807/\uP N (Q (bytes [40]++a++b++c++bytes [41])))) (Br (n==10) (((0:Int)<=(0:Int)/\0<(J:Int)/\0<r1.length)/\0 <
 r1.length/\∃ a,List.getD r1 0 default=D.t a/\(1+a.size:Nat)<=9223372036854775807/\(ByteArray.size (bytes [60]++a)+1:Nat) <=
 9223372036854775807/\uP N (Q (bytes [60]++a++bytes [62]))) (Br (n==11) (((0:Int)<=(0:Int)/\0<(J:Int)/\0<r1.length)/\0<r1.length/\∃
 a,List.getD r1 0 default=D.t a/\(1+a.size:Nat)<=9223372036854775807/\uP N (Q (bytes [126]++a))) ((J=r1.length/\U=Y)/\∀ a,ApA a
 r1->Off [a] I->∀ b,N<=b->ux b [a]->ACalls prog 132 [.str] [.dg 9 I,.sv a 0 r1 U] b (λa c=>b<=c->uP c (Q a)))))))))):wS Q N0 J U O I r1 Y N:=
  hE qa h
theorem sk (Q:QT [.int .i64,.bool]) (N0:Nat) (s0:ByteArray) (b6:Bool) (s7:ByteArray) (n8 n9:Int) (N:Nat) (h :
Br (decide (n9<(s7.size:Int))) ((0<=n9/\n9<(s7.size:Int))/\Br (decide ((UInt8.toNat (Array.getD (ByteArray.data s7) n9.toNat (OfNat.ofNat 0)) :
 Int)<48)) (uP N (Q 0 false)) ((0<=n9/\n9<(s7.size:Int))/\Br (decide ((UInt8.toNat (Array.getD (ByteArray.data s7) n9.toNat (OfNat.ofNat 0)):Int) >
 57)) (uP N (Q 0 false)) ((0<=n9/\n9<(s7.size:Int))/\zr Q N0 s0 b6 s7 (IntKind.i64.wrap (IntKind.i64.wrap (10*n8)+IntKind.i64.wrap
 (IntKind.u8.wrap ((UInt8.toNat (Array.getD (ByteArray.data s7) n9.toNat (OfNat.ofNat 0)):Int) - 48)))) (IntKind.i64.wrap (n9+1)) N))) (Br b6 (kS 131 [.j
 (IntKind.i64.wrap (0 - n8))] N (fun s a=>Br (!(ByteArray.toList s==ByteArray.toList s0)) (uP a (Q 0 false)) (uP a (Q (IntKind.i64.wrap (0 - n8)) true))))
 (kS 131 [.j n8] N (fun a b=>Br (!(ByteArray.toList a==ByteArray.toList s0)) (uP b (Q 0 false)) (uP b (Q n8 true)))))):zr Q N0 s0 b6 s7 n8 n9 N:=
  hE pA h
theorem tu (N:Nat) (n1:Int) (I:ByteArray) (J:Int) (O:Bool) (Q:QT [(Sh.ag 9),Sh.str,(Sh.int IntKind.i64),Sh.bool]) (h:∀ E:Env,
Br O (zR E [.var [.str b0,.j 0,.bool false]]/\∀ a,N<=a->Q (D.ag [D.j 0,D.t b0,D.t b0,D.j 0,D.j 0,D.sl none 2 [] 0,D.j 0,
 D.sl none 2 [] 0,D.sl none 9 [] 0]) I J true a) (Br (decide (n1>20)) (zR E [.var [.str b0,.j 0,.bool false]]/\∀ a,N<=a->Q (D.ag [D.j 0,
 D.t b0,D.t b0,D.j 0,D.j 0,D.sl none 2 [] 0,D.j 0,D.sl none 2 [] 0,D.sl none 9 [] 0]) I J true a) (Br (decide (J≥(I.size:Int))) (zR
 E [.var [.str b0,.j 0,.bool false]]/\∀ a,N<=a->Q (D.ag [D.j 0,D.t b0,D.t b0,D.j 0,D.j 0,D.sl none 2 [] 0,D.j 0,D.sl none 2 [] 0,D.sl none 9 []
 0]) I J (decide (J≥(I.size:Int))) a) (rB 114 [.str (bytes [35,116])] I J (decide (J≥(I.size:Int))) N (λb s n c d
 => Br b (kA 9 86 [.j 1] d (λx a=>zR E [.var [.str b0,.j 0,.bool false]]/\uP a (Q x s n c))) (rB 114 [.str (bytes [35,102])] s n c d (λb
 c d e f=>Br b (kA 9 86 [.j 0] f (λa b=>zR E [.var [.str b0,.j 0,.bool false]]/\uP b (Q a c d e))) (rB 114 [.str (bytes
 [126])] c d e f (λb c d e f=>Br b (rA 9 103 [.j (IntKind.i64.wrap (n1+1))] c d e f (λb c d e f=>w3 (1 =
 ([b]).length/\1=1) (∀ a g,f<=g->Fresh N g a [D.ag [b],D.sl none 2 [] 0,D.sl none 2 [] 0]->zR E [.var [.str b0,.j 0,.bool false]]/\∀
 f,g<=f->Q (D.ag [D.j 11,D.t b0,D.t b0,D.j 0,D.j 0,D.sl none 2 [] 0,D.j 0,D.sl none 2 [] 0,D.sl a 9 [b] 1]) c d e f))) (rB 114 [.str
 (bytes [60])] c d e f (λa b c d e=>Br a (rA 9 103 [.j (IntKind.i64.wrap (n1+1))] b c d e (λa b c d e=>rU 115
 [.str (bytes [62])] b c d e (λb c d e=>w5 (1=([a]).length/\1=1) (∀ f g,e<=g->Fresh N g f [D.ag [a],D.sl none 2 []
 0,D.sl none 2 [] 0]->zR E [.var [.str b0,.j 0,.bool false]]/\∀ e,g<=e->Q (D.ag [D.j 10,D.t b0,D.t b0,D.j 0,D.j 0,D.sl none 2 [] 0,D.j 0,
 D.sl none 2 [] 0,D.sl f 9 [a] 1]) b c d e)))) (rB 114 [.str (bytes [40])] b c d e (λa b c d e=>Br a (rA 9 116 [.j
 (IntKind.i64.wrap (n1+1))] b c d e (λa b c d e=>zR E [.var [.str b0,.j 0,.bool false]]/\uP e (Q a b c d))) ((0<=c
 /\ c<(b.size:Int))/\Br (decide ((UInt8.toNat (Array.getD (ByteArray.data b) c.toNat (OfNat.ofNat 0)):Int)≥48)) ((0<=c/\c<(b.size :
 Int))/\Br (decide ((UInt8.toNat (Array.getD (ByteArray.data b) c.toNat (OfNat.ofNat 0)):Int)<=57)) (rA 9 117 [] b c d e (λa b c d
 e=>zR E [.var [.str b0,.j 0,.bool false]]/\uP e (Q a b c d))) (rS 118 [] b c d e (λa b c d e=>kA 9 49 [.str
 a] e (λa e=>zR E [.var [.str b0,.j 0,.bool false]]/\uP e (Q a b c d))))) (rS 118 [] b c d e (λa b c d
 e=>kA 9 49 [.str a] e (λa e=>zR E [.var [.str b0,.j 0,.bool false]]/\uP e (Q a b c d)))))))))))))))))):BCalls prog 103 [(Sh.ag 9),Sh.str,(Sh.int IntKind.i64),Sh.bool] [.pb 0 0 0 0,.int .i64 n1] [.var [.str I,.int .i64 J,.bool O]] N Q:=
  bE zFz h
theorem zBK (N:Nat) (U J:ByteArray) (I:Int) (O:Bool) (Q:QT [Sh.bool,Sh.str,(Sh.int IntKind.i64),Sh.bool]) (h:∀ E:Env,
Br O (zR E [.var [.str b0,.j 0,.bool false]]/\uP N (Q false J I O)) (Br (decide (IntKind.i64.wrap (I+(U.size:Int))
 > (J.size:Int))) (zR E [.var [.str b0,.j 0,.bool false]]/\uP N (Q false J I O)) ((0<=I/\I<=IntKind.i64.wrap (I+(U.size
 : Int))/\IntKind.i64.wrap (I+(U.size:Int))<=(J.size:Int))/\Br (!(ByteArray.toList (ByteArray.extract J I.toNat (IntKind.i64.wrap
 (I+(U.size:Int))).toNat)==ByteArray.toList U)) (zR E [.var [.str b0,.j 0,.bool false]]/\uP N (Q false J I O)) (zR E [.var [.str
 b0,.j 0,.bool false]]/\∀ a,N<=a->Q true J (IntKind.i64.wrap (I+(U.size:Int))) O a)))):BCalls prog 114 [Sh.bool,Sh.str,(Sh.int IntKind.i64),Sh.bool] [.pb 0 0 0 0,.str U] [.var [.str J,.int .i64 I,.bool O]] N Q:=
  bE zEt h
theorem zBa (N:Nat) (U I:ByteArray) (J:Int) (O:Bool) (Q:QT [Sh.str,(Sh.int IntKind.i64),Sh.bool]) (h:∀ E:Env,
Br O (zR E [.var [.str b0,.j 0,.bool false]]/\uP N (Q I J true)) (rB 114 [.str U] I J O N (λb s n _ a=>
 zR E [.var [.str b0,.j 0,.bool false]]/\uP a (Q s n (!b))))):BCalls prog 115 [Sh.str,(Sh.int IntKind.i64),Sh.bool] [.pb 0 0 0 0,.str U] [.var [.str I,.int .i64 J,.bool O]] N Q:=
  bE H0 h
theorem zBQ (N:Nat) (n1:Int) (I:ByteArray) (J:Int) (O:Bool) (Q:QT [(Sh.ag 9),Sh.str,(Sh.int IntKind.i64),Sh.bool]) (h:∀ E:Env,
rB 114 [.str (bytes [92])] I J O N (λb s n a c=>Br b (rS 118 [] s n a c (λa b c d e=>rU 115 [.str (bytes
 [58])] b c d e (λb c d e=>rA 2 124 [.j 1] b c d e (λx b c d e=>rU 115 [.str (bytes [46])] b c d e (λb c d
 e=>rA 9 125 [.dg 9 (D.ag [D.j 6,D.t a,D.t b0,D.j 0,(x.cell 0),(x.cell 1),D.j 0,D.sl none 2 [] 0,D.sl none 9 [] 0]),.j 1,.j n1] b c d e
 (λa b c d e=>zR E [.var [.str b0,.j 0,.bool false]]/\uP e (Q a b c d))))))) (rB 114 [.str (bytes [108,101,116,32])] s n a c
 (λa b c d e=>Br a (rS 118 [] b c d e (λa b c d e=>rU 115 [.str (bytes [61])] b c d e (λb c d e=>
 rA 9 125 [.dg 9 (D.ag [D.j 8,D.t a,D.t b0,D.j 0,D.j 0,D.sl none 2 [] 0,D.j 0,D.sl none 2 [] 0,D.sl none 9 [] 0]),.j 2,.j n1] b c d e (fun
 a b c d e=>zR E [.var [.str b0,.j 0,.bool false]]/\uP e (Q a b c d))))) (rB 114 [.str (bytes [114,101,99,32])] b c d e
 (λa b c d e=>Br a (rA 9 126 [.j n1] b c d e (λa b c d e=>zR E [.var [.str b0,.j 0,.bool false]]/\uP e
 (Q a b c d))) (rB 114 [.str (bytes [105,102,32])] b c d e (λa b c d e=>Br a (rA 9 125 [.dg 9 (D.ag [D.j 5,D.t b0,
 D.t b0,D.j 0,D.j 0,D.sl none 2 [] 0,D.j 0,D.sl none 2 [] 0,D.sl none 9 [] 0]),.j 3,.j n1] b c d e (λa b c d e=>zR E [.var
 [.str b0,.j 0,.bool false]]/\uP e (Q a b c d))) (rB 114 [.str (bytes [114,117,110,32])] b c d e (λa b c d e=>Br
 a (rA 9 125 [.dg 9 (D.ag [D.j 12,D.t b0,D.t b0,D.j 0,D.j 0,D.sl none 2 [] 0,D.j 0,D.sl none 2 [] 0,D.sl none 9 [] 0]),.j 1,.j n1] b c d
 e (λa b c d e=>zR E [.var [.str b0,.j 0,.bool false]]/\uP e (Q a b c d))) (rB 114 [.str (bytes [108,105,102,116,32])]
 b c d e (λa b c d e=>Br a (rA 9 125 [.dg 9 (D.ag [D.j 13,D.t b0,D.t b0,D.j 0,D.j 0,D.sl none 2 [] 0,D.j 0,D.sl none 2 []
 0,D.sl none 9 [] 0]),.j 1,.j n1] b c d e (λa b c d e=>zR E [.var [.str b0,.j 0,.bool false]]/\uP e (Q a b c
 d))) (rB 114 [.str (bytes [33])] b c d e (λa b c d e=>Br a (rA 9 125 [.dg 9 (D.ag [D.j 4,D.t (bytes [33]),D.t b0,D.j 0,
 D.j 0,D.sl none 2 [] 0,D.j 0,D.sl none 2 [] 0,D.sl none 9 [] 0]),.j 1,.j n1] b c d e (λa b c d e=>zR E [.var [.str b0,.j
 0,.bool false]]/\uP e (Q a b c d))) (rA 9 103 [.j n1] b c d e (λa b c d e=>rA 9 127 [.dg 9 a,.j n1] b c
 d e (λa b c d e=>zR E [.var [.str b0,.j 0,.bool false]]/\uP e (Q a b c d)))))))))))))))))):BCalls prog 116 [(Sh.ag 9),Sh.str,(Sh.int IntKind.i64),Sh.bool] [.pb 0 0 0 0,.int .i64 n1] [.var [.str I,.int .i64 J,.bool O]] N Q:=
  bE zFo h
theorem pC (N:Nat) (sB0_0:ByteArray) (nB0_1:Int) (bB0_2:Bool) (Q:QT [(Sh.ag 9),Sh.str,(Sh.int IntKind.i64),Sh.bool]) (h:∀ E:Env,
rS 118 [] sB0_0 nB0_1 bB0_2 N (fun s a n b c=>kIB 128 [.str s] c (fun c d e=>Br b (kA 9 85 [.j c] e (fun x b=>zR E [.var
 [.str b0,.j 0,.bool false]]/\uP b (Q x a n true))) (kA 9 85 [.j c] e (fun b c=>zR E [.var [.str b0,.j 0,.bool false]]/\uP c (Q b a n
 (!d))))))):BCalls prog 117 [(Sh.ag 9),Sh.str,(Sh.int IntKind.i64),Sh.bool] [.pb 0 0 0 0] [.var [.str sB0_0,.int .i64 nB0_1,.bool bB0_2]] N Q:=
  bE H0 h
theorem zBp (N:Nat) (J:ByteArray) (I:Int) (O:Bool) (Q:QT [Sh.str,Sh.str,(Sh.int IntKind.i64),Sh.bool]) (h:∀ E:Env,
yI E Q N I J I O N):BCalls prog 118 [Sh.str,Sh.str,(Sh.int IntKind.i64),Sh.bool] [.pb 0 0 0 0] [.var [.str J,.int .i64 I,.bool O]] N Q:=
 bE qf h
theorem tn (N:Nat) (n1:Int) (I:ByteArray) (J:Int) (O:Bool) (Q:QT [(Sh.ag 2),Sh.str,(Sh.int IntKind.i64),Sh.bool]) (h:∀ E:Env,
Br O (zR E [.var [.str b0,.j 0,.bool false]]/\uP N (Q (D.ag [D.j 0,D.sl none 2 [] 0]) I J true)) (Br (decide (n1>8)) (zR E
 [.var [.str b0,.j 0,.bool false]]/\uP N (Q (D.ag [D.j 0,D.sl none 2 [] 0]) I J (decide (n1>8)))) (rB 114 [.str (bytes [73])] I J (decide
 (n1>8)) N (λb s n c d=>Br b (kA 2 52 [] d (λx a=>zR E [.var [.str b0,.j 0,.bool false]]/\uP a (Q x s n c))) (rB 114 [.str (bytes [66])]
 s n c d (λb c d e f=>Br b (kA 2 53 [] f (λa b=>zR E [.var [.str b0,.j 0,.bool false]]/\uP b (Q a c d e))) (rB 114
 [.str (bytes [60])] c d e f (λb c d e f=>Br b (rA 2 124 [.j (IntKind.i64.wrap (n1+1))] c d e f (λb c d e f=>rU
 115 [.str (bytes [62])] c d e f (λc d e f=>w5 (1=([b]).length/\1=1) (∀ a g,f<=g->Fresh N g a [D.ag [b]]->zR E [.var
 [.str b0,.j 0,.bool false]]/\uP g (Q (D.ag [D.j 4,D.sl a 2 [b] 1]) c d e))))) (rU 115 [.str (bytes [40])] c d e f (λa b c d=>
 Br c (zR E [.var [.str b0,.j 0,.bool false]]/\uP d (Q (D.ag [D.j 0,D.sl none 2 [] 0]) a b c)) (rA 2 124 [.j (IntKind.i64.wrap (n1+1))] a b
 c d (λa b c d e=>rU 115 [.str (bytes [62])] b c d e (λb c d e=>Br d (zR E [.var [.str b0,.j 0,.bool false]]/\uP
 e (Q (D.ag [D.j 0,D.sl none 2 [] 0]) b c d)) (rA 2 124 [.j (IntKind.i64.wrap (n1+1))] b c d e (λb c d e f=>rU 115 [.str
 (bytes [41])] c d e f (λc d e f=>w3 (2=([a,b]).length/\2=2) (∀ g h,f<=h->Fresh N h g [D.ag [a,b]]->zR E
 [.var [.str b0,.j 0,.bool false]]/\uP h (Q (D.ag [D.j 3,D.sl g 2 [a,b] 2]) c d e)))))))))))))))))):BCalls prog 124 [(Sh.ag 2),Sh.str,(Sh.int IntKind.i64),Sh.bool] [.pb 0 0 0 0,.int .i64 n1] [.var [.str I,.int .i64 J,.bool O]] N Q:=
  bE H0 h
theorem zBg (N:Nat) (U:D) (Y n3:Int) (I:ByteArray) (J:Int) (O:Bool) (Q:QT [(Sh.ag 9),Sh.str,(Sh.int IntKind.i64),Sh.bool]) (h:∀ E:Env,
Bel N U->sa E Q N Y n3 0 I J O U 0 b0 b0 0 0 none [] 0 0 none [] 0 none [] 0 N):BCalls prog 125 [(Sh.ag 9),Sh.str,(Sh.int IntKind.i64),Sh.bool] [.pb 0 0 0 0,.dg 9 U,.int .i64 Y,.int .i64 n3] [.var [.str I,.int .i64 J,.bool O]] N Q:=
 bE tI h
theorem zCY (N:Nat) (n1:Int) (I:ByteArray) (J:Int) (O:Bool) (Q:QT [(Sh.ag 9),Sh.str,(Sh.int IntKind.i64),Sh.bool]) (h:∀ E:Env,
rS 118 [] I J O N (λs a n b c=>rU 115 [.str (bytes [32])] a n b c (λa b c d=>rS 118 [] a b c d (fun
 a b c d e=>rU 115 [.str (bytes [58])] b c d e (λb c d e=>rA 2 124 [.j 1] b c d e (λx b c d e=>rU 115 [.str
 (bytes [62])] b c d e (λb c d e=>rA 2 124 [.j 1] b c d e (λb c d e f=>rU 115 [.str (bytes [46])] c d e f
 (λc d e f=>rA 9 125 [.dg 9 (D.ag [D.j 9,D.t s,D.t a,D.j 0,(x.cell 0),(x.cell 1),(b.cell 0),(b.cell 1),D.sl none 9 [] 0]),.j 1,.j
 n1] c d e f (λa b c d e=>zR E [.var [.str b0,.j 0,.bool false]]/\uP e (Q a b c d))))))))))):BCalls prog 126 [(Sh.ag 9),Sh.str,(Sh.int IntKind.i64),Sh.bool] [.pb 0 0 0 0,.int .i64 n1] [.var [.str I,.int .i64 J,.bool O]] N Q:=
  bE zGg h
theorem zBl (N:Nat) (I:D) (Y:Int) (J:ByteArray) (O:Int) (U:Bool) (Q:QT [(Sh.ag 9),Sh.str,(Sh.int IntKind.i64),Sh.bool]) (h:∀ E:Env,
Bel N I->rB 114 [.str (bytes [32])] J O U N (λb s n c d=>Br b (w4 (1=([I]).length/\1=1) (∀ a b,d<=b->Fresh N
 b a [D.ag [I]]->rA 9 125 [.dg 9 (D.ag [D.j 7,D.t b0,D.t b0,D.j 0,D.j 0,D.sl none 2 [] 0,D.j 0,D.sl none 2 [] 0,D.sl a 9 [I] 1]),.j 1,.j Y] s n
 c b (λx a b c d=>zR E [.var [.str b0,.j 0,.bool false]]/\uP d (Q x a b c)))) (Br c (w5 (1=([I]).length/\1=1) (∀ a b,d <=
 b->Fresh N b a [D.ag [I],D.sl none 2 [] 0,D.sl none 2 [] 0]->zR E [.var [.str b0,.j 0,.bool false]]/\∀ c,b<=c->Q (D.ag [D.j 7,D.t b0,D.t
 b0,D.j 0,D.j 0,D.sl none 2 [] 0,D.j 0,D.sl none 2 [] 0,D.sl a 9 [I] 1]) s n true c)) (Br (decide (n≥(s.size:Int))) (w5 (1=([I]).length/\1=1)
 (∀ a b,d<=b->Fresh N b a [D.ag [I],D.sl none 2 [] 0,D.sl none 2 [] 0]->zR E [.var [.str b0,.j 0,.bool false]]/\∀ c,b<=c->Q (D.ag
 [D.j 7,D.t b0,D.t b0,D.j 0,D.j 0,D.sl none 2 [] 0,D.j 0,D.sl none 2 [] 0,D.sl a 9 [I] 1]) s n true c)) ((0<=n/\n<=IntKind.i64.wrap (n+1) /\
 IntKind.i64.wrap (n+1)<=(s.size:Int))/\kI 102 [.str (ByteArray.extract s n.toNat (IntKind.i64.wrap (n+1)).toNat)] d (λa b=>Br (bne a 2) (w5
 (1=([I]).length/\1=1) (∀ a c,b<=c->Fresh N c a [D.ag [I],D.sl none 2 [] 0,D.sl none 2 [] 0]->zR E [.var [.str b0,.j 0,.bool false]]
 /\ ∀ b,c<=b->Q (D.ag [D.j 7,D.t b0,D.t b0,D.j 0,D.j 0,D.sl none 2 [] 0,D.j 0,D.sl none 2 [] 0,D.sl a 9 [I] 1]) s n true b)) ((0<=n/\n <=
 IntKind.i64.wrap (n+1)/\IntKind.i64.wrap (n+1)<=(s.size:Int))/\w4 (1=([I]).length/\1=1) (∀ a c,b<=c->Fresh N c a [D.ag [I]]->rA
 9 125 [.dg 9 (D.ag [D.j 4,D.t (ByteArray.extract s n.toNat (IntKind.i64.wrap (n+1)).toNat),D.t b0,D.j 0,D.j 0,D.sl none 2 [] 0,D.j 0,D.sl none 2 [] 0,
 D.sl a 9 [I] 1]),.j 1,.j Y] s (IntKind.i64.wrap (n+1)) (decide (n≥(s.size:Int))) c (λa b c d e=>zR E [.var [.str b0,.j 0,.bool
 false]]/\uP e (Q a b c d)))))))))):BCalls prog 127 [(Sh.ag 9),Sh.str,(Sh.int IntKind.i64),Sh.bool] [.pb 0 0 0 0,.dg 9 I,.int .i64 Y] [.var [.str J,.int .i64 O,.bool U]] N Q:=
  bE zE7 h
theorem si (E:Env) (Q:QT [Sh.str,Sh.str,(Sh.int IntKind.i64),Sh.bool]) (N0:Nat) (n3:Int) (s0_0:ByteArray) (n0_1:Int) (b0_2:Bool) (N:Nat) (h :
Br (decide (n0_1<(s0_0.size:Int))) ((0<=n0_1/\n0_1<(s0_0.size:Int))/\Br (decide ((UInt8.toNat (Array.getD (ByteArray.data s0_0) n0_1.toNat
 (OfNat.ofNat 0)):Int)≥48)) ((0<=n0_1/\n0_1<(s0_0.size:Int))/\Br (decide ((UInt8.toNat (Array.getD (ByteArray.data s0_0) n0_1.toNat (OfNat.ofNat 0)) :
 Int)<=57)) (yI E Q N0 n3 s0_0 (IntKind.i64.wrap (n0_1+1)) b0_2 N) ((0<=n0_1/\n0_1<(s0_0.size:Int))/\Br (decide ((UInt8.toNat (Array.getD
 (ByteArray.data s0_0) n0_1.toNat (OfNat.ofNat 0)):Int)≥97)) ((0<=n0_1/\n0_1<(s0_0.size:Int))/\Br (decide ((UInt8.toNat (Array.getD (ByteArray.data
 s0_0) n0_1.toNat (OfNat.ofNat 0)):Int)<=122)) (yI E Q N0 n3 s0_0 (IntKind.i64.wrap (n0_1+1)) b0_2 N) ((0<=n3/\n3<=n0_1/\n0_1<=(s0_0.size
 : Int))/\zR E [.var [.str b0,.j 0,.bool false]]/\uP N (Q (ByteArray.extract s0_0 n3.toNat n0_1.toNat) s0_0 n0_1 b0_2))) ((0<=n3/\n3<=n0_1/\n0_1 <=
 (s0_0.size:Int))/\zR E [.var [.str b0,.j 0,.bool false]]/\uP N (Q (ByteArray.extract s0_0 n3.toNat n0_1.toNat) s0_0 n0_1 b0_2)))) ((0<=n0_1/\n0_1 <
 (s0_0.size:Int))/\Br (decide ((UInt8.toNat (Array.getD (ByteArray.data s0_0) n0_1.toNat (OfNat.ofNat 0)):Int)≥97)) ((0<=n0_1/\n0_1<(s0_0.size:Int))
 /\ Br (decide ((UInt8.toNat (Array.getD (ByteArray.data s0_0) n0_1.toNat (OfNat.ofNat 0)):Int)<=122)) (yI E Q N0 n3 s0_0 (IntKind.i64.wrap (n0_1
 + 1)) b0_2 N) ((0<=n3/\n3<=n0_1/\n0_1<=(s0_0.size:Int))/\zR E [.var [.str b0,.j 0,.bool false]]/\uP N (Q (ByteArray.extract s0_0 n3.toNat
 n0_1.toNat) s0_0 n0_1 b0_2))) ((0<=n3/\n3<=n0_1/\n0_1<=(s0_0.size:Int))/\zR E [.var [.str b0,.j 0,.bool false]]/\uP N (Q (ByteArray.extract s0_0
 n3.toNat n0_1.toNat) s0_0 n0_1 b0_2)))) ((0<=n3/\n3<=n0_1/\n0_1<=(s0_0.size:Int))/\zR E [.var [.str b0,.j 0,.bool false]]/\uP N (Q
 (ByteArray.extract s0_0 n3.toNat n0_1.toNat) s0_0 n0_1 b0_2))):yI E Q N0 n3 s0_0 n0_1 b0_2 N:=
  hE qf h
theorem zCd (E:Env) (Q:QT [(Sh.ag 9),Sh.str,(Sh.int IntKind.i64),Sh.bool]) (N0:Nat) (n2 n3 n9:Int) (O:ByteArray) (U:Int) (J:Bool) (I:D) (Y:Int) (aa ab:ByteArray) (ac ae:Int) (ah:Option Addr) (ai:List D) (aj:Nat) (ak:Int) (al:Option Addr) (am:List D) (ao:Nat) (aq:Option Addr) (au:List D) (aw:Nat) (N:Nat) (h :
Br (decide (n9<n2)) (Br (!J) (Br (decide (n9>0)) (rU 115 [.str (bytes [32])] O U J N (λs n b d=>∃ a e,∃ c:Nat,(I.cell 8)=D.sl
 a 9 e c/\rA 9 103 [.j n3] s n b d (λx b d f g=>zLT a e c [x]/\zA e [x] 136/\∀ (a:Nat),zX E Q N0 n2 n3
 (IntKind.i64.wrap (n9+1)) b d f (I.cell 0) (I.cell 1) (I.cell 2) (I.cell 3) (I.cell 4) (I.cell 5) (I.cell 6) (I.cell 7) (e++[x]).length a
 Y aa ab ac ae ah ai aj ak al am ao aq au aw (e++[x]) a g))) (∃ a b,∃ c:Nat,(I.cell 8)=D.sl a 9 b c /\
 rA 9 103 [.j n3] O U J N (λd e f g h=>zLT a b c [d]/\zA b [d] 136/\∀ (a:Nat),zX E Q N0 n2 n3
 (IntKind.i64.wrap (n9+1)) e f g (I.cell 0) (I.cell 1) (I.cell 2) (I.cell 3) (I.cell 4) (I.cell 5) (I.cell 6) (I.cell 7) (b++[d]).length
 a Y aa ab ac ae ah ai aj ak al am ao aq au aw (b++[d]) a h))) (rU 115 [.str (bytes [41])] O U J N (λa
 b c d=>zR E [.var [.str b0,.j 0,.bool false]]/\uP d (Q I a b c)))) (rU 115 [.str (bytes [41])] O U J N (λa b c d=>zR
 E [.var [.str b0,.j 0,.bool false]]/\uP d (Q I a b c)))):sa E Q N0 n2 n3 n9 O U J I Y aa ab ac ae ah ai aj ak al am ao aq au aw N:=
  hE tI h
theorem uI (E:Env) (Q:QT [(Sh.ag 9),Sh.str,(Sh.int IntKind.i64),Sh.bool]) (N0:Nat) (n2 n3 n9:Int) (s0_0:ByteArray) (n0_1:Int) (b0_2:Bool) (x1_0 x1_1 x1_2 x1_3 x1_4 x1_5 x1_6 x1_7:D) (m1_8 c1_8:Nat) (n2_0:Int) (s2_1 s2_2:ByteArray) (n2_3 n2_4:Int) (a2_5:Option Addr) (e2_5:List D) (c2_5:Nat) (n2_6:Int) (a2_7:Option Addr) (e2_7:List D) (c2_7:Nat) (a2_8:Option Addr) (e2_8:List D) (c2_8:Nat) (r3:List D) (q3:Nat) (N:Nat) (h :
Br (decide (n9<n2)) (Br (!b0_2) (Br (decide (n9>0)) (rU 115 [.str (bytes [32])] s0_0 n0_1 b0_2 N (fun s n b a=>rA 9 103 [.j n3] s n b a (fun x a
 b d e=>(m1_8=r3.length/\c1_8=q3)/\zA r3 [x] 136/\∀ (c:Nat),zX E Q N0 n2 n3 (IntKind.i64.wrap (n9+1)) a b d x1_0
 x1_1 x1_2 x1_3 x1_4 x1_5 x1_6 x1_7 (r3++[x]).length c n2_0 s2_1 s2_2 n2_3 n2_4 a2_5 e2_5 c2_5 n2_6 a2_7 e2_7 c2_7 a2_8 e2_8 c2_8 (r3++[x]) c e))) (rA 9 103
 [.j n3] s0_0 n0_1 b0_2 N (fun a b c d e=>(m1_8=r3.length/\c1_8=q3)/\zA r3 [a] 136/\∀ (f:Nat),zX E Q N0 n2 n3
 (IntKind.i64.wrap (n9+1)) b c d x1_0 x1_1 x1_2 x1_3 x1_4 x1_5 x1_6 x1_7 (r3++[a]).length f n2_0 s2_1 s2_2 n2_3 n2_4 a2_5 e2_5 c2_5 n2_6 a2_7 e2_7
 c2_7 a2_8 e2_8 c2_8 (r3++[a]) f e))) (rU 115 [.str (bytes [41])] s0_0 n0_1 b0_2 N (fun b c d e=>w3 (m1_8=r3.length/\c1_8=q3) (∀ a f,e <=
 f->Fresh N0 f a [D.ag r3,x1_0,x1_1,x1_2,x1_3,x1_4,x1_5,x1_6,x1_7]->zR E [.var [.str b0,.j 0,.bool false]]/\uP f (Q (D.ag [x1_0,x1_1,x1_2,
 x1_3,x1_4,x1_5,x1_6,x1_7,D.sl a 9 r3 q3]) b c d))))) (rU 115 [.str (bytes [41])] s0_0 n0_1 b0_2 N (fun a b c d=>w3 (m1_8=r3.length/\c1_8
 = q3) (∀ e f,d<=f->Fresh N0 f e [D.ag r3,x1_0,x1_1,x1_2,x1_3,x1_4,x1_5,x1_6,x1_7]->zR E [.var [.str b0,.j 0,.bool false]]/\uP f
 (Q (D.ag [x1_0,x1_1,x1_2,x1_3,x1_4,x1_5,x1_6,x1_7,D.sl e 9 r3 q3]) a b c))))):zX E Q N0 n2 n3 n9 s0_0 n0_1 b0_2 x1_0 x1_1 x1_2 x1_3 x1_4 x1_5 x1_6 x1_7 m1_8 c1_8 n2_0 s2_1 s2_2 n2_3 n2_4 a2_5 e2_5 c2_5 n2_6 a2_7 e2_7 c2_7 a2_8 e2_8 c2_8 r3 q3 N:=
  hE tI h
end Go.Proofs.YtnmnahkkcfghjaaGreat
