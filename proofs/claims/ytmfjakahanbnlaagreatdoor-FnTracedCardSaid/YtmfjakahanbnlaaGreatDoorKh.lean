/- Printed by gen.py: what the functions come to. -/
import Derived.Test.YtmfjakahanbnlaaGreatDoorJh
set_option linter.unusedVariables false
set_option maxRecDepth 100000
namespace Go.Proofs.YtmfjakahanbnlaaGreatDoor
open Go Go.Proofs Go.Proofs.Tryz
def zFO:Hint:=⟨[],[],[]⟩
def zDK:Hint:=⟨[],[],[]⟩
def pN:Hint:=⟨[hc 5 [1,2,4,5,15,16,17]],[],[(11,[en 0,en 1,en 2,en 3,en 4,en 5,en 6,en 7,eh 8,en 9,en 10,en 11,en 12,en 13])]⟩
def zJt:Hint:=⟨[],[],[]⟩
def zFY:Hint:=⟨[],[],[]⟩
def zF4:Hint:=⟨[],[],[]⟩
def zIN:Hint:=⟨[],[],[]⟩
def zNL:Hint:=⟨[],[],[]⟩
def zKS:Hint:=⟨[],[],[(6,hs 8 [ec 1 [25]]),(11,hs 10 [ec 7 [42]]),(15,[en 0,en 1,en 2,en 3,en 4,en 5,en 6,en 7,en 8,en 9,ec 10 [53,59],eh 11,en 12]),(17,[en 0,en 1,en 2,en 3,en 4,en 5,en 6,en 8,en 9,en 10,en 11,en 12,en 13,ec 7 [66,69],ec 14 [70,76],eh 15,en 16]),(19,[en 0,en 1,en 2,en 3,en 4,en 5,en 6,ec 7 [83,86],eh 8,en 9]),(21,hs 8 [ec 1 [91]]),(25,hs 8 [ec 1 [100]])]⟩
def zE5:Hint:=⟨[],[],[]⟩
def zAE:Hint:=⟨[hc 11 [1,2,3,6,54,55,56]],[],[(3,hs 3 [ec 1 [31]]),(4,hs 9 [ec 2 [36]]),(5,hs 8 [ec 3 [40]]),(6,hs 8 [ec 1 [46]]),(13,[en 0,en 1,en 2,en 4,en 10,ec 3 [63],ec 5 [62],en 6,en 7,en 8,en 9,eh 11,en 12,en 13]),(15,hs 4 [ec 1 [72]])]⟩
def zD3:Hint:=⟨[hc 7 [1,2,32,33]],[],[(1,hs 2 [ec 1 [11]]),(4,hs 13 [ec 4 [21]]),(5,hs 7 [ec 3 [26]]),(6,hs 3 [ec 1 [31]]),(9,hs 6 [ec 5 [40]]),(10,hs 12 [ec 5 [47]]),(11,hs 4 [ec 1 [51]]),(15,hs 6 [ec 1 [61]])]⟩
def zES:Hint:=⟨[],[],[(1,hs 8 [ec 5 [8]]),(3,hs 7 [ec 4 [16]])]⟩
def zIM:Hint:=⟨[],[],[(1,hs 13 [ec 10 [13]]),(3,hs 6 [ec 1 [18],ec 2 [19],ec 3 [20]])]⟩
def zEt:Hint:=⟨[],[],[(6,hs 3 [ec 1 [10]]),(8,hs 10 [ec 1 [14],ec 7 [20]])]⟩
def p8:Hint:=⟨[],[],[(1,hs 9 [ec 2 [5],ec 6 [9]])]⟩
def qq:Hint:=⟨[],[],[]⟩
def pI:Hint:=⟨[hc 4 [1,2,3,15,16,17]],[],[(1,hs 5 [ec 3 [10]]),(6,[en 0,en 1,en 2,en 4,ec 3 [22],ec 5 [21],en 6])]⟩
def yQ (Q:QT [.ag 9,.bool]) (N0:Nat) (n4:Int) (m5 c5:Nat) (ao:Option Addr) (aq:List D) (au:Nat) (aw ax:Int) (y0:D) (I:Int) (J O:ByteArray) (U Y:Int) (aa:Option Addr) (ab:List D) (ac:Nat) (ae:Int) (ah:Option Addr) (ai:List D) (aj:Nat) (ak:Option Addr) (al:List D) (am:Nat) (r2:List D) (q2:Nat) (N:Nat):Prop:=AT prog 227 [.ag 9,.bool] Q N0 .ord (zC prog 227 5) ⟨an 1 (.pb 0 0 0 0::.pb 1 0 0 0::an 1 (.int .i64 n4::.sb 2 0 0 m5 c5::an 9 (.sv ao 9 aq au::.int .i64 aw::.int .i64 ax::an 33 []))),[.vd y0 9,.var [.int .i64 I,.str J,.str O,.int .i64 U,.int .i64 Y,.sv aa 2 ab ac,.int .i64 ae,.sv ah 2 ai aj,.sv ak 9 al am],.arr 3 0 r2 q2],N,none⟩
def vo (Q:QT [.ag 9,.int .i64]) (N0:Nat) (ao aq:Int) (y0:D) (I:Int) (J O:ByteArray) (U Y:Int) (aa:Option Addr) (ab:List D) (ac:Nat) (ae:Int) (ah:Option Addr) (ai:List D) (aj:Nat) (ak:Option Addr) (al:List D) (am:Nat) (N:Nat):Prop:=AT prog 104 [.ag 9,.int .i64] Q N0 .ord (zC prog 104 7) ⟨an 1 (.pb 0 0 0 0::.pb 1 0 0 0::an 29 (.int .i64 ao::.int .i64 aq::an 31 [])),[.vd y0 9,.var [.int .i64 I,.str J,.str O,.int .i64 U,.int .i64 Y,.sv aa 2 ab ac,.int .i64 ae,.sv ah 2 ai aj,.sv ak 9 al am]],N,none⟩
def yR (Q:QT [.ag 9,.int .i64,.bool]) (N0:Nat) (n1:Int) (ao:Option Addr) (aq:List D) (au:Nat) (aw ax:Int) (y0:D) (I:Int) (J O:ByteArray) (U Y:Int) (aa:Option Addr) (ab:List D) (ac:Nat) (ae:Int) (ah:Option Addr) (ai:List D) (aj:Nat) (ak:Option Addr) (al:List D) (am:Nat) (N:Nat):Prop:=AT prog 163 [.ag 9,.int .i64,.bool] Q N0 .ord (zC prog 163 11) ⟨an 1 (.int .i64 n1::.fn 104 []::.pb 0 0 0 0::an 2 (.pb 1 0 0 0::an 47 (.sv ao 9 aq au::.int .i64 aw::.int .i64 ax::an 26 []))),[.vd y0 9,.var [.int .i64 I,.str J,.str O,.int .i64 U,.int .i64 Y,.sv aa 2 ab ac,.int .i64 ae,.sv ah 2 ai aj,.sv ak 9 al am]],N,none⟩
def xo (Q:QT [.bool]) (N0:Nat) (n1:Int) (I:Option Addr) (J:List D) (O:Nat) (U Y:Int) (y0:D) (N:Nat):Prop:=AT prog 161 [.bool] Q N0 .ord (zC prog 161 4) ⟨an 1 (.int .i64 n1::.fn 254 []::.pb 0 0 0 0::an 11 (.sv I 9 J O::.int .i64 U::.int .i64 Y::an 11 [])),[.vd y0 9],N,none⟩
theorem zEg (N:Nat) (I:ByteArray) (Q:QT [.bool]) (h :
Br (ByteArray.toList I==ByteArray.toList (bytes [38])) (∀ a,N<=a->Q true a) (Br (ByteArray.toList I==ByteArray.toList (bytes [124])) (∀ a,N<=a
 -> Q true a) (∀ a,N<=a->Q (ByteArray.toList I==ByteArray.toList (bytes [33])) a))):ACalls prog 267 [.bool] [PV.str I] N Q:=
  eE (H:=zFO) (by kernel_rfl) (by kernel_rfl) h
theorem zCx (N:Nat) (s0:ByteArray) (Q:QT [.bool]) (h :
∀ a,N<=a->ACalls prog 267 [.bool] [.str s0] a (fun b c=>a<=c->Br b (∀ a,c<=a->Q true a) (Br (ByteArray.toList s0==ByteArray.toList
 (bytes [61])) (∀ a,c<=a->Q true a) (∀ a,c<=a->Q (ByteArray.toList s0==ByteArray.toList (bytes [60])) a)))):ACalls prog 270 [.bool] [PV.str s0] N Q:=
  eE (H:=zDK) (by kernel_rfl) (by kernel_rfl) h
theorem zGJ (N:Nat) (I:D) (Q:QT [.ag 9,.bool]) (h :
Bel N I->∃ s,(I.cell 1)=D.lit (.string s)/\∀ d,N<=d->ACalls prog 267 [.bool] [.str s] d (λb e=>d<=e->Br b (∃ a b,∃ c:Nat,(I.cell
 8)=D.sl a 9 b c/\yQ Q N 3 2 2 a b c (b.length:Int) 0 I 0 (bytes []) (bytes []) 0 0 Option.none [] 0 0 Option.none [] 0 Option.none [] 0 [D.lit
 (.int .i64 0),D.lit (.int .i64 0)] 2 e) (∃ a b,∃ c:Nat,(I.cell 8)=D.sl a 9 b c/\yQ Q N 2 2 2 a b c (b.length:Int)
 0 I 0 (bytes []) (bytes []) 0 0 Option.none [] 0 0 Option.none [] 0 Option.none [] 0 [D.lit (.int .i64 0),D.lit (.int .i64 0)] 2 e))):ACalls prog 227 [.ag 9,.bool] [PV.dg 9 I] N Q:=
  eE (H:=pN) (by kernel_rfl) (by kernel_rfl) h
theorem zI2 (N:Nat) (n0:Int) (Q:QT [.ag 9]) (h :
∀ a,N<=a->Q (D.ag [D.lit (.int .i64 2),D.lit (.string (bytes [])),D.lit (.string (bytes [])),D.lit (.int .i64 n0),D.lit (.int .i64 0),D.sl Option.none
 2 [] 0,D.lit (.int .i64 0),D.sl Option.none 2 [] 0,D.sl Option.none 9 [] 0]) a):ACalls prog 292 [.ag 9] [PV.int .i64 n0] N Q:=
  eE (H:=zJt) (by kernel_rfl) (by kernel_rfl) h
theorem zGA (N:Nat) (n0:Int) (I:Bool) (Q:QT [.ag 9]) (h :
Br I (∀ a,N<=a->Q (D.ag [D.lit (.int .i64 3),D.lit (.string (bytes [])),D.lit (.string (bytes [])),D.lit (.int .i64 n0),D.lit (.int .i64 0),D.sl Option.none
 2 [] 0,D.lit (.int .i64 0),D.sl Option.none 2 [] 0,D.sl Option.none 9 [] 0]) a) (∀ a,N<=a->ACalls prog 292 [.ag 9] [.int .i64 n0] a (λx b=>a
 <= b->Bel b x->∀ a,b<=a->Q x a))):ACalls prog 269 [.ag 9] [PV.int .i64 n0,PV.bool I] N Q:=
  eE (H:=zFY) (by kernel_rfl) (by kernel_rfl) h
theorem zFc (N:Nat) (I:ByteArray) (n1 J:Int) (Q:QT [.int .i64,.bool]) (h :
∀ a,N<=a->ACalls prog 238 [.bool] [.int .i64 n1] a (λb c=>a<=c->Br (!b) (∀ a,c<=a->Q 0 false a) (∀ a,c<=a->ACalls prog
 238 [.bool] [.int .i64 J] a (λb c=>a<=c->Br (!b) (∀ a,c<=a->Q 0 false a) (Br (ByteArray.toList I==ByteArray.toList (bytes [43]))
 (∀ a,c<=a->ACalls prog 291 [.int .i64] [.int .i64 (IntKind.i64.wrap (n1+J))] a (λn b=>a<=b->∀ a,b<=a->Q n true a)) (Br (ByteArray.toList
 I==ByteArray.toList (bytes [45])) (∀ a,c<=a->ACalls prog 291 [.int .i64] [.int .i64 (IntKind.i64.wrap (n1 - J))] a (λb c=>a<=c
 -> ∀ a,c<=a->Q b true a)) (Br (ByteArray.toList I==ByteArray.toList (bytes [42])) (∀ a,c<=a->ACalls prog 291 [.int .i64] [.int .i64
 (IntKind.i64.wrap (n1*J))] a (λb c=>a<=c->∀ a,c<=a->Q b true a)) (Br (ByteArray.toList I==ByteArray.toList (bytes [61]))
 (∀ a,c<=a->ACalls prog 94 [.int .i64] [.bool (n1==J)] a (λb c=>a<=c->∀ a,c<=a->Q b true a)) (Br (ByteArray.toList
 I==ByteArray.toList (bytes [60])) (∀ a,c<=a->ACalls prog 94 [.int .i64] [.bool (decide (n1<J))] a (λb c=>a<=c->∀ a,c
 <= a->Q b true a)) (Br (ByteArray.toList I==ByteArray.toList (bytes [38])) (Br (n1==1) (∀ a,c<=a->ACalls prog 94 [.int .i64] [.bool (J ==
 1)] a (λb c=>a<=c->∀ a,c<=a->Q b true a)) (∀ a,c<=a->ACalls prog 94 [.int .i64] [.bool false] a (λb c
 => a<=c->∀ a,c<=a->Q b true a))) (Br (ByteArray.toList I==ByteArray.toList (bytes [124])) (Br (n1==1) (∀ a,c<=a->ACalls
 prog 94 [.int .i64] [.bool true] a (λb c=>a<=c->∀ a,c<=a->Q b true a)) (∀ a,c<=a->ACalls prog 94 [.int .i64] [.bool
 (J==1)] a (λb c=>a<=c->∀ a,c<=a->Q b true a))) (Br (ByteArray.toList I==ByteArray.toList (bytes [33])) (∀ a,c <=
 a->ACalls prog 94 [.int .i64] [.bool (n1==0)] a (λb c=>a<=c->∀ a,c<=a->Q b true a)) (∀ a,c<=a->Q 0 false a)))))))))))) 
 ):ACalls prog 268 [.int .i64,.bool] [PV.str I,PV.int .i64 n1,PV.int .i64 J] N Q:=
  eE (H:=zF4) (by kernel_rfl) (by kernel_rfl) h
theorem zIn (N:Nat) (n0:Int) (Q:QT [.int .i64]) (h :
(10007:Int)≠(0:Int)/\(10007:Int)≠(0:Int)/\∀ a,N<=a->Q (Int.tmod (IntKind.i64.wrap (Int.tmod n0 10007+10007)) 10007) a):ACalls prog 291 [.int .i64] [PV.int .i64 n0] N Q:=
 eE (H:=zIN) (by kernel_rfl) (by kernel_rfl) h
theorem zMl (N:Nat) (b0:Bool) (Q:QT [.int .i64]) (h :
Br b0 (∀ a,N<=a->Q 1 a) (∀ a,N<=a->Q 0 a)):ACalls prog 94 [.int .i64] [PV.bool b0] N Q:=
 eE (H:=zNL) (by kernel_rfl) (by kernel_rfl) h
theorem zJX (N:Nat) (x0:D) (Q:QT [.ag 9,.int .i64]) (h :
Bel N x0->∃ a d,∃ c:Nat,(x0.cell 8)=D.sl a 9 d c/\Br (decide ((d.length:Int)>0)) (∃ a c,∃ d:Nat,(x0.cell 8)=D.sl a 9 c d/\((0
 : Int)<=(0:Int)/\0<(c.length:Int))/\∃ n:Int,(x0.cell 0)=D.lit (.int .i64 n)/\Br (n==4) (∀ a,N<=a->ACalls prog 227 [.ag 9,.bool] [.dg
 9 x0] a (fun x b c=>a<=c->Bel c x->Br b (∀ a,c<=a->Q x 1 a) (∀ a,c<=a->Q x0 0 a))) (Br (n==5) (∃ a:Int,D.cell (List.getD
 c 0 default) 0=D.lit (.int .i64 a)/\Br (a==3) (∃ a b,∃ d:Nat,(x0.cell 8)=D.sl a 9 b d/\∃ a:Int,D.cell (List.getD c 0 default)
 3=D.lit (.int .i64 a)/\(0<=IntKind.i64.wrap (2 - a)/\IntKind.i64.wrap (2 - a)<(b.length:Int))/\∀ c,N<=c->ACalls prog 101 [Sh.pk,.int .i64,
 .str,.str,.int .i64,Sh.dc,Sh.dc,Sh.dc,Sh.dc,.row (OfNat.ofNat 35) 9] [.dg 9 (List.getD b (IntKind.i64.wrap (2 - a)).toNat default)] c (fun a s b
 d e f g h i j k=>c<=k->Bel k (D.ag i)->(i.length=i.length/\j=j)/\(i.length=i.length/\j=j)/\∀ c l,
 k<=l->Fresh N l c [D.ag i,e,f,g,h]->∀ k,l<=k->Q (D.ag [D.lit (.int .i64 a),D.lit (.string s),D.lit (.string b),D.lit (.int
 .i64 d),e,f,g,h,D.sl c 9 i j]) 2 k)) (∀ a,N<=a->Q x0 0 a)) (Br (n==7) (∃ a:Int,D.cell (List.getD c 0 default) 0=D.lit
 (.int .i64 a)/\Br (a==6) (∃ a b,∃ d:Nat,D.cell (List.getD c 0 default) 8=D.sl a 9 b d/\((0:Int)<=(0:Int)/\0<(b.length :
 Int))/\∃ a,D.cell (List.getD c 0 default) 1=D.lit (.string a)/\∃ c d,∃ e:Nat,(x0.cell 8)=D.sl c 9 d e/\((0:Int)<=(1:Int) /\
 1<(d.length:Int))/\∀ c,N<=c->ACalls prog 228 [.ag 9] [.dg 9 (List.getD b 0 default),.str a,.dg 9 (List.getD d 1 default)] c (fun a
 b=>c<=b->Bel b a->∀ c,b<=c->Q a 3 c)) (Br (a==9) (∃ a b,∃ d:Nat,D.cell (List.getD c 0 default) 8=D.sl a
 9 b d/\((0:Int)<=(0:Int)/\0<(b.length:Int))/\∃ a,D.cell (List.getD c 0 default) 1=D.lit (.string a)/\∃ d,D.cell (List.getD c
 0 default) 2=D.lit (.string d)/\∃ e f,∃ g:Nat,(x0.cell 8)=D.sl e 9 f g/\((0:Int)<=(1:Int)/\1<(f.length:Int))/\∀ e,N <=
 e->ACalls prog 228 [.ag 9] [.dg 9 (List.getD b 0 default),.str a,.dg 9 (List.getD c 0 default)] e (fun a b=>e<=b->Bel b a ->
 ∀ c,b<=c->ACalls prog 228 [.ag 9] [.dg 9 a,.str d,.dg 9 (List.getD f 1 default)] c (fun a b=>c<=b->Bel b a->∀ c,
 b<=c->Q a 4 c))) (∀ a,N<=a->Q x0 0 a))) (Br (n==8) (∃ a b,∃ d:Nat,(x0.cell 8)=D.sl a 9 b d/\((0:Int)<=(1:Int)
 /\ 1<(b.length:Int))/\∃ a,(x0.cell 1)=D.lit (.string a)/\∀ d,N<=d->ACalls prog 228 [.ag 9] [.dg 9 (List.getD b 1 default),.str a,.dg
 9 (List.getD c 0 default)] d (fun a b=>d<=b->Bel b a->∀ c,b<=c->Q a 5 c)) (Br (n==12) (∀ a,N<=a->ACalls prog
 225 [.ag 9,.bool] [.dg 9 (List.getD c 0 default)] a (fun b c d=>a<=d->Bel d b->Br c (∀ a,d<=a->Q b 7 a) (∀ a,
 d<=a->Q x0 0 a))) (Br (n==13) (∀ a,N<=a->ACalls prog 229 [.ag 9,.bool] [.dg 9 (List.getD c 0 default)] a (fun b c d=>a
 <= d->Bel d b->Br c (∀ a,d<=a->Q b 8 a) (∀ a,d<=a->Q x0 0 a))) (∀ a,N<=a->Q x0 0 a))))))) (∃ a:Int,
 (x0.cell 0)=D.lit (.int .i64 a)/\Br (a==4) (∀ a,N<=a->ACalls prog 227 [.ag 9,.bool] [.dg 9 x0] a (fun b c d=>a<=d->Bel d
 b->Br c (∀ a,d<=a->Q b 1 a) (∀ a,d<=a->Q x0 0 a))) (Br (a==5) (∀ a,N<=a->Q x0 0 a) (Br (a==7) (∀ a,
 N<=a->Q x0 0 a) (Br (a==8) (∃ a b,∃ c:Nat,(x0.cell 8)=D.sl a 9 b c/\((0:Int)<=(1:Int)/\1<(b.length:Int))/\∃ a,(x0.cell
 1)=D.lit (.string a)/\∀ c,N<=c->ACalls prog 228 [.ag 9] [.dg 9 (List.getD b 1 default),.str a,.dg 9 (D.ag [D.lit (.int .i64 0),D.lit (.string
 (bytes [])),D.lit (.string (bytes [])),D.lit (.int .i64 0),D.lit (.int .i64 0),D.sl Option.none 2 [] 0,D.lit (.int .i64 0),D.sl Option.none 2 [] 0,D.sl Option.none
 9 [] 0])] c (fun a b=>c<=b->Bel b a->∀ c,b<=c->Q a 5 c)) (Br (a==12) (∀ a,N<=a->ACalls prog 225 [.ag 9,
 .bool] [.dg 9 (D.ag [D.lit (.int .i64 0),D.lit (.string (bytes [])),D.lit (.string (bytes [])),D.lit (.int .i64 0),D.lit (.int .i64 0),D.sl Option.none 2 []
 0,D.lit (.int .i64 0),D.sl Option.none 2 [] 0,D.sl Option.none 9 [] 0])] a (fun b c d=>a<=d->Bel d b->Br c (∀ a,d<=a
 -> Q b 7 a) (∀ a,d<=a->Q x0 0 a))) (Br (a==13) (∀ a,N<=a->ACalls prog 229 [.ag 9,.bool] [.dg 9 (D.ag [D.lit (.int .i64 0),D.lit
 (.string (bytes [])),D.lit (.string (bytes [])),D.lit (.int .i64 0),D.lit (.int .i64 0),D.sl Option.none 2 [] 0,D.lit (.int .i64 0),D.sl Option.none 2 [] 0,
 D.sl Option.none 9 [] 0])] a (fun b c d=>a<=d->Bel d b->Br c (∀ a,d<=a->Q b 8 a) (∀ a,d<=a->Q x0 0 a)))
 (∀ a,N<=a->Q x0 0 a)))))))):ACalls prog 166 [.ag 9,.int .i64] [PV.dg 9 x0] N Q:=
  eE (H:=zKS) (by kernel_rfl) (by kernel_rfl) h
theorem zEY (N:Nat) (x0:D) (Q:QT [.int .i64]) (h :
Bel N x0->∃ n:Int,(x0.cell 0)=D.lit (.int .i64 n)/\Br (n==4) (∃ a b,∃ c:Nat,(x0.cell 8)=D.sl a 9 b c/\∀ a,N<=a->Q (b.length:Int) a)
 (Br (n==7) (∃ a b,∃ c:Nat,(x0.cell 8)=D.sl a 9 b c/\∀ a,N<=a->Q (b.length:Int) a) (Br (n==5) (∀ a,N<=a->Q 1 a) (Br
 (n==8) (∀ a,N<=a->Q 1 a) (Br (n==12) (∀ a,N<=a->Q 1 a) (Br (n==13) (∀ a,N<=a->Q 1 a) (∀ a,N<=a->Q 0 a))))))):ACalls prog 165 [.int .i64] [PV.dg 9 x0] N Q:=
  eE (H:=zE5) (by kernel_rfl) (by kernel_rfl) h
theorem zLM (N:Nat) (I:D) (Q:QT [.ag 9,.int .i64]) (h :
Bel N I->∀ d,N<=d->ACalls prog 139 [.bool] [.dg 9 I] d (λb e=>d<=e->Br b (∀ a,e<=a->Q I 0 a) (∃ n:Int,(I.cell 0)=D.lit
 (.int .i64 n)/\Br (n==10) (∃ a b,∃ c:Nat,(I.cell 8)=D.sl a 9 b c/\((0:Int)<=(0:Int)/\0<(b.length:Int))/\∀ a,e<=a->ACalls prog 163
 [.ag 9,.int .i64,.bool] [.dg 9 (List.getD b 0 default),.int .i64 1,.fn 104 []] a (λx b _ c=>a<=c->Bel c x->(1=([x]).length/\1=1)
 /\ ∀ a,ApA a [x]->Off [a] I->∀ d,c<=d->wL d [a]->ACalls prog 164 [Sh.pk,.int .i64,.str,.str,.int .i64,Sh.dc,Sh.dc,Sh.dc,Sh.dc,Sh.bk
 1] [.dg 9 I,.sv a 9 [x] 1] d (λc s e f g h i j k l=>d<=l->k=D.sl a 9 [x] 1/\Off [a] g/\Off [a] h/\Off [a] i
 /\ Off [a] j/\(1=([x]).length/\1=1)/\(1=([x]).length/\1=1)/\(1=([x]).length/\1=1)/\∀ a d,l<=d->Fresh N d a [D.ag [x],g,h,
 i,j]->∀ k,d<=k->Q (D.ag [D.lit (.int .i64 c),D.lit (.string s),D.lit (.string e),D.lit (.int .i64 f),g,h,i,j,D.sl a 9 [x]
 1]) b k))) (∀ a,e<=a->ACalls prog 165 [.int .i64] [.dg 9 I] a (λb c=>a<=c->vo Q N b 0 I 0 (bytes []) (bytes [])
 0 0 Option.none [] 0 0 Option.none [] 0 Option.none [] 0 c))))):ACalls prog 104 [.ag 9,.int .i64] [PV.dg 9 I] N Q:=
  eE (H:=zD3) (by kernel_rfl) (by kernel_rfl) h
theorem zFN (N:Nat) (I:D) (Q:QT [.ag 9,.bool]) (h :
Bel N I->∃ n:Int,(I.cell 0)=D.lit (.int .i64 n)/\Br (bne n 10) (∀ a,N<=a->Q (D.ag [D.lit (.int .i64 0),D.lit (.string (bytes [])),D.lit (.string
 (bytes [])),D.lit (.int .i64 0),D.lit (.int .i64 0),D.sl Option.none 2 [] 0,D.lit (.int .i64 0),D.sl Option.none 2 [] 0,D.sl Option.none 9 [] 0]) false a)
 (∀ d,N<=d->ACalls prog 139 [.bool] [.dg 9 I] d (λb e=>d<=e->Br (!b) (∀ a,e<=a->Q (D.ag [D.lit (.int .i64 0),D.lit (.string (bytes
 [])),D.lit (.string (bytes [])),D.lit (.int .i64 0),D.lit (.int .i64 0),D.sl Option.none 2 [] 0,D.lit (.int .i64 0),D.sl Option.none 2 [] 0,D.sl Option.none
 9 [] 0]) false a) (∃ a b,∃ c:Nat,(I.cell 8)=D.sl a 9 b c/\((0:Int)<=(0:Int)/\0<(b.length:Int))/\∀ a,e<=a->ACalls prog 101 [Sh.pk,
 .int .i64,.str,.str,.int .i64,Sh.dc,Sh.dc,Sh.dc,Sh.dc,.row (OfNat.ofNat 35) 9] [.dg 9 (List.getD b 0 default)] a (λb s c d x e f g h
 i j=>a<=j->Bel j (D.ag h)->(h.length=h.length/\i=i)/\(h.length=h.length/\i=i)/\∀ a k,j<=k->Fresh N k
 a [D.ag h,x,e,f,g]->∀ j,k<=j->Q (D.ag [D.lit (.int .i64 b),D.lit (.string s),D.lit (.string c),D.lit (.int .i64 d),x,e,f,
 g,D.sl a 9 h i]) true j))))):ACalls prog 225 [.ag 9,.bool] [PV.dg 9 I] N Q:=
  eE (H:=zES) (by kernel_rfl) (by kernel_rfl) h
theorem zHV (N:Nat) (I:D) (Q:QT [.ag 9,.bool]) (h :
Bel N I->∃ n:Int,(I.cell 0)=D.lit (.int .i64 n)/\Br (bne n 2) (∃ d:Int,(I.cell 0)=D.lit (.int .i64 d)/\Br (bne d 3) (∀ a,N<=a->Q (D.ag
 [D.lit (.int .i64 0),D.lit (.string (bytes [])),D.lit (.string (bytes [])),D.lit (.int .i64 0),D.lit (.int .i64 0),D.sl Option.none 2 [] 0,D.lit (.int .i64
 0),D.sl Option.none 2 [] 0,D.sl Option.none 9 [] 0]) false a) (∀ d,N<=d->ACalls prog 50 [.bool] [.dg 9 I] d (λb e=>d<=e->Br (!b) (∀ a,
 e<=a->Q (D.ag [D.lit (.int .i64 0),D.lit (.string (bytes [])),D.lit (.string (bytes [])),D.lit (.int .i64 0),D.lit (.int .i64 0),D.sl Option.none 2 []
 0,D.lit (.int .i64 0),D.sl Option.none 2 [] 0,D.sl Option.none 9 [] 0]) false a) (∀ b,e<=b->ACalls prog 101 [Sh.pk,.int .i64,.str,.str,.int .i64,
 Sh.dc,Sh.dc,Sh.dc,Sh.dc,.row (OfNat.ofNat 35) 9] [.dg 9 I] b (λc s d e x f g h i j k=>b<=k->Bel k (D.ag i)->(i.length=i.length
 /\ j=j)/\∀ a b,k<=b->Fresh N b a [D.ag i]->(1=([D.ag [D.lit (.int .i64 c),D.lit (.string s),D.lit (.string d),D.lit (.int .i64 e),x,f,
 g,h,D.sl a 9 i j]]).length/\1=1)/\∀ k l,b<=l->Fresh N l k [D.ag [D.ag [D.lit (.int .i64 c),D.lit (.string s),D.lit (.string d),D.lit
 (.int .i64 e),x,f,g,h,D.sl a 9 i j]]]->∀ b,l<=b->ACalls prog 273 [.ag 9] [.int .i64 10,.sv k 9 [D.ag [D.lit (.int .i64 c),D.lit (.string
 s),D.lit (.string d),D.lit (.int .i64 e),x,f,g,h,D.sl a 9 i j]] 1] b (λa c=>b<=c->Bel c a->∀ b,c<=b->Q a
 true b)))))) (∀ a,N<=a->ACalls prog 50 [.bool] [.dg 9 I] a (λb c=>a<=c->Br (!b) (∀ a,c<=a->Q (D.ag [D.lit (.int .i64
 0),D.lit (.string (bytes [])),D.lit (.string (bytes [])),D.lit (.int .i64 0),D.lit (.int .i64 0),D.sl Option.none 2 [] 0,D.lit (.int .i64 0),D.sl Option.none
 2 [] 0,D.sl Option.none 9 [] 0]) false a) (∀ a,c<=a->ACalls prog 101 [Sh.pk,.int .i64,.str,.str,.int .i64,Sh.dc,Sh.dc,Sh.dc,Sh.dc,.row (OfNat.ofNat
 35) 9] [.dg 9 I] a (λb c d e f g h i j k l=>a<=l->Bel l (D.ag j)->(j.length=j.length/\k=k)/\∀ a
 m,l<=m->Fresh N m a [D.ag j]->(1=([D.ag [D.lit (.int .i64 b),D.lit (.string c),D.lit (.string d),D.lit (.int .i64 e),f,g,
 h,i,D.sl a 9 j k]]).length/\1=1)/\∀ l n,m<=n->Fresh N n l [D.ag [D.ag [D.lit (.int .i64 b),D.lit (.string c),D.lit (.string
 d),D.lit (.int .i64 e),f,g,h,i,D.sl a 9 j k]]]->∀ m,n<=m->ACalls prog 273 [.ag 9] [.int .i64 10,.sv l 9 [D.ag [D.lit (.int
 .i64 b),D.lit (.string c),D.lit (.string d),D.lit (.int .i64 e),f,g,h,i,D.sl a 9 j k]] 1] m (λa b=>m<=b->Bel
 b a->∀ c,b<=c->Q a true c)))))):ACalls prog 229 [.ag 9,.bool] [PV.dg 9 I] N Q:=
  eE (H:=zIM) (by kernel_rfl) (by kernel_rfl) h
theorem zE9 (N:Nat) (x0:D) (Q:QT [.bool]) (h :
Bel N x0->∃ n:Int,(x0.cell 0)=D.lit (.int .i64 n)/\Br (n==2) (∀ a,N<=a->ACalls prog 50 [.bool] [.dg 9 x0] a (fun b c=>a<=c->∀ a,c
 <= a->Q b a)) (Br (n==3) (∀ a,N<=a->ACalls prog 50 [.bool] [.dg 9 x0] a (fun b c=>a<=c->∀ a,c<=a->Q b a)) (Br (n==6) (∀
 a,N<=a->ACalls prog 50 [.bool] [.dg 9 x0] a (fun b c=>a<=c->∀ a,c<=a->Q b a)) (Br (n==9) (∀ a,N<=a->ACalls prog 50 [.bool]
 [.dg 9 x0] a (fun b c=>a<=c->∀ a,c<=a->Q b a)) (Br (n==10) (∀ b,N<=b->ACalls prog 50 [.bool] [.dg 9 x0] b (fun d
 e=>b<=e->Br d (∃ a b,∃ c:Nat,(x0.cell 8)=D.sl a 9 b c/\((0:Int)<=(0:Int)/\0<(b.length:Int))/\∀ a,e<=a->ACalls prog
 203 [.bool] [.dg 9 (List.getD b 0 default),.int .i64 1] a (fun b c=>a<=c->∀ a,c<=a->Q b a)) (∀ a,e<=a->Q false a)))
 (∀ a,N<=a->Q false a)))))):ACalls prog 139 [.bool] [PV.dg 9 x0] N Q:=
  eE (H:=zEt) (by kernel_rfl) (by kernel_rfl) h
theorem zA3 (N:Nat) (I:D) (n1:Int) (Q:QT [.bool]) (h :
Bel N I->∀ a,N<=a->ACalls prog 102 [.bool] [.dg 9 I,.int .i64 n1] a (λb c=>a<=c->Br b (∀ a,c<=a->ACalls prog 161 [.bool] [.dg
 9 I,.int .i64 n1,.fn 254 []] a (λb c=>a<=c->∀ a,c<=a->Q b a)) (∀ a,c<=a->Q false a))):ACalls prog 203 [.bool] [PV.dg 9 I,PV.int .i64 n1] N Q:=
  eE (H:=p8) (by kernel_rfl) (by kernel_rfl) h
theorem qx (N:Nat) (I:D) (n1:Int) (Q:QT [.bool]) (h :
Bel N I->∃ n:Int,(I.cell 0)=D.lit (.int .i64 n)/\Br (bne n 11) (∀ a,N<=a->Q true a) (∀ a,N<=a->Q (bne n1 1) a)):ACalls prog 254 [.bool] [PV.dg 9 I,PV.int .i64 n1] N Q:=
 eE (H:=qq) (by kernel_rfl) (by kernel_rfl) h
theorem sS (Q:QT [.ag 9,.bool]) (N0:Nat) (n4:Int) (m5 c5:Nat) (ax:Option Addr) (J:List D) (ay:Nat) (aw I:Int) (y0:D) (U:Int) (Y aa:ByteArray) (ab ac:Int) (ae:Option Addr) (ah:List D) (ai:Nat) (aj:Int) (ak:Option Addr) (al:List D) (am:Nat) (ao:Option Addr) (aq:List D) (au:Nat) (O:List D) (q2:Nat) (N:Nat) (h :
Br (decide (I<aw)) ((0<=I/\I<(J.length:Int))/\∃ n:Int,D.cell (List.getD J I.toNat default) 0=D.lit (.int .i64 n)/\Br (bne n n4) (∀ a,
 N<=a->Q (D.ag [D.lit (.int .i64 0),D.lit (.string (bytes [])),D.lit (.string (bytes [])),D.lit (.int .i64 0),D.lit (.int .i64 0),D.sl Option.none 2 [] 0,
 D.lit (.int .i64 0),D.sl Option.none 2 [] 0,D.sl Option.none 9 [] 0]) false a) (∃ a:Int,D.cell (List.getD J I.toNat default) 3=D.lit (.int .i64 a)
 /\ (0<=I/\I<(m5:Int)/\(0+I.toNat:Nat)<O.length)/\(0+I.toNat:Nat)<O.length/\yQ Q N0 n4 m5 c5 ax J ay aw (IntKind.i64.wrap
 (I+1)) y0 U Y aa ab ac ae ah ai aj ak al am ao aq au (List.set O (0+I.toNat:Nat) (D.lit (.int .i64 a))) q2 N)) (∃ s,
 (y0.cell 1)=D.lit (.string s)/\((0:Int)<=(0:Int)/\0<(m5:Int)/\0<O.length)/\0<O.length/\∃ a:Int,List.getD O 0 default=D.lit (.int .i64
 a)/\((0:Int)<=(1:Int)/\1<(m5:Int)/\1<O.length)/\1<O.length/\∃ c:Int,List.getD O 1 default=D.lit (.int .i64 c)/\∀ d,N<=d ->
 ACalls prog 268 [.int .i64,.bool] [.str s,.int .i64 a,.int .i64 c] d (λa b c=>d<=c->∃ d,(y0.cell 1)=D.lit (.string d)/\∀ e,c
 <= e->ACalls prog 270 [.bool] [.str d] e (λc d=>e<=d->∀ e,d<=e->ACalls prog 269 [.ag 9] [.int .i64 a,.bool c] e (λx a=>
 e<=a->Bel a x->∀ c,a<=c->Q x b c))))):yQ Q N0 n4 m5 c5 ax J ay aw I y0 U Y aa ab ac ae ah ai aj ak al am ao aq au O q2 N:=
  hE (H:=pN) (by kernel_rfl) h
theorem zCm (N:Nat) (I:D) (n1:Int) (Q:QT [.ag 9,.int .i64,.bool]) (h :
Bel N I->∃ n:Int,(I.cell 0)=D.lit (.int .i64 n)/\Br (n==11) (Br (n1==1) (∃ a d,∃ c:Nat,(I.cell 8)=D.sl a 9 d c/\((0:Int)<=(0:Int)/\0
 < (d.length:Int))/\∀ a,N<=a->ACalls prog 139 [.bool] [.dg 9 (List.getD d 0 default)] a (λb c=>a<=c->Br (!b) (∀ a,c<=a->ACalls
 prog 104 [.ag 9,.int .i64] [.dg 9 (List.getD d 0 default)] a (λx b c=>a<=c->Bel c x->(1=([x]).length/\1=1)/\∀ a,ApA a [x]->Off
 [a] I->∀ d,c<=d->wL d [a]->ACalls prog 164 [Sh.pk,.int .i64,.str,.str,.int .i64,Sh.dc,Sh.dc,Sh.dc,Sh.dc,Sh.bk 1] [.dg 9 I,.sv a
 9 [x] 1] d (λc s e f g h i j k l=>d<=l->k=D.sl a 9 [x] 1/\Off [a] g/\Off [a] h/\Off [a] i/\Off [a] j/\(1
 = ([x]).length/\1=1)/\(1=([x]).length/\1=1)/\(1=([x]).length/\1=1)/\∀ a d,l<=d->Fresh N d a [D.ag [x],g,h,i,j]->∀ k,
 d<=k->Q (D.ag [D.lit (.int .i64 c),D.lit (.string s),D.lit (.string e),D.lit (.int .i64 f),g,h,i,j,D.sl a 9 [x] 1]) b true k)))
 (∀ a,c<=a->ACalls prog 225 [.ag 9,.bool] [.dg 9 (List.getD d 0 default)] a (λb c d=>a<=d->Bel d b->Br c (∀ a,d<=a
 -> Q b 6 true a) (∀ a,d<=a->Q I 0 true a))))) (∃ a b,∃ c:Nat,(I.cell 8)=D.sl a 9 b c/\yR Q N n1 a b
 c (b.length:Int) 0 I 0 (bytes []) (bytes []) 0 0 Option.none [] 0 0 Option.none [] 0 Option.none [] 0 N)) (∃ a b,∃ c:Nat,(I.cell 8)=D.sl a
 9 b c/\yR Q N n1 a b c (b.length:Int) 0 I 0 (bytes []) (bytes []) 0 0 Option.none [] 0 0 Option.none [] 0 Option.none [] 0 N)):ACalls prog 163 [.ag 9,.int .i64,.bool] [.dg 9 I,.int .i64 n1,.fn 104 []] N Q:=
  eE (H:=zAE) (by kernel_rfl) (by kernel_rfl) h
theorem zAc (Q:QT [.ag 9,.int .i64]) (N0:Nat) (aq I:Int) (y0:D) (J:Int) (O U:ByteArray) (Y aa:Int) (ab:Option Addr) (ac:List D) (ae:Nat) (ah:Int) (ai:Option Addr) (aj:List D) (ak:Nat) (al:Option Addr) (am:List D) (ao:Nat) (N:Nat) (h :
Br (decide (I<aq)) (∃ a d,∃ c:Nat,(y0.cell 8)=D.sl a 9 d c/\(0<=I/\I<(d.length:Int))/\∀ a,N<=a->ACalls prog 139 [.bool] [.dg 9 (List.getD
 d I.toNat default)] a (λb c=>a<=c->Br b (vo Q N0 aq (IntKind.i64.wrap (I+1)) y0 J O U Y aa ab ac ae ah ai
 aj ak al am ao c) (∃ a b,∃ d:Nat,(y0.cell 8)=D.sl a 9 b d/\(0<=I/\I<(b.length:Int))/\∀ a,c<=a->ACalls prog
 104 [.ag 9,.int .i64] [.dg 9 (List.getD b I.toNat default)] a (λx n b=>a<=b->Bel b x->∀ a,b<=a->ACalls prog 101 [Sh.pk,.int .i64,
 .str,.str,.int .i64,Sh.dc,Sh.dc,Sh.dc,Sh.dc,.row (OfNat.ofNat 35) 9] [.dg 9 y0] a (λb s c d e f g h i j k=>a<=k->Bel k
 (D.ag i)->(0<=I/\I<(i.length:Int)/\(0+I.toNat:Nat)<i.length)/\(0+I.toNat:Nat)<i.length/\(i.length=(List.set i (0
 + I.toNat:Nat) x).length/\j=j)/\(i.length=(List.set i (0+I.toNat:Nat) x).length/\j=j)/\(i.length=(List.set i (0+I.toNat
 : Nat) x).length/\j=j)/\(i.length=(List.set i (0+I.toNat:Nat) x).length/\j=j)/\(i.length=(List.set i (0+I.toNat:Nat)
 x).length/\j=j)/\∀ a l,k<=l->Fresh N0 l a [D.ag (List.set i (0+I.toNat:Nat) x),e,f,g,h]->∀ k,l<=k->Q (D.ag
 [D.lit (.int .i64 b),D.lit (.string s),D.lit (.string c),D.lit (.int .i64 d),e,f,g,h,D.sl a 9 (List.set i (0+I.toNat:Nat) x) j])
 n k))))) (∀ a,N<=a->ACalls prog 166 [.ag 9,.int .i64] [.dg 9 y0] a (λb c d=>a<=d->Bel d b->∀ a,d<=a->Q b c a)) 
 ):vo Q N0 aq I y0 J O U Y aa ab ac ae ah ai aj ak al am ao N:=
  hE (H:=zD3) (by kernel_rfl) h
theorem zBg (N:Nat) (I:D) (n1:Int) (Q:QT [.bool]) (h :
Bel N I->∀ d,N<=d->ACalls prog 254 [.bool] [.dg 9 I,.int .i64 n1] d (λb e=>d<=e->Br (!b) (∀ a,e<=a->Q false a) (∃ a b,∃ c
 : Nat,(I.cell 8)=D.sl a 9 b c/\xo Q N n1 a b c (b.length:Int) 0 I e))):ACalls prog 161 [.bool] [.dg 9 I,.int .i64 n1,.fn 254 []] N Q:=
  eE (H:=pI) (by kernel_rfl) (by kernel_rfl) h
theorem sP (Q:QT [.ag 9,.int .i64,.bool]) (N0:Nat) (n1:Int) (aw:Option Addr) (J:List D) (ax:Nat) (au I:Int) (y0:D) (O:Int) (U Y:ByteArray) (aa ab:Int) (ac:Option Addr) (ae:List D) (ah:Nat) (ai:Int) (aj:Option Addr) (ak:List D) (al:Nat) (am:Option Addr) (ao:List D) (aq:Nat) (N:Nat) (h :
Br (decide (I<au)) ((0<=I/\I<(J.length:Int))/\∀ d,N<=d->ACalls prog 224 [.int .i64] [.dg 9 y0,.int .i64 n1] d (λn e=>d<=e
 -> ∀ d,e<=d->ACalls prog 163 [.ag 9,.int .i64,.bool] [.dg 9 (List.getD J I.toNat default),.int .i64 n,.fn 104 []] d (λx b e f=>d<=f
 -> Bel f x->Br e (∀ d,f<=d->ACalls prog 101 [Sh.pk,.int .i64,.str,.str,.int .i64,Sh.dc,Sh.dc,Sh.dc,Sh.dc,.row (OfNat.ofNat 35) 9] [.dg 9 y0]
 d (λc s e f g h i j k l m=>d<=m->Bel m (D.ag k)->(0<=I/\I<(k.length:Int)/\(0+I.toNat:Nat)<k.length)/\(0 +
 I.toNat:Nat)<k.length/\(k.length=(List.set k (0+I.toNat:Nat) x).length/\l=l)/\(k.length=(List.set k (0+I.toNat:Nat) x).length/\l
 = l)/\(k.length=(List.set k (0+I.toNat:Nat) x).length/\l=l)/\(k.length=(List.set k (0+I.toNat:Nat) x).length/\l=l)/\(k.length=(List.set
 k (0+I.toNat:Nat) x).length/\l=l)/\∀ a d,m<=d->Fresh N0 d a [D.ag (List.set k (0+I.toNat:Nat) x),g,h,i,j]->∀ m,d <=
 m->Q (D.ag [D.lit (.int .i64 c),D.lit (.string s),D.lit (.string e),D.lit (.int .i64 f),g,h,i,j,D.sl a 9 (List.set k (0+I.toNat:Nat)
 x) l]) b true m)) (yR Q N0 n1 aw J ax au (IntKind.i64.wrap (I+1)) y0 O U Y aa ab ac ae ah ai aj ak al am
 ao aq f)))) (∀ a,N<=a->Q y0 0 false a)):yR Q N0 n1 aw J ax au I y0 O U Y aa ab ac ae ah ai aj ak al am ao aq N:=
  hE (H:=zAE) (by kernel_rfl) h
theorem sc (Q:QT [.bool]) (N0:Nat) (n1:Int) (U:Option Addr) (J:List D) (Y:Nat) (O I:Int) (y0:D) (N:Nat) (h :
Br (decide (I<O)) ((0<=I/\I<(J.length:Int))/\∀ a,N<=a->ACalls prog 224 [.int .i64] [.dg 9 y0,.int .i64 n1] a (λn c=>a<=c
 -> ∀ a,c<=a->ACalls prog 161 [.bool] [.dg 9 (List.getD J I.toNat default),.int .i64 n,.fn 254 []] a (λb c=>a<=c->Br (!b) (∀ a,c
 <= a->Q false a) (xo Q N0 n1 U J Y O (IntKind.i64.wrap (I+1)) y0 c)))) (∀ a,N<=a->Q true a)):xo Q N0 n1 U J Y O I y0 N:=
  hE (H:=pI) (by kernel_rfl) h
end Go.Proofs.YtmfjakahanbnlaaGreatDoor
set_option maxRecDepth 100000
namespace Go.Proofs.YtmfjakahanbnlaaGreatDoor
open Go Go.Proofs Go.Proofs.Tryz
def zAU:Hint:=⟨[hc 3 [1,3,4]],[],[(5,hs 9 [ec 6 [17]])]⟩
def vY:Hint:=⟨[hc 5 [1,4,5,6]],[],[(1,hs 4 [ec 1 [9]]),(2,hs 3 [ec 1 [11]]),(5,hs 12 [ec 9 [23]]),(7,hs 8 [ec 1 [30]])]⟩
def si:Hint:=⟨[hc 5 [4,5,19,20]],[],[(1,hs 4 [{ i:=1,hard:=true,cl:=[8],fs:=[8] }]),(2,hs 7 [{ i:=4,hard:=true,cl:=[13],fs:=[13] }]),(6,hs 3 [{ i:=1,hard:=true,cl:=[22],fs:=[22] }]),(7,hs 8 [{ i:=1,hard:=true,cl:=[26],fs:=[26] }]),(9,hs 3 [{ i:=1,hard:=true,cl:=[32],fs:=[32] }])]⟩
def tS:Hint:=⟨[hc 6 [1,4,5,6]],[],[(1,hs 8 [ec 1 [9]]),(3,hs 4 [ec 1 [18]]),(6,hs 3 [ec 1 [22]]),(8,hs 2 [ec 1 [27]]),(12,hs 8 [ec 1 [39]])]⟩
def wr (Q:QT [.int .i64]) (N0:Nat) (I J:Int) (O:D) (N:Nat):Prop:=AT prog 84 [.int .i64] Q N0 .ord (zC prog 84 3) ⟨an 1 (.pb 0 0 0 0::an 1 (.int .i64 I::.int .i64 J::an 16 [])),[.vd O 9],N,none⟩
def uu (Q:QT [.ag 9]) (N0:Nat) (n1 n6 I:Int) (J O:ByteArray) (U Y:Int) (aa:Option Addr) (ab:List D) (ac:Nat) (ae:Int) (ah:Option Addr) (ai:List D) (aj:Nat) (ak:Option Addr) (al:List D) (am:Nat) (ao:Int) (aq au:ByteArray) (aw:Int) (ax ay az a1:D) (a6 a7:Nat) (r2:List D) (q2:Nat) (N:Nat):Prop:=AT prog 43 [.ag 9] Q N0 .ord (zC prog 43 5) ⟨an 1 (.int .i64 n1::an 2 (.pb 0 0 0 0::.pb 1 0 0 0::.int .i64 n6::an 32 [])),[.var [.int .i64 I,.str J,.str O,.int .i64 U,.int .i64 Y,.sv aa 2 ab ac,.int .i64 ae,.sv ah 2 ai aj,.sv ak 9 al am],.var [.int .i64 ao,.str aq,.str au,.int .i64 aw,.dc ax,.dc ay,.dc az,.dc a1,.sb 2 9 0 a6 a7],.arr 35 9 r2 q2],N,none⟩
def xI (Q:QT [.ag 9]) (N0:Nat) (a8 ba I:Int) (J O:ByteArray) (U Y:Int) (aa:Option Addr) (ab:List D) (ac:Nat) (ae:Int) (ah:Option Addr) (ai:List D) (aj:Nat) (ak:Option Addr) (al:List D) (am:Nat) (ao:Int) (aq au:ByteArray) (aw:Int) (ax ay az a1:D) (a6 a7:Nat) (r2:List D) (q2:Nat) (N:Nat):Prop:=AT prog 42 [.ag 9] Q N0 .ord (zC prog 42 5) ⟨an 4 (.pb 0 0 0 0::.pb 1 0 0 0::an 13 (.int .i64 a8::.int .i64 ba::an 15 [])),[.var [.int .i64 I,.str J,.str O,.int .i64 U,.int .i64 Y,.sv aa 2 ab ac,.int .i64 ae,.sv ah 2 ai aj,.sv ak 9 al am],.var [.int .i64 ao,.str aq,.str au,.int .i64 aw,.dc ax,.dc ay,.dc az,.dc a1,.sb 2 9 0 a6 a7],.arr 35 9 r2 q2],N,none⟩
def sy (Q:QT [.ag 11]) (N0:Nat) (n1 n6 J O:Int) (U Y:ByteArray) (aa ab:Int) (ac:Option Addr) (ae:List D) (ah:Nat) (ai:Int) (aj:Option Addr) (ak:List D) (al:Nat) (am:Option Addr) (ao:List D) (aq:Nat) (I au:Int) (aw ax:ByteArray) (ay:Int) (az a1 a6 a7:D) (a8 ba:Nat) (r2:List D) (q2:Nat) (N:Nat):Prop:=AT prog 31 [.ag 11] Q N0 .ord (zC prog 31 6) ⟨an 1 (.int .i64 n1::an 2 (.pb 0 0 0 0::.pb 1 0 0 0::.int .i64 n6::an 42 [])),[.var [.int .i64 J,.int .i64 O,.str U,.str Y,.int .i64 aa,.int .i64 ab,.sv ac 2 ae ah,.int .i64 ai,.sv aj 2 ak al,.sv am 9 ao aq,.int .i64 I],.var [.int .i64 au,.str aw,.str ax,.int .i64 ay,.dc az,.dc a1,.dc a6,.dc a7,.sb 2 9 0 a8 ba],.arr 35 9 r2 q2],N,none⟩
def yY (Q:QT [.ag 9]) (N0:Nat) (n1 n6 I:Int) (J O:ByteArray) (U Y:Int) (aa:Option Addr) (ab:List D) (ac:Nat) (ae:Int) (ah:Option Addr) (ai:List D) (aj:Nat) (ak:Option Addr) (al:List D) (am:Nat) (y1:D) (N:Nat):Prop:=AT prog 43 [.ag 9] Q N0 .ord (zC prog 43 5) ⟨an 1 (.int .i64 n1::an 2 (.pb 0 0 0 0::.pb 1 0 0 0::.int .i64 n6::an 32 [])),[.var [.int .i64 I,.str J,.str O,.int .i64 U,.int .i64 Y,.sv aa 2 ab ac,.int .i64 ae,.sv ah 2 ai aj,.sv ak 9 al am],.vd y1 9],N,none⟩
def yy (Q:QT [.ag 11]) (N0:Nat) (n1 n6 J O:Int) (U Y:ByteArray) (aa ab:Int) (ac:Option Addr) (ae:List D) (ah:Nat) (ai:Int) (aj:Option Addr) (ak:List D) (al:Nat) (am:Option Addr) (ao:List D) (aq:Nat) (I:Int) (y1:D) (N:Nat):Prop:=AT prog 31 [.ag 11] Q N0 .ord (zC prog 31 6) ⟨an 1 (.int .i64 n1::an 2 (.pb 0 0 0 0::.pb 1 0 0 0::.int .i64 n6::an 42 [])),[.var [.int .i64 J,.int .i64 O,.str U,.str Y,.int .i64 aa,.int .i64 ab,.sv ac 2 ae ah,.int .i64 ai,.sv aj 2 ak al,.sv am 9 ao aq,.int .i64 I],.vd y1 9],N,none⟩
theorem zIl (N:Nat) (I:D) (Q:QT [.int .i64]) (h :
Bel N I->wr Q N 1 0 I N):ACalls prog 84 [.int .i64] [PV.dg 9 I] N Q:=
 eE (H:=zAU) (by kernel_rfl) (by kernel_rfl) h
theorem zCa (N:Nat) (I:D) (n1:Int) (Q:QT [.ag 9]) (h :
Bel N I->∀ d,N<=d->ACalls prog 83 [Sh.pk,.int .i64,.str,.str,.int .i64,Sh.dc,Sh.dc,Sh.dc,Sh.dc,.row (OfNat.ofNat 35) 9] [.dg 9 I] d (λn s
 c e x f g h i j k=>d<=k->Bel k (D.ag i)->∀ d,k<=d->ACalls prog 82 [.bool] [.dg 9 I,.int .i64 0] d (λb k=>d<=k ->
 Br (!b) ((i.length=i.length/\j=j)/\(i.length=i.length/\j=j)/\(i.length=i.length/\j=j)/\(i.length=i.length/\j=j)/\∀ a b,k<=b
 -> Fresh N b a [D.ag i,x,f,g,h]->∀ d,b<=d->Q (D.ag [D.lit (.int .i64 n),D.lit (.string s),D.lit (.string c),D.lit (.int .i64 e),x,
 f,g,h,D.sl a 9 i j]) d) (uu Q N n1 0 0 (bytes []) (bytes []) 0 0 Option.none [] 0 0 Option.none [] 0 Option.none [] 0 n s c e x f
 g h i.length j i j k)))):ACalls prog 43 [.ag 9] [PV.dg 9 I,PV.int .i64 n1] N Q:=
  eE (H:=vY) (by kernel_rfl) (by kernel_rfl) h
theorem zCX (N:Nat) (I:D) (n1:Int) (Q:QT [.ag 9]) (h :
Bel N I->∀ d,N<=d->ACalls prog 101 [Sh.pk,.int .i64,.str,.str,.int .i64,Sh.dc,Sh.dc,Sh.dc,Sh.dc,.row (OfNat.ofNat 35) 9] [.dg 9 I] d (λn
 s c e x f g h i j k=>d<=k->Bel k (D.ag i)->Br (decide (n1<0)) ((i.length=i.length/\j=j)/\(i.length=i.length/\j=j)/\(i.length
 = i.length/\j=j)/\(i.length=i.length/\j=j)/\∀ a b,k<=b->Fresh N b a [D.ag i,x,f,g,h]->∀ d,b<=d->Q (D.ag [D.lit (.int
 .i64 n),D.lit (.string s),D.lit (.string c),D.lit (.int .i64 e),x,f,g,h,D.sl a 9 i j]) d) (∀ a,k<=a->ACalls prog 102 [.bool] [.dg 9
 I,.int .i64 0] a (λb d=>a<=d->Br (!b) ((i.length=i.length/\j=j)/\(i.length=i.length/\j=j)/\(i.length=i.length/\j=j)/\(i.length
 = i.length/\j=j)/\∀ a b,d<=b->Fresh N b a [D.ag i,x,f,g,h]->∀ d,b<=d->Q (D.ag [D.lit (.int .i64 n),D.lit (.string s),D.lit
 (.string c),D.lit (.int .i64 e),x,f,g,h,D.sl a 9 i j]) d) (xI Q N (if 200<n1 then 200 else n1) 0 0 (bytes []) (bytes []) 0
 0 Option.none [] 0 0 Option.none [] 0 Option.none [] 0 n s c e x f g h i.length j i j d))))):ACalls prog 42 [.ag 9] [PV.dg 9 I,PV.int .i64 n1] N Q:=
  eE (H:=si) (by kernel_rfl) (by kernel_rfl) h
theorem zFt (N:Nat) (I:D) (n1:Int) (Q:QT [.ag 11]) (h :
Bel N I->∀ a,N<=a->ACalls prog 82 [.bool] [.dg 9 I,.int .i64 0] a (λb d=>a<=d->Br (!b) (∀ a,d<=a->Q (D.ag [D.lit (.int .i64 0),
 D.lit (.int .i64 0),D.lit (.string (bytes [])),D.lit (.string (bytes [])),D.lit (.int .i64 0),D.lit (.int .i64 0),D.sl Option.none 2 [] 0,D.lit (.int .i64
 0),D.sl Option.none 2 [] 0,D.sl Option.none 9 [] 0,D.lit (.int .i64 0)]) a) (∀ a,d<=a->ACalls prog 63 [.bool] [.int .i64 n1,.int .i64 0,.int .i64
 200] a (λb d=>a<=d->Br (!b) (∀ a,d<=a->Q (D.ag [D.lit (.int .i64 0),D.lit (.int .i64 0),D.lit (.string (bytes [])),D.lit (.string
 (bytes [])),D.lit (.int .i64 0),D.lit (.int .i64 0),D.sl Option.none 2 [] 0,D.lit (.int .i64 0),D.sl Option.none 2 [] 0,D.sl Option.none 9 [] 0,D.lit (.int
 .i64 0)]) a) (∀ a,d<=a->ACalls prog 83 [Sh.pk,.int .i64,.str,.str,.int .i64,Sh.dc,Sh.dc,Sh.dc,Sh.dc,.row (OfNat.ofNat 35) 9] [.dg 9 I] a (fun
 n s b c x d e f g h i=>a<=i->Bel i (D.ag g)->sy Q N n1 0 0 0 (bytes []) (bytes []) 0 0 Option.none [] 0 0 Option.none [] 0
 Option.none [] 0 0 n s b c x d e f g.length h g h i)))))):ACalls prog 31 [.ag 11] [PV.dg 9 I,PV.int .i64 n1] N Q:=
  eE (H:=tS) (by kernel_rfl) (by kernel_rfl) h
theorem rO (Q:QT [.int .i64]) (N0:Nat) (n3 n4:Int) (y0:D) (N:Nat) (h :
∃ a b,∃ c:Nat,(y0.cell 8)=D.sl a 9 b c/\Br (decide (n4<(b.length:Int))) (∃ a b,∃ c:Nat,(y0.cell 8)=D.sl a 9 b c/\(0<=n4/\n4
 < (b.length:Int))/\∀ a,N<=a->ACalls prog 84 [.int .i64] [.dg 9 (List.getD b n4.toNat default)] a (fun n b=>a<=b->wr Q N0
 (IntKind.i64.wrap (n3+n)) (IntKind.i64.wrap (n4+1)) y0 b)) (∀ a,N<=a->Q n3 a)):wr Q N0 n3 n4 y0 N:=
  hE (H:=zAU) (by kernel_rfl) h
theorem zAe (Q:QT [.ag 9]) (N0:Nat) (n1 n6 ai:Int) (aj ak:ByteArray) (al am:Int) (ao:Option Addr) (aq:List D) (au:Nat) (aw:Int) (ax:Option Addr) (ay:List D) (az:Nat) (a1:Option Addr) (a6:List D) (a7:Nat) (ab:Int) (ac ae:ByteArray) (ah:Int) (I J O U:D) (Y aa:Nat) (r2:List D) (q2:Nat) (N:Nat) (h :
Br (decide (n6<n1)) (Br (decide (n6<200)) ((Y=r2.length/\aa=q2)/\(Y=r2.length/\aa=q2)/\∀ a b,N<=b->Fresh N0 b a [D.ag r2]->∀
 c,b<=c->ACalls prog 84 [.int .i64] [.dg 9 (D.ag [D.lit (.int .i64 ab),D.lit (.string ac),D.lit (.string ae),D.lit (.int .i64 ah),I,J,
 O,U,D.sl a 9 r2 q2])] c (λn b=>c<=b->Br (decide (n<=400)) (∀ c,b<=c->ACalls prog 86 [.ag 9,.int .i64] [.dg 9 (D.ag [D.lit (.int
 .i64 ab),D.lit (.string ac),D.lit (.string ae),D.lit (.int .i64 ah),I,J,O,U,D.sl a 9 r2 q2])] c (λx b d=>c<=d->Bel d
 x->Br (b==0) (∀ b,d<=b->Q (D.ag [D.lit (.int .i64 ab),D.lit (.string ac),D.lit (.string ae),D.lit (.int .i64 ah),I,J,O,U,
 D.sl a 9 r2 q2]) b) (yY Q N0 n1 (IntKind.i64.wrap (n6+1)) ai aj ak al am ao aq au aw ax ay az a1 a6 a7 x d)))
 (∀ c,b<=c->Q (D.ag [D.lit (.int .i64 ab),D.lit (.string ac),D.lit (.string ae),D.lit (.int .i64 ah),I,J,O,U,D.sl a 9 r2 q2])
 c))) ((Y=r2.length/\aa=q2)/\(Y=r2.length/\aa=q2)/\(Y=r2.length/\aa=q2)/\∀ a b,N<=b->Fresh N0 b a [D.ag r2,I,
 J,O,U]->∀ c,b<=c->Q (D.ag [D.lit (.int .i64 ab),D.lit (.string ac),D.lit (.string ae),D.lit (.int .i64 ah),I,J,O,U,
 D.sl a 9 r2 q2]) c)) ((Y=r2.length/\aa=q2)/\(Y=r2.length/\aa=q2)/\(Y=r2.length/\aa=q2)/\∀ a b,N<=b->Fresh N0 b
 a [D.ag r2,I,J,O,U]->∀ c,b<=c->Q (D.ag [D.lit (.int .i64 ab),D.lit (.string ac),D.lit (.string ae),D.lit (.int .i64 ah),
 I,J,O,U,D.sl a 9 r2 q2]) c)):uu Q N0 n1 n6 ai aj ak al am ao aq au aw ax ay az a1 a6 a7 ab ac ae ah I J O U Y aa r2 q2 N:=
  hE (H:=vY) (by kernel_rfl) h
theorem tJ (Q:QT [.ag 9]) (N0:Nat) (n19 n20 n0_0:Int) (s0_1 s0_2:ByteArray) (n0_3 n0_4:Int) (a0_5:Option Addr) (e0_5:List D) (c0_5:Nat) (n0_6:Int) (a0_7:Option Addr) (e0_7:List D) (c0_7:Nat) (a0_8:Option Addr) (e0_8:List D) (c0_8:Nat) (n1_0:Int) (s1_1 s1_2:ByteArray) (n1_3:Int) (x1_4 x1_5 x1_6 x1_7:D) (m1_8 c1_8:Nat) (r2:List D) (q2:Nat) (N:Nat) (h :
Br (decide (n20<n19)) ((m1_8=r2.length/\c1_8=q2)/\(m1_8=r2.length/\c1_8=q2)/\∀ a b,N<=b->Fresh N0 b a [D.ag r2,x1_4,x1_5,x1_6,x1_7] ->
 ∀ d,b<=d->ACalls prog 103 [.int .i64] [.dg 9 (D.ag [D.lit (.int .i64 n1_0),D.lit (.string s1_1),D.lit (.string s1_2),D.lit (.int .i64 n1_3),x1_4,x1_5,
 x1_6,x1_7,D.sl a 9 r2 q2])] d (fun n b=>d<=b->Br (decide (n>400)) (∀ c,b<=c->Q (D.ag [D.lit (.int .i64 n1_0),D.lit (.string s1_1),D.lit
 (.string s1_2),D.lit (.int .i64 n1_3),x1_4,x1_5,x1_6,x1_7,D.sl a 9 r2 q2]) c) (∀ d,b<=d->ACalls prog 104 [.ag 9,.int .i64] [.dg 9 (D.ag [D.lit
 (.int .i64 n1_0),D.lit (.string s1_1),D.lit (.string s1_2),D.lit (.int .i64 n1_3),x1_4,x1_5,x1_6,x1_7,D.sl a 9 r2 q2])] d (fun x b e=>d<=e ->
 Bel e x->Br (b==0) (∀ b,e<=b->Q (D.ag [D.lit (.int .i64 n1_0),D.lit (.string s1_1),D.lit (.string s1_2),D.lit (.int .i64 n1_3),x1_4,x1_5,x1_6,
 x1_7,D.sl a 9 r2 q2]) b) (∀ a,e<=a->ACalls prog 101 [Sh.pk,.int .i64,.str,.str,.int .i64,Sh.dc,Sh.dc,Sh.dc,Sh.dc,.row (OfNat.ofNat 35) 9] [.dg
 9 x] a (fun b s c d e f g h i j k=>a<=k->Bel k (D.ag i)->xI Q N0 n19 (IntKind.i64.wrap (n20+1)) n0_0 s0_1 s0_2 n0_3
 n0_4 a0_5 e0_5 c0_5 n0_6 a0_7 e0_7 c0_7 a0_8 e0_8 c0_8 b s c d e f g h i.length j i j k)))))) ((m1_8=r2.length/\c1_8=q2)/\(m1_8=r2.length
 /\ c1_8=q2)/\(m1_8=r2.length/\c1_8=q2)/\∀ a b,N<=b->Fresh N0 b a [D.ag r2,x1_4,x1_5,x1_6,x1_7]->∀ c,b<=c->Q (D.ag [D.lit
 (.int .i64 n1_0),D.lit (.string s1_1),D.lit (.string s1_2),D.lit (.int .i64 n1_3),x1_4,x1_5,x1_6,x1_7,D.sl a 9 r2 q2]) c)):xI Q N0 n19 n20 n0_0 s0_1 s0_2 n0_3 n0_4 a0_5 e0_5 c0_5 n0_6 a0_7 e0_7 c0_7 a0_8 e0_8 c0_8 n1_0 s1_1 s1_2 n1_3 x1_4 x1_5 x1_6 x1_7 m1_8 c1_8 r2 q2 N:=
  hE (H:=si) (by kernel_rfl) h
theorem zCj (Q:QT [.ag 11]) (N0:Nat) (n1 n6 n0_0 n0_1:Int) (s0_2 s0_3:ByteArray) (n0_4 n0_5:Int) (a0_6:Option Addr) (e0_6:List D) (c0_6:Nat) (n0_7:Int) (a0_8:Option Addr) (e0_8:List D) (c0_8:Nat) (a0_9:Option Addr) (e0_9:List D) (c0_9:Nat) (n0_10 n1_0:Int) (s1_1 s1_2:ByteArray) (n1_3:Int) (x1_4 x1_5 x1_6 x1_7:D) (m1_8 c1_8:Nat) (r2:List D) (q2:Nat) (N:Nat) (h :
(m1_8=r2.length/\c1_8=q2)/\(m1_8=r2.length/\c1_8=q2)/\∀ a c,N<=c->Fresh N0 c a [D.ag r2]->∀ d,c<=d->ACalls prog 84 [.int .i64] [.dg
 9 (D.ag [D.lit (.int .i64 n1_0),D.lit (.string s1_1),D.lit (.string s1_2),D.lit (.int .i64 n1_3),x1_4,x1_5,x1_6,x1_7,D.sl a 9 r2 q2])] d (fun n c=>
 d<=c->Br (decide (n>400)) (∀ a,c<=a->Q (D.ag [D.lit (.int .i64 3),D.lit (.int .i64 0),D.lit (.string (bytes [])),D.lit (.string (bytes [])),
 D.lit (.int .i64 0),D.lit (.int .i64 0),D.sl Option.none 2 [] 0,D.lit (.int .i64 0),D.sl Option.none 2 [] 0,D.sl Option.none 9 [] 0,D.lit (.int .i64 n6)])
 a) (∀ d,c<=d->ACalls prog 85 [.bool] [.dg 9 (D.ag [D.lit (.int .i64 n1_0),D.lit (.string s1_1),D.lit (.string s1_2),D.lit (.int .i64 n1_3),x1_4,x1_5,
 x1_6,x1_7,D.sl a 9 r2 q2])] d (fun b c=>d<=c->Br b (∀ b,c<=b->Q (D.ag [D.lit (.int .i64 1),D.lit (.int .i64 n1_0),D.lit (.string s1_1),
 D.lit (.string s1_2),D.lit (.int .i64 n1_3),x1_4,x1_5,x1_6,x1_7,D.sl a 9 r2 q2,D.lit (.int .i64 n6)]) b) (Br (n6==n1) (∀ b,c<=b->Q (D.ag [D.lit
 (.int .i64 2),D.lit (.int .i64 n1_0),D.lit (.string s1_1),D.lit (.string s1_2),D.lit (.int .i64 n1_3),x1_4,x1_5,x1_6,x1_7,D.sl a 9 r2 q2,D.lit (.int .i64
 n6)]) b) (∀ b,c<=b->ACalls prog 86 [.ag 9,.int .i64] [.dg 9 (D.ag [D.lit (.int .i64 n1_0),D.lit (.string s1_1),D.lit (.string s1_2),D.lit (.int .i64
 n1_3),x1_4,x1_5,x1_6,x1_7,D.sl a 9 r2 q2])] b (fun x c d=>b<=d->Bel d x->Br (c==0) (∀ b,d<=b->Q (D.ag [D.lit (.int .i64
 4),D.lit (.int .i64 n1_0),D.lit (.string s1_1),D.lit (.string s1_2),D.lit (.int .i64 n1_3),x1_4,x1_5,x1_6,x1_7,D.sl a 9 r2 q2,D.lit (.int .i64 n6)]) b)
 (yy Q N0 n1 (IntKind.i64.wrap (n6+1)) n0_0 n0_1 s0_2 s0_3 n0_4 n0_5 a0_6 e0_6 c0_6 n0_7 a0_8 e0_8 c0_8 a0_9 e0_9 c0_9 n0_10 x d)))))))):sy Q N0 n1 n6 n0_0 n0_1 s0_2 s0_3 n0_4 n0_5 a0_6 e0_6 c0_6 n0_7 a0_8 e0_8 c0_8 a0_9 e0_9 c0_9 n0_10 n1_0 s1_1 s1_2 n1_3 x1_4 x1_5 x1_6 x1_7 m1_8 c1_8 r2 q2 N:=
  hE (H:=tS) (by kernel_rfl) h
theorem vP (Q:QT [.ag 9]) (N0:Nat) (n1 n6 I:Int) (J O:ByteArray) (U Y:Int) (aa:Option Addr) (ab:List D) (ac:Nat) (ae:Int) (ah:Option Addr) (ai:List D) (aj:Nat) (ak:Option Addr) (al:List D) (am:Nat) (y1:D) (N:Nat) (h :
Br (decide (n6<n1)) (Br (decide (n6<200)) (∀ a,N<=a->ACalls prog 84 [.int .i64] [.dg 9 y1] a (λn b=>a<=b->Br (decide (n<=400)) (∀ a,
 b<=a->ACalls prog 86 [.ag 9,.int .i64] [.dg 9 y1] a (λx b c=>a<=c->Bel c x->Br (b==0) (∀ a,c<=a->Q y1 a) (yY
 Q N0 n1 (IntKind.i64.wrap (n6+1)) I J O U Y aa ab ac ae ah ai aj ak al am x c))) (∀ a,b<=a->Q y1 a))) (∀ a,N
 <= a->Q y1 a)) (∀ a,N<=a->Q y1 a)):yY Q N0 n1 n6 I J O U Y aa ab ac ae ah ai aj ak al am y1 N:=
  hE (H:=vY) (by kernel_rfl) h
theorem uP (Q:QT [.ag 11]) (N0:Nat) (n1 n6 O U:Int) (Y aa:ByteArray) (ab ac:Int) (ae:Option Addr) (ah:List D) (ai:Nat) (aj:Int) (ak:Option Addr) (al:List D) (am:Nat) (ao:Option Addr) (aq:List D) (au:Nat) (J:Int) (I:D) (N:Nat) (h :
∀ a,N<=a->ACalls prog 84 [.int .i64] [.dg 9 I] a (λn c=>a<=c->Br (decide (n>400)) (∀ a,c<=a->Q (D.ag [D.lit (.int .i64 3),D.lit
 (.int .i64 0),D.lit (.string (bytes [])),D.lit (.string (bytes [])),D.lit (.int .i64 0),D.lit (.int .i64 0),D.sl Option.none 2 [] 0,D.lit (.int .i64 0),D.sl
 Option.none 2 [] 0,D.sl Option.none 9 [] 0,D.lit (.int .i64 n6)]) a) (∀ a,c<=a->ACalls prog 85 [.bool] [.dg 9 I] a (λb c=>a<=c->Br b
 (∀ a,c<=a->Q (D.ag [D.lit (.int .i64 1),(I.cell 0),(I.cell 1),(I.cell 2),(I.cell 3),(I.cell 4),(I.cell 5),(I.cell 6),(I.cell 7),(I.cell
 8),D.lit (.int .i64 n6)]) a) (Br (n6==n1) (∀ a,c<=a->Q (D.ag [D.lit (.int .i64 2),(I.cell 0),(I.cell 1),(I.cell 2),(I.cell 3),(I.cell 4),
 (I.cell 5),(I.cell 6),(I.cell 7),(I.cell 8),D.lit (.int .i64 n6)]) a) (∀ a,c<=a->ACalls prog 86 [.ag 9,.int .i64] [.dg 9 I] a (λx b c
 => a<=c->Bel c x->Br (b==0) (∀ a,c<=a->Q (D.ag [D.lit (.int .i64 4),(I.cell 0),(I.cell 1),(I.cell 2),(I.cell 3),(I.cell 4),(I.cell
 5),(I.cell 6),(I.cell 7),(I.cell 8),D.lit (.int .i64 n6)]) a) (yy Q N0 n1 (IntKind.i64.wrap (n6+1)) O U Y aa ab ac ae
 ah ai aj ak al am ao aq au J x c)))))))):yy Q N0 n1 n6 O U Y aa ab ac ae ah ai aj ak al am ao aq au J I N:=
  hE (H:=tS) (by kernel_rfl) h
end Go.Proofs.YtmfjakahanbnlaaGreatDoor
